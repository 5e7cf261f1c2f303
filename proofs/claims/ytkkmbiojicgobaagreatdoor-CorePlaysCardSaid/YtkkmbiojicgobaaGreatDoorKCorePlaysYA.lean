/- What the law 'CorePlays' uses. No condition. -/
import Derived.Test.YtkkmbiojicgobaaGreatDoorKCorePlaysH
import Derived.Test.YtkkmbiojicgobaaGreatDoorKCorePlaysN
import Derived.Test.YtkkmbiojicgobaaGreatDoorKCorePlaysP
import Derived.Test.YtkkmbiojicgobaaGreatDoorKCorePlaysQ
import Derived.Test.YtkkmbiojicgobaaGreatDoorKCorePlaysS
import Derived.Test.YtkkmbiojicgobaaGreatDoorKCorePlaysV
import Derived.Test.YtkkmbiojicgobaaGreatDoorKCorePlaysW
set_option linter.unusedSimpArgs false
set_option linter.unusedVariables false
namespace Go.Proofs.YtkkmbiojicgobaaGreatDoor
set_option linter.defProp false
def aeK:=@if_neg
def aeL:=@if_pos
def aeM:=@List.mem_cons
def aeN:=@List.take_length
def aeO:=@List.mem_map
def aeP:=@List.mem_filter
def aeQ:=@Nat.le_trans
def aeR:=@List.length_filter_le
def aeS:=@decide_eq_true
def aeT:=@Bool.not_eq_true'
def aeU:=@Bool.not_eq_false'
def aeV:=@Bool.false_eq_true
def aeW:=@if_false
def aeX:=@beq_iff_eq
def aeY:=@if_true
def aeZ:=@List.append_nil
def ae0:=@Nat.le_refl
def ae1:=@List.pairwise_map
def ae2:=@List.take_add_one
def ae3:=@List.filter_eq_self
def ae4:=@Nat.zero_le
def ae5:=@Bool.and_false
def ae6:=@Option.map_some
def ae7:=@decide_eq_false
def ae8:=@Bool.false_and
def ae9:=@Bool.eq_iff_iff
def afa:=@List.length_take
def afb:=@List.getD_cons_zero
def afc:=@List.getD_cons_succ
def afd:=@List.getElem?_eq_some_iff
def afe:=@List.nil_append
def aff:=@List.take_append_drop
def afg:=@Nat.min_eq_left
def afh:=@List.take_of_length_le
def afi:=@Option.isSome_eq_false_iff
def afj:=@Option.isNone_iff_eq_none
def afk:=@decide_eq_true_eq
def afl:=@Option.getD_some
def afm:=@List.find?_eq_none
def afn:=@List.filter_append
def afo:=@Option.toList_some
def afp:=@List.filter_cons
def afq:=@List.cons_append
open Tryz
set_option linter.unusedVariables false
set_option maxRecDepth 4000
theorem Ly(q:Nat)(s:cm)(T:ax)(h:fc q s T)(f:0<=s.now)(g:s.now<=1125899906842624)(n:Int)(R:au):
  Spec prog 21 [pT q,.int .i64 n] R [T] λv H'=>∃T',H'=[T']/\v=.int .i64 (eQ s n).1/\fc q (eQ s n).2 T':=
 (wP q s.cs s.C s.A s.V s.last s.now T h f g n R).mono λv H' ⟨T',b,a,c,d⟩=>by
  refine⟨T',b,?_⟩
  unfold eQ
  by_cases e:ej n s.now=0
  ·rw[aeK (by simp[e])]
   exact⟨by rw[a,e],(d e).2⟩
  ·rw[aeL e]
   exact⟨a,c e⟩
theorem Lu(q:Nat)(s:cm)(T:ax)(h:fc q s T)(user id:ByteArray)(z:user.size<=9223372036854775807)(vs:Value)(a:List ByteArray)(R:au)(w:RS R 1 bz vs a)(y:a.length<=100000)(o:∀p∈s.C,p.2.length<=1000000):
  Spec prog 24 [pT q,.string user,.string id,vs] R [T] λv H'=>∃T',H'=[T']/\v=.int .i64 (ec s user id a).1/\fc q (ec s user id a).2 T':=
 (wx q s.cs s.C s.A s.V s.last s.now T h user id z vs a R w y o).mono λv H' ⟨T',i,d,D,j,k,b⟩=>by
  refine⟨T',i,?_⟩
  unfold ec
  by_cases e:dH s.cs user id a=0
  ·rw[aeK (by simp[e])]
   obtain⟨l,t,f,E,g⟩:=k e
   have r:l=jk (dB s.C user id) a:=yp t f
   have u:l≠[]:=λm=>by
    obtain⟨_,_,c⟩:=wu e
    have n:0<a.length:=by unfold eG at c;simp only[Bool.and_eq_true,afk]at c;exact c.2.1
    obtain⟨x,B⟩:=List.exists_mem_of_length_pos n
    have:=(f x).2 (.inr B)
    rw[m]at this;cases this
   rw[aeK u,r]at g
   subst g
   exact⟨by rw[d,e],b⟩
  ·rw[aeL e]
   rw[j e]at b
   exact⟨d,b⟩
theorem pg(s:ByteArray)(n:Nat):(short s n).size<=n:=by
 unfold short
 split
 ·simp;omega
 ·omega
theorem wT{s:cm}{x:OC}(h:x.kind=0):eV s x=(e0,e0,eQ s x.n):=by
 unfold eV
 rw[aeL h]
theorem wU{s:cm}{x:OC}(h:x.kind=1):eV s x=(e0,e0,nO s x.cl):=by
 unfold eV
 rw[aeK (by omega),aeL h]
theorem wV{s:cm}{x:OC}(h:x.kind=2):eV s x=(e0,e0,gJ s x.id):=by
 unfold eV
 rw[aeK (by omega),aeK (by omega),aeL h]
theorem wW{s:cm}{x:OC}(h:x.kind=3):eV s x=(e0,e0,ec s x.user x.id x.scopes):=by
 unfold eV
 rw[aeK (by omega),aeK (by omega),aeK (by omega),aeL h]
theorem wX{s:cm}{x:OC}(h:x.kind=4):eV s x=(e0,e0,gL s x.user x.id):=by
 unfold eV
 rw[aeK (by omega),aeK (by omega),aeK (by omega),aeK (by omega),aeL h]
theorem wY{s:cm}{x:OC}(h:x.kind=5):eV s x=((bo s x.user x.id x.uri x.scopes x.word x.a).1,e0,(bo s x.user x.id x.uri x.scopes x.word x.a).2):=by
 unfold eV
 rw[aeK (by omega),aeK (by omega),aeK (by omega),aeK (by omega),aeK (by omega),aeL h]
theorem wZ{s:cm}{x:OC}(h:x.kind=6):eV s x=bN s x.id x.cy x.text x.uri x.word x.a x.r x.rev:=by
 unfold eV
 rw[aeK (by omega),aeK (by omega),aeK (by omega),aeK (by omega),aeK (by omega),aeK (by omega),aeL h]
theorem w7{s:cm}{x:OC}(h:x.kind=7):eV s x=dI s x.id x.cy x.text x.scopes x.a x.r x.rev:=by
 unfold eV
 rw[aeK (by omega),aeK (by omega),aeK (by omega),aeK (by omega),aeK (by omega),aeK (by omega),aeK (by omega),aeL h]
theorem w8{s:cm}{x:OC}(h:x.kind=8):eV s x=(e0,e0,gK s x.id x.cy x.text):=by
 unfold eV
 rw[aeK (by omega),aeK (by omega),aeK (by omega),aeK (by omega),aeK (by omega),aeK (by omega),aeK (by omega),aeK (by omega),aeL h]
theorem xa{s:cm}{x:OC}(h:x.kind<0\/8<x.kind):eV s x=(e0,e0,0,s):=by
 unfold eV
 rw[aeK (by omega),aeK (by omega),aeK (by omega),aeK (by omega),aeK (by omega),aeK (by omega),aeK (by omega),aeK (by omega),aeK (by omega)]
theorem K9(q:Nat)(s:cm)(T:ax)(h:fc q s T)(k:Nat)(e:OB s k)(G:k<=1000)(w:OV)(x:OC)(R:au)(J:OR R w x)(L:PC R (pT 1) (wv ks)):
  Spec prog 6 [pT q,.agg (iS w x).toArray] R [T] λv H'=>∃T',H'=[T']/\v=.tuple [.string (eV s x.bQ).1,.string (eV s x.bQ).2.1,.int .i64 (eV s x.bQ).2.2.1].toArray/\fc q (eV s x.bQ).2.2.2 T':=by
 have U:bG (iS w x):=⟨J.bD⟩
 have K:∀p∈s.C,p.2.length<=1000000:=λp O=>by have:=e.cl p O;omega
 have X:x.bQ.user.size<=40:=pg _ _
 have Y:x.bQ.word.size<=140:=pg _ _
 have Z:x.bQ.scopes.length<=6:=by show(texts x.scopes 6 40).length<=6;simp[texts];omega
 have z4:x.bQ.a.length<=30:=by show(x.a.take 30).length<=30;simp;omega
 have z5:x.bQ.r.length<=30:=by show(x.r.take 30).length<=30;simp;omega
 refine Spec.body func6 rfl results6 ntmps6 rfl ?_
 refine .sr ?_
 refine .dA rfl (λS=>?_)
 refine .ag rfl<|.ag rfl<|.ag rfl<|.z<|.q (.bI rfl) ?_
 refine .cW (wO w x _ (J.mono λb o e=>.inl e)) (λu I Q=>?_)
 obtain⟨g,rfl,f⟩:=Q
 have W:bG (iS g x.bQ):=⟨f.bD⟩
 have j:∀(H:au) (H':aV),I∈H'->∀b o,sg I b o->Rx H H' b o:=λH H' N b o e=>.inr (List.mem_flatten.2 ⟨_,N,e⟩)
 refine .cc rfl rfl<|.zs<|.sr<|.fa rfl<|.lo rfl<|.zn<|.block<|.sr<|.q .bR<|.az rfl ?_
 refine .cond rfl (λl=>?_) λl=>?_
 refine .sr<|.mo rfl<|.fa rfl<|.lo rfl ?_
 refine .bT (Ly q s T h e.n0 e.n1 x.bQ.n R) (λv i c=>?_)
 obtain⟨rfl,c⟩:=c
 refine .ag rfl<|.ag rfl<|.az rfl ?_
 refine .ret (bp (aI (aN _ (.three (.tmp rfl) (.tmp rfl) (.tmp rfl)) (.one [2] _) ?_)))
 ·rw[wT (x:=x.bQ) (by have d:=l;simp only[aeX]at d;exact d)]
  exact⟨_,rfl,rfl,by simpa[take,aY]using c⟩
 refine .sr<|.q .bR<|.az rfl ?_
 refine .cond rfl (λm=>?_) λm=>?_
 refine .sr<|.mo rfl<|.fa rfl<|.q (.loadT rfl) ?_
 refine .jK (wo q s.cs s.C s.A s.V s.last s.now T h g.cr x.bQ.cl _ (f.1.mono (j _ _ (by simp))) (bx.xW x.cl) (bx.sH x.cl)) (λv i c=>?_)
 obtain⟨rfl,c⟩:=c
 have c:fc q (nO s x.bQ.cl).2 i:=c
 refine .ag rfl<|.ag rfl<|.az rfl ?_
 refine .ret (bp (aI (aN _ (.three (.tmp rfl) (.tmp rfl) (.tmp rfl)) (.one [2] _) ?_)))
 ·rw[wU (x:=x.bQ) (by have d:=m;simp only[aeX]at d;exact d)]
  exact⟨_,rfl,rfl,by simpa[take,aY]using c⟩
 refine .sr<|.q .bR<|.az rfl ?_
 refine .cond rfl (λt=>?_) λt=>?_
 refine .sr<|.mo rfl<|.fa rfl<|.lo rfl ?_
 refine .bT (Lh q s T h x.bQ.id R) (λv i c=>?_)
 obtain⟨rfl,c⟩:=c
 refine .ag rfl<|.ag rfl<|.az rfl ?_
 refine .ret (bp (aI (aN _ (.three (.tmp rfl) (.tmp rfl) (.tmp rfl)) (.one [2] _) ?_)))
 ·rw[wV (x:=x.bQ) (by have d:=t;simp only[aeX]at d;exact d)]
  exact⟨_,rfl,rfl,by simpa[take,aY]using c⟩
 refine .sr<|.q .bR<|.az rfl ?_
 refine .cond rfl (λy=>?_) λy=>?_
 refine .sr<|.mo rfl<|.fa rfl<|.lo rfl<|.fa rfl<|.lo rfl<|.fa rfl<|.lo rfl ?_
 refine .jK (Lu q s T h x.bQ.user x.bQ.id (by omega) g.vs x.bQ.scopes _ (f.2.1.mono (j _ _ (by simp))) (by omega) K) (λv i c=>?_)
 obtain⟨rfl,c⟩:=c
 refine .ag rfl<|.ag rfl<|.az rfl ?_
 refine .ret (bp (aI (aN _ (.three (.tmp rfl) (.tmp rfl) (.tmp rfl)) (.one [2] _) ?_)))
 ·rw[wW (x:=x.bQ) (by have d:=y;simp only[aeX]at d;exact d)]
  exact⟨_,rfl,rfl,by simpa[take,aY]using c⟩
 refine .sr<|.q .bR<|.az rfl ?_
 refine .cond rfl (λB=>?_) λB=>?_
 refine .sr<|.mo rfl<|.fa rfl<|.lo rfl<|.fa rfl<|.lo rfl ?_
 refine .bT (Lr q s T h x.bQ.user x.bQ.id R) (λv i c=>?_)
 obtain⟨rfl,c⟩:=c
 refine .ag rfl<|.ag rfl<|.az rfl ?_
 refine .ret (bp (aI (aN _ (.three (.tmp rfl) (.tmp rfl) (.tmp rfl)) (.one [2] _) ?_)))
 ·rw[wX (x:=x.bQ) (by have d:=B;simp only[aeX]at d;exact d)]
  exact⟨_,rfl,rfl,by simpa[take,aY]using c⟩
 refine .sr<|.q .bR<|.az rfl ?_
 refine .cond rfl (λD=>?_) λD=>?_
 refine .sr<|.mo rfl<|.fa rfl<|.lo rfl<|.fa rfl<|.lo rfl<|.fa rfl<|.lo rfl<|.fa rfl<|.lo rfl<|.fa rfl<|.lo rfl<|.fa rfl<|.lo rfl ?_
 refine .jK (K2 q s T h k e G x.bQ.user x.bQ.id x.bQ.uri g.vs x.bQ.scopes x.bQ.word g.va x.bQ.a (by omega) (by omega) (by omega) (by omega) _ (f.2.1.mono (j _ _ (by simp))) (f.2.2.1.mono (j _ _ (by simp)))) (λv i c=>?_)
 obtain⟨rfl,c⟩:=c
 refine .mo rfl<|.q .extract<|.q .extract<|.ag rfl<|.ag rfl<|.z<|.mo rfl<|.mo rfl<|.ag rfl<|.ag rfl<|.az rfl ?_
 refine .ret (bp (aI (aN _ (.three (.tmp rfl) (.tmp rfl) (.tmp rfl)) (.one [2] _) ?_)))
 ·rw[wY (x:=x.bQ) (by have d:=D;simp only[aeX]at d;exact d)]
  exact⟨_,rfl,rfl,by simpa[take,aY]using c⟩
 refine .sr<|.q .bR<|.az rfl ?_
 refine .cond rfl (λE=>?_) λE=>?_
 refine .sr<|.mo rfl<|.fa rfl<|.lo rfl<|.fa rfl<|.lo rfl<|.fa rfl<|.lo rfl<|.fa rfl<|.lo rfl<|.fa rfl<|.lo rfl<|.fa rfl<|.lo rfl<|.fa rfl<|.lo rfl<|.fa rfl<|.lo rfl ?_
 refine .jK (La q s T h k e G x.bQ.id x.bQ.cy x.bQ.text x.bQ.uri x.bQ.word g.va g.vr x.bQ.a x.bQ.r x.bQ.rev (by omega) (by omega) (by omega) _ (f.2.2.1.mono (j _ _ (by simp))) (f.2.2.2.mono (j _ _ (by simp))) (L.mono λb o e=>.inl e)) (λv i c=>?_)
 obtain⟨rfl,c⟩:=c
 refine .q .extract<|.q .extract<|.q .extract<|.ag rfl<|.ag rfl<|.az rfl ?_
 refine .ret (bp (aI (aN _ (.three (.tmp rfl) (.tmp rfl) (.tmp rfl)) (.one [2] _) ?_)))
 ·rw[wZ (x:=x.bQ) (by have d:=E;simp only[aeX]at d;exact d)]
  exact⟨_,rfl,rfl,by simpa[take,aY]using c⟩
 refine .sr<|.q .bR<|.az rfl ?_
 refine .cond rfl (λF=>?_) λF=>?_
 refine .sr<|.mo rfl<|.fa rfl<|.lo rfl<|.fa rfl<|.lo rfl<|.fa rfl<|.lo rfl<|.fa rfl<|.lo rfl<|.fa rfl<|.lo rfl<|.fa rfl<|.lo rfl<|.fa rfl<|.lo rfl ?_
 refine .jK (Lg q s T h k e G x.bQ.id x.bQ.cy x.bQ.text g.vs x.bQ.scopes g.va g.vr x.bQ.a x.bQ.r x.bQ.rev (by omega) (by omega) (by omega) _ (f.2.1.mono (j _ _ (by simp))) (f.2.2.1.mono (j _ _ (by simp))) (f.2.2.2.mono (j _ _ (by simp)))) (λv i c=>?_)
 obtain⟨rfl,c⟩:=c
 refine .q .extract<|.q .extract<|.q .extract<|.ag rfl<|.ag rfl<|.az rfl ?_
 refine .ret (bp (aI (aN _ (.three (.tmp rfl) (.tmp rfl) (.tmp rfl)) (.one [2] _) ?_)))
 ·rw[w7 (x:=x.bQ) (by have d:=F;simp only[aeX]at d;exact d)]
  exact⟨_,rfl,rfl,by simpa[take,aY]using c⟩
 refine .sr<|.q .bR<|.az rfl ?_
 refine .cond rfl (λd=>?_) λd=>?_
 refine .sr<|.mo rfl<|.fa rfl<|.lo rfl<|.fa rfl<|.lo rfl<|.fa rfl<|.lo rfl ?_
 refine .bT (Li q s T h x.bQ.id x.bQ.cy x.bQ.text R) (λv i c=>?_)
 obtain⟨rfl,c⟩:=c
 refine .ag rfl<|.ag rfl<|.az rfl ?_
 refine .ret (bp (aI (aN _ (.three (.tmp rfl) (.tmp rfl) (.tmp rfl)) (.one [2] _) ?_)))
 ·rw[w8 (x:=x.bQ) (by have d:=d;simp only[aeX]at d;exact d)]
  exact⟨_,rfl,rfl,by simpa[take,aY]using c⟩
 refine .skip<|bw<|aD<|.sr<|.ag rfl<|.ag rfl<|.az rfl ?_
 refine .ret (aN _ (.three (.tmp rfl) (.tmp rfl) (.tmp rfl)) (.one [2] _) ?_)
 ·have M:x.bQ.kind<0\/8<x.bQ.kind:=by
   simp only[beq_eq_false_iff_ne,ne_eq]at l m t y B D E F d
   omega
  rw[xa (x:=x.bQ) M]
  exact⟨_,rfl,rfl,by simpa[take,aY]using h⟩
theorem K6(q a:Nat)(b c d:Value)(R:au) [pc:PC R (pT q) [pT a,b,c,d]]:Spec prog 57 [pT q] R [] λv H'=>v=pT a/\H'=[]:=by
 refine Spec.body func57 rfl results57 ntmps57 rfl ?_
 refine .sr<|.ag rfl<|.zs<|.sr<|.mo rfl ?_
 refine .aL (kp q a b c d _) (λv e=>?_)
 subst e
 refine .q .not<|.zn<|.bX<|.kn<|.sr<|.mo rfl<|.nc rfl<|.fa rfl<|.lo rfl<|.az rfl ?_
 refine .ret (aO rfl ?_)
 ·exact⟨rfl,rfl⟩
theorem wQ(q a g:Nat)(b d:Value)(R:au) [pc:PC R (pT q) [pT a,b,pT g,d]]:Spec prog 9 [pT q] R [] λv H'=>v=pT g/\H'=[]:=by
 refine Spec.body func9 rfl results9 ntmps9 rfl ?_
 refine .sr<|.ag rfl<|.zs<|.sr<|.mo rfl ?_
 refine .aL (kp q a b _ d _) (λv c=>?_)
 subst c
 refine .q .not<|.zn<|.bX<|.kn<|.sr<|.mo rfl<|.nc rfl<|.fa rfl<|.lo rfl<|.az rfl ?_
 refine .ret (aO rfl ?_)
 ·exact⟨rfl,rfl⟩
theorem Lj(v w:Value)(l m:List ByteArray)(R:au)(h:RS R 1 bz v l)(j:RS R 1 bz w m):Spec prog 104 [v,w] R [] λu H'=>u=.bool (jD l m)/\H'=[]:=by
 have t:=h.av
 have y:=j.av
 have s:=h.le
 refine Spec.body func104 rfl results104 ntmps104 rfl ?_
 refine .sr<|.ag rfl<|.zs<|.sr<|.az rfl<|.block ?_
 refine .loop (X:=Nat) (λi=>i<=l.length/\jD (l.take i) m=true) (λi=>[(0,v),(1,w),(5,iN i)]) (λ_=>[]) (λi=>l.length-i) 0 ⟨ae4 _,by simp[jD]⟩ kE.c.c.c rH ?_
 rintro i ⟨r,a⟩
 refine .seq<|.sr<|.mo rfl<|.mo rfl<|.q (.di h) ?_
 refine .q .lss<|.zn ?_
 refine .cond rfl (λb=>?_) λb=>?_
 have n:i<l.length:=by simp at b;omega
 obtain⟨z,g⟩:=dR n
 refine .kn<|.seq<|.block<|.sr<|.mo rfl<|.mo rfl<|.mo rfl ?_
 refine .ct i h g (λA=>?_)
 refine .lo rfl ?_
 refine .aL (nA w m z _ j.rx) (λu o=>?_)
 subst o
 refine .q .not<|.zn ?_
 refine .cond rfl (λd=>?_) λd=>?_
 refine .sr<|.az rfl ?_
 refine .ret (bp (aI (dj (bp (aI (aO rfl ?_))))))
 ·refine⟨congrArg Value.bool ?_,rfl⟩
  have f:¬z∈m:=by simpa using d
  exact(Bool.eq_false_iff.2 λe=>f (nN.1 e z (bU g))).symm
 refine .skip<|bw<|aD<|.region<|.mo rfl ?_
 refine .ia (i+1) .add ?_
 refine .ag rfl<|.nil ?_
 ·refine bd (i+1) ⟨by omega,?_⟩ (by omega) kE.c.c.c rH
  have f:z∈m:=by simpa using d
  rw[nN]at a⊢
  intro x p
  rcases(oW g x).1 p with h8|rfl
  ·exact a x h8
  ·exact f
 refine .exit<|bE<|bH<|bF<|aD<|.sr<|.az rfl ?_
 refine .ret (aO rfl ?_)
 ·have k:i=l.length:=by simp at b;omega
  rw[k,aeN]at a
  exact⟨by rw[a],rfl⟩
abbrev OD:Type:=OV×OC
def uH(d:OD):List Value:=iS d.1 d.2
def fo(L:List bJ):List (ByteArray×bJ):=L.map λt=>(t.text,t)
structure eX(A:List (ByteArray×bJ))(ps:List GP):Prop where
 pm:(fo (eJ ps)).Perm A
 ga:(eJ ps).Pairwise λc d=>cq c.text d.text=true
theorem vL{L:List bJ}(h:L.Pairwise λc d=>cq c.text d.text=true):((fo L).map (·.1)).Nodup:=by
 unfold fo;rw[List.map_map];exact rb (λt:bJ=>t.text) h
theorem eX.get{A:List (ByteArray×bJ)}{ps:List GP}(h:eX A ps)(k:ByteArray):aS k (fo (eJ ps))=aS k A:=nJ h.pm (vL h.ga)
theorem eX.len{A:List (ByteArray×bJ)}{ps:List GP}(h:eX A ps):A.length=ps.length:=by have:=h.pm.length_eq;simpa[fo]using this.symm
theorem KG{L:List bJ}{q:bJ->Bool}:(fo L).filter (λx=>q x.2)=fo (L.filter q):=by unfold fo;rw[List.filter_map];rfl
theorem um{ps:List GP}{q:bJ->Bool}:eJ (ps.filter λp=>q p.2)=(eJ ps).filter q:=by unfold eJ;rw[List.filter_map];rfl
theorem eX.filter{A:List (ByteArray×bJ)}{ps:List GP}(h:eX A ps)(q:bJ->Bool):eX (A.filter λx=>q x.2) (ps.filter λp=>q p.2):=by
 refine⟨?_,?_⟩
 ·rw[um, <-KG];exact h.pm.filter _
 ·rw[um];exact h.ga.filter _
theorem eX.add{A:List (ByteArray×bJ)}{ps:List GP}(h:eX A ps){w:Value}{t:bJ}(f:aS t.text A=none):eX (cO t.text t A) (de (ay dP) (w,t) ps):=by
 refine⟨?_,?_⟩
 ·have d:(de (ay dP) ((w,t):GP) ps).Perm ((w,t)::ps):=eO
  have e:(fo (eJ (de (ay dP) ((w,t):GP) ps))).Perm ((t.text,t)::fo (eJ ps)):=(d.map (λp:GP=>p.2)).map λu:bJ=>(u.text,u)
  refine e.trans ?_
  unfold cO
  rw[m1 (ig.1 f)]
  exact(h.pm.cons _).trans (List.perm_append_singleton _ _).symm
 ·have g:(de (ay dP) ((w,t):GP) ps).Pairwise λp q=>ay dP p q=true:=by
   refine ny vl.tr ?_ λq j=>?_
   ·have:=h.ga
    rw[eJ,ae1]at this
    exact this.imp λ{a b} c=>by rw[lj];exact c
   ·rw[lj,lj]
    simp only
    cases d:cq t.text q.2.text with
    |true=>exact .inl rfl
    |false=>
     right
     cases e:cq q.2.text t.text with
     |true=>rfl
     |false=>
      have i:=lp d e
      have:(t.text,q.2)∈A:=h.pm.mem_iff.1 (by rw[i];exact aeO.2 ⟨q.2,aeO.2 ⟨q,j,rfl⟩,rfl⟩)
      exact absurd (aeO.2 ⟨_,this,rfl⟩) (ig.1 f)
  rw[eJ,ae1]
  exact g.imp λ{a b} c=>by rw[lj]at c;exact c
theorem eX.set{A:List (ByteArray×bJ)}{ps:List GP}(h:eX A ps){i:Nat}{w w':Value}{t u:bJ}(g:ps[i]? =some (w,t))(c:u.text=t.text):eX (cO t.text u A) (ps.set i (w',u)):=by
 obtain⟨X,Y,e,f⟩:=xV g
 rw[f]
 clear f g
 subst e
 refine⟨?_,?_⟩
 ·have j:=vL h.ga
  refine List.Perm.trans ?_ (mH h.pm)
  have n:fo (eJ (X++(w,t)::Y))=fo (eJ X)++(t.text,t)::fo (eJ Y):=by simp[fo]
  have o:fo (eJ (X++(w',u)::Y))=fo (eJ X)++(t.text,u)::fo (eJ Y):=by simp[fo,c]
  rw[n]at j⊢
  rw[o]
  exact rX j
 ·have b:=h.ga
  rw[eJ,ae1]at b⊢
  rw[List.pairwise_append,List.pairwise_cons]at b⊢
  obtain⟨k,⟨l,m⟩,d⟩:=b
  refine⟨k,⟨λp a=>by simp only[c];exact l p a,m⟩,λp a q hq=>?_⟩
  rcases aeM.1 hq with rfl|hq
  ·simp only[c];exact d p a (w,t) (by simp)
  ·exact d p a q (List.mem_cons_of_mem _ hq)
structure fW(C:List (cw×List ByteArray))(ps:List NP):Prop where
 pm:(ps.map (·.2)).Perm C
 ga:ps.Pairwise λp q=>ay dw p q=true
theorem fW.nil:fW [] []:=⟨.refl _,.nil⟩
theorem fW.nd{C:List (cw×List ByteArray)}{ps:List NP}(h:fW C ps):((ps.map (·.2)).map (·.1)).Nodup:=by
 rw[List.map_map,List.Nodup,ae1]
 refine h.ga.imp λ{a b} c d=>?_
 unfold ay dw at c
 have e:a.2.1=b.2.1:=d
 rw[e,mR.refl]at c
 simp at c
theorem fW.get{C:List (cw×List ByteArray)}{ps:List NP}(h:fW C ps)(k:cw):aS k (ps.map (·.2))=aS k C:=nJ h.pm h.nd
theorem fW.len{C:List (cw×List ByteArray)}{ps:List NP}(h:fW C ps):C.length=ps.length:=by have:=h.pm.length_eq;simpa using this.symm
theorem fW.filter{C:List (cw×List ByteArray)}{ps:List NP}(h:fW C ps)(q:cw->Bool):fW (C.filter λx=>q x.1) (ps.filter λp=>q p.2.1):=by
 refine⟨?_,h.ga.filter _⟩
 have e:(ps.filter λp=>q p.2.1).map (·.2)=(ps.map (·.2)).filter λx=>q x.1:=by rw[List.filter_map];rfl
 rw[e]
 exact h.pm.filter _
theorem fW.put{C:List (cw×List ByteArray)}{ps:List NP}(h:fW C ps)(w:Value)(k:cw)(l:List ByteArray):fW (cO k l C) (de (ay dw) (w,(k,l)) (ps.filter λp=>decide (p.2.1≠k))):=by
 have b:=h.filter λx=>decide (x≠k)
 refine⟨?_,?_⟩
 ·have a:(de (ay dw) ((w,(k,l)):NP) (ps.filter λp=>decide (p.2.1≠k))).Perm ((w,(k,l))::ps.filter λp=>decide (p.2.1≠k)):=eO
  refine(a.map (λp:NP=>p.2)).trans ?_
  unfold cO dK
  exact(b.pm.cons _).trans (List.perm_append_singleton _ _).symm
 ·refine ny qq.so.tr b.ga λq d=>?_
  have c:q.2.1≠k:=by simpa using(aeP.1 d).2
  have f:dw ((w,(k,l)):NP) q≠0:=λe=>c (yw.1 e).symm
  have a:=qq.sw ((w,(k,l)):NP) q
  have g:=qq.sw q ((w,(k,l)):NP)
  unfold ay
  simp only[afk]
  omega
def eM(l:List ByteArray)(s:ByteArray):List ByteArray:=if s∈l then l else de cq s l
theorem KR{l:List ByteArray}{s x:ByteArray}:x∈eM l s↔x∈l\/x=s:=by
 unfold eM
 split
 ·rename_i h
  exact⟨.inl,λa=>a.elim id λe=>e▸h⟩
 ·rw[eO.mem_iff,aeM]
  exact Or.comm
theorem Mt{l:List ByteArray}{s:ByteArray}(h:gO l):gO (eM l s):=by
 unfold eM
 split
 ·exact h
 ·rename_i a
  refine ny (lt:=cq) (λx y z=>na) h λy b=>?_
  cases h1:cq s y with
  |true=>exact .inl rfl
  |false=>
   right
   cases h2:cq y s with
   |true=>rfl
   |false=>exact absurd (lp h1 h2▸b) a
theorem nI{x:ByteArray}:∀{b a:List ByteArray},x∈b.foldl eM a↔x∈a\/x∈b
 |[],a=>by simp
 |s::b,a=>by
  rw[List.foldl_cons,nI (b:=b),KR,aeM,or_assoc]
theorem xA:∀{b a:List ByteArray},gO a->gO (b.foldl eM a)
 |[],_,h=>h
 |s::b,a,h=>by rw[List.foldl_cons];exact xA (Mt h)
theorem Ad{a b:List ByteArray}(h:gO a):b.foldl eM a=jk a b:=yp (xA h) λs=>nI
theorem Ae{l:List ByteArray}{s:ByteArray}:(eM l s).length<=l.length+1:=by
 unfold eM
 split
 ·omega
 ·have:=(eO (lt:=cq) (p:=s) (L:=l)).length_eq
  rw[this];simp
set_option linter.unusedSimpArgs false
def lx(xb:Nat)(vr vn vg:Value)(tm:Int)(ps:List TP)(last:Int)(T:ax):Prop:=∃vt Tt,T=(xb,.cells [vr,vn,vg,vt,.int .i64 last,.int .i64 tm].toArray 44 (0,0))::Tt/\OS 58 9 bA vt ps Tt/\ps.length<=1000
theorem LQ{xb:Nat}{vr vn vg a l t:Value}{T:ax}(h:(xb,Obj.cells [vr,vn,vg,a,l,t].toArray 44 (0,0))∈T):PS T (cI (pT xb) 3) [a,l,t]:=
 ⟨((PS.of (E:=44) (fr:=(0,0)) h).h).add 3⟩
theorem nQ(xb:Nat)(vr vn vg:Value)(x:Int)(l:Value)(last:Int)(ps:List TP)(k:ByteArray)(R:au){RD:au} [E:PC R (cI (pT xb) 3) [l,.int .i64 last,.int .i64 x]](b:RS R 9 bA l ps)(r:∀p∈ps,dh RD p):
  Spec prog 62 [cI (pT xb) 3,.string k] R [] λu H'=>(∃z,u=.int .i64 z/\my k ps z)/\H'=[]:=by
 have B:=b.av
 have A:=b.le
 refine Spec.body func62 rfl results62 ntmps62 rfl ?_
 refine .sr<|.ag rfl<|.zs<|.sr<|.az rfl<|.block ?_
 refine .loop (X:=Nat) (λi=>i<=ps.length/\aS k (kv (dr (ps.take i)))=none) (λi=>[(0,cI (pT xb) 3),(1,.string k),(5,iN i)]) (λ_=>[]) (λi=>ps.length-i) 0 ⟨by omega,rfl⟩ kE.c.c.c rH ?_
 rintro i ⟨y,a⟩
 refine .seq<|.sr<|.mo rfl<|.mo rfl<|.nc rfl<|.fa rfl<|.lo rfl<|.q (.di b) ?_
 refine .q .lss<|.zn ?_
 refine .cond rfl (λf=>?_) λf=>?_
 have v:i<ps.length:=dT f
 obtain⟨⟨w,t⟩,d⟩:=dR v
 have m:=r _ (bU d)
 have C:bG (bA (w,t)):=⟨m.bD⟩
 have j:kv (dr (ps.take (i+1)))=kv (dr (ps.take i))++[(t.text,t)]:=by rw[ae2,d];simp[kv]
 refine .kn<|.seq<|.block<|.sr<|.mo rfl<|.nc rfl<|.fa rfl<|.lo rfl<|.mo rfl ?_
 refine .ct i b d (λD=>?_)
 refine .fa rfl<|.lo rfl<|.mo rfl<|.q .eg<|.zn ?_
 refine .cond rfl (λg=>?_) λg=>?_
 refine .sr<|.mo rfl<|.az rfl ?_
 refine .ret (bp (aI (dj (bp (aI (aO rfl ?_))))))
 ·have h:t.text=k:=bq g
  refine⟨⟨_,rfl,.inr ⟨i,w,t,rfl,d,h,?_⟩⟩,rfl⟩
  have e:ps=ps.take (i+1)++ps.drop (i+1):=(aff _ _).symm
  have n:kv (dr ps)=kv (dr (ps.take (i+1)))++kv (dr (ps.drop (i+1))):=by
   conv=>lhs;rw[e]
   simp[kv]
  rw[n,ll,j,ll,a]
  simp[aS,h]
 refine .skip<|bw<|aD<|.region<|.mo rfl ?_
 refine .ia (i+1) .add ?_
 refine .ag rfl<|.nil ?_
 ·exact bd (i+1) ⟨by omega,by
   have o:¬t.text=k:=bi g
   rw[j,ll,a]
   simp only[aS,aeK (λe:k=t.text=>o e.symm)];rfl⟩ (by omega) kE.c.c.c rH
 refine .exit<|bE<|bH<|bF<|aD<|.sr<|.az rfl ?_
 refine .ret (aO rfl ?_)
 ·have s:i=ps.length:=by have:=bi f;omega
  rw[s,aeN]at a
  exact⟨⟨_,rfl,.inl ⟨rfl,a⟩⟩,rfl⟩
theorem sv(xb:Nat)(vr vn vg:Value)(f:Int)(ps:List TP)(last:Int)(T:ax)(h:lx xb vr vn vg f ps last T)(A:List (ByteArray×Tok))(C:eY A ps)(a:Int)(R:au){RD:au}(D:∀p∈ps,dh RD p):
  Spec prog 110 [cI (pT xb) 3,.int .i64 a] R [T] λu H'=>∃T',H'=[T']/\u=.int .i64 ((A.filter λy=>y.2.family==a).length:Nat)/\lx xb vr vn vg f (ps.filter λp=> !(p.2.family==a)) last T':=by
 obtain⟨B,s,rfl,d,M⟩:=h
 have O:=d.av
 have N:=d.le
 refine Spec.cX (H':=[bl xb [vr,vn,vg,B,.int .i64 last,.int .i64 f] 44,s,[]]) (by simp) ?_
 refine Spec.body func110 rfl results110 ntmps110 rfl ?_
 refine .sr<|.ag rfl<|.z<|.ag rfl<|.zs<|.sr<|.az rfl<|.block ?_
 refine .loop (X:=Nat×Value×ax) (λy=>y.1<=ps.length/\OS 58 9 bA y.2.1 ((ps.take y.1).filter λp=> !(p.2.family==a)) y.2.2) (λy=>[(0,cI (pT xb) 3),(1,.int .i64 a),(5,y.2.1),(6,iN y.1)]) (λy=>[bl xb [vr,vn,vg,B,.int .i64 last,.int .i64 f] 44,s,y.2.2]) (λy=>ps.length-y.1) (0,sZ,[]) ⟨by omega,OS.nil⟩ kE.c.c.c.c rH ?_
 rintro⟨i,k,g⟩ ⟨E,b⟩
 simp only at E b⊢
 have Q:=b.av
 have H:((ps.take i).filter λp=> !(p.2.family==a)).length<=i:=aeQ (aeR _ _) (by simp;omega)
 refine .seq<|.sr<|.mo rfl<|.mo rfl<|.nc rfl<|.fa rfl<|.lo rfl<|.q (.ei d) ?_
 refine .q .lss<|.zn ?_
 refine .cond rfl (λl=>?_) λl=>?_
 have G:i<ps.length:=dT l
 obtain⟨⟨w,t⟩,j⟩:=dR G
 have v:=D _ (bU j)
 have S:bG (bA (w,t)):=⟨v.bD⟩
 have e:=rO (λu:Tok=> !(u.family==a)) j
 refine .kn<|.seq<|.block<|.sr<|.mo rfl<|.nc rfl<|.fa rfl<|.lo rfl<|.mo rfl ?_
 refine .ba i d j (λU=>?_)
 refine .fa rfl<|.lo rfl<|.mo rfl<|.q .dF<|.zn ?_
 refine .cond rfl (λm=>?_) λm=>?_
 have n:(!(t.family==a))=true:=m
 simp only[n,aeY]at e
 refine .region<|.mo rfl<|.mo rfl<|.nc rfl<|.fa rfl<|.lo rfl<|.mo rfl ?_
 refine .ba i d j (λV=>?_)
 refine .q (.bI rfl) ?_
 refine .fQ (λI=>?_)
 refine .append b (RS.lits (xs:=[((w,t):TP)]) rfl (by simp[bA]) (by have:=v.bD;simpa using this)) (by simp;omega) (λx r o=>?_)
 rw[<-e]at o
 refine .ag rfl<|.nil<|bw<|aD<|.region<|.mo rfl ?_
 refine .ia (i+1) .add ?_
 refine .ag rfl<|.nil ?_
 ·first
   |exact bd (i+1,x,r) ⟨by simp only;omega,o⟩ (by simp only;omega) kE.c.c.c.c (aH [1,1,1])
   |exact bd (i+1,k,g) ⟨by simp only;omega,by simp only;rw[e];exact b⟩ (by simp only;omega) kE.c.c.c.c rH
 have n:(!(t.family==a))=false:=m
 simp only[n,aeV,aeW,aeZ]at e
 refine .skip<|bw<|aD<|.region<|.mo rfl ?_
 refine .ia (i+1) .add ?_
 refine .ag rfl<|.nil ?_
 ·first
   |exact bd (i+1,x,r) ⟨by simp only;omega,o⟩ (by simp only;omega) kE.c.c.c.c (aH [1,1,1])
   |exact bd (i+1,k,g) ⟨by simp only;omega,by simp only;rw[e];exact b⟩ (by simp only;omega) kE.c.c.c.c rH
 have F:i=ps.length:=by have:=bi l;omega
 rw[F,aeN]at b H
 have L:(A.filter λy=>y.2.family==a).length+(ps.filter λp=> !(p.2.family==a)).length=ps.length:=by
  have J:=(C.filter λu=>u.family==a).len
  have K:=rN (λp:TP=>p.2.family==a) ps
  omega
 refine .exit<|bE<|bH<|bF<|aD<|.sr<|.mo rfl<|.nc rfl<|.fa rfl<|.lo rfl<|.q (.ei d) ?_
 refine .mo rfl<|.q (.ei b) ?_
 refine .ia ((A.filter λy=>y.2.family==a).length) .sub ?_
 refine .ag rfl<|.z<|.mo rfl<|.mo rfl<|.nc rfl<|.fa rfl<|.cH rfl rfl<|.z<|.mo rfl<|.az rfl ?_
 refine .ret (aN _ (.one (.tmp rfl)) ((aH [0,1]).trans (aU.bu (H':=[(xb,.cells [vr,vn,vg,k,.int .i64 last,.int .i64 f].toArray 44 (0,0))::g]) (by simp[take,aY,bZ]))) ?_)
 ·exact⟨_,rfl,rfl,k,g,rfl,b,by omega⟩
theorem xv(xb:Nat)(vr vn vg:Value)(s:Int)(ps:List TP)(last:Int)(T:ax)(h:lx xb vr vn vg s ps last T)(aC user:ByteArray)(R:au){RD:au}(G:∀p∈ps,dh RD p):
    Spec prog 97 [cI (pT xb) 3,.string aC,.string user] R [T] λu H'=>∃T',H'=[T']/\u=.tuple #[]/\lx xb vr vn vg s (ps.filter λp=> !gw aC user p.2) last T':=by
  obtain⟨E,D,rfl,x,M⟩:=h
  have O:=x.av
  have N:=x.le
  refine Spec.cX (H':=[bl xb [vr,vn,vg,E,.int .i64 last,.int .i64 s] 44,D,[]]) (by simp) ?_
  refine Spec.body func97 rfl results97 ntmps97 rfl ?_
  refine .sr<|.ag rfl<|.zs<|.sr<|.az rfl<|.block ?_
  refine .loop (X:=Nat×Value×ax) (λy=>y.1<=ps.length/\OS 58 9 bA y.2.1 ((ps.take y.1).filter λp=> !gw aC user p.2) y.2.2) (λy=>[(0,cI (pT xb) 3),(1,.string aC),(2,.string user),(6,y.2.1),(7,iN y.1)]) (λy=>[bl xb [vr,vn,vg,E,.int .i64 last,.int .i64 s] 44,D,y.2.2]) (λy=>ps.length-y.1) (0,sZ,[]) ⟨by omega,OS.nil⟩ kE.c.c.c.c.c rH ?_
  rintro⟨i,n,m⟩ ⟨H,f⟩
  simp only at H f⊢
  have Q:=f.av
  have K:((ps.take i).filter λp=> !gw aC user p.2).length<=i:=aeQ (aeR _ _) (by simp;omega)
  refine .seq<|.sr<|.mo rfl<|.mo rfl<|.nc rfl<|.fa rfl<|.lo rfl<|.q (.ei x) ?_
  refine .q .lss<|.zn ?_
  refine .cond rfl (λB=>?_) λB=>?_
  have J:i<ps.length:=dT B
  obtain⟨⟨w,t⟩,C⟩:=dR J
  have A:=G _ (bU C)
  have S:bG (bA (w,t)):=⟨A.bD⟩
  have g:=rO (λu:Tok=> !gw aC user u) C
  refine .kn<|.seq<|.block<|.sr<|.mo rfl<|.nc rfl<|.fa rfl<|.lo rfl<|.mo rfl ?_
  refine .ba i x C (λU=>?_)
  refine .q (.bI rfl) ?_
  refine .cG (λL=>?_)
  refine .cc rfl rfl<|.z<|.fa rfl<|.lo rfl<|.mo rfl<|.q .eU<|.mo rfl ?_
  refine .split (t:=29) rfl (λa=>?_) (λa=>?_)
  refine .gF a<|.gF a<|.gF a<|.cT rfl ?_
  refine .cT rfl ?_
  refine .cT rfl ?_
  refine .cT rfl ?_
  refine .gF a<|.q (.aW a) ?_
  refine .zn<|.dn ?_
  have j:(!gw aC user t)=true:=by
    unfold gw
    first
      |(have d:¬t.aC=aC:=by simpa using a
        simp[d];done)
      |(have d:¬user=⟨#[]⟩:=by simpa using b
        have a2:¬user=t.user:=λe=>by
          have k:¬t.user=user:=by simpa using r
          exact k e.symm
        simp[d,a2])
  simp only[j,aeY]at g
  refine .region<|.mo rfl<|.q (.bI rfl) ?_
  refine .fQ (λF=>?_)
  refine .append f (RS.lits (xs:=[((w,t):TP)]) rfl (by simp[bA]) (by have:=A.bD;simpa using this)) (by simp;omega) (λv o l=>?_)
  rw[<-g]at l
  refine .ag rfl<|.nil<|bw<|aD<|.region<|.mo rfl ?_
  refine .ia (i+1) .add ?_
  refine .ag rfl<|.nil ?_
  ·first
      |exact bd (i+1,v,o) ⟨by simp only;omega,l⟩ (by simp only;omega) kE.c.c.c.c.c (aH [2,2,2])
      |exact bd (i+1,n,m) ⟨by simp only;omega,by simp only;rw[g];exact f⟩ (by simp only;omega) kE.c.c.c.c.c (aH [1,1,1])
  refine .gT a<|.mo rfl<|.gT a<|.q .eU<|.gT a<|.mo rfl ?_
  refine .split (t:=32) rfl (λb=>?_) (λb=>?_)
  refine .gT b<|.fa rfl<|.gT b<|.lo rfl<|.gT b<|.mo rfl<|.gT b<|.q .eU<|.gT a<|.q (.aW b) ?_
  refine .q (.aQ a) ?_
  refine .zn ?_
  refine .cond rfl (λr=>?_) λr=>?_
  have j:(!gw aC user t)=true:=by
    unfold gw
    first
      |(have d:¬t.aC=aC:=by simpa using a
        simp[d];done)
      |(have d:¬user=⟨#[]⟩:=by simpa using b
        have a2:¬user=t.user:=λe=>by
          have k:¬t.user=user:=by simpa using r
          exact k e.symm
        simp[d,a2])
  simp only[j,aeY]at g
  refine .region<|.mo rfl<|.q (.bI rfl) ?_
  refine .fQ (λF=>?_)
  refine .append f (RS.lits (xs:=[((w,t):TP)]) rfl (by simp[bA]) (by have:=A.bD;simpa using this)) (by simp;omega) (λv o l=>?_)
  rw[<-g]at l
  refine .ag rfl<|.nil<|bw<|aD<|.region<|.mo rfl ?_
  refine .ia (i+1) .add ?_
  refine .ag rfl<|.nil ?_
  ·first
      |exact bd (i+1,v,o) ⟨by simp only;omega,l⟩ (by simp only;omega) kE.c.c.c.c.c (aH [2,2,2])
      |exact bd (i+1,n,m) ⟨by simp only;omega,by simp only;rw[g];exact f⟩ (by simp only;omega) kE.c.c.c.c.c (aH [1,1,1])
  have j:(!gw aC user t)=false:=by
    have d:t.aC=aC:=by simpa using a
    have a2:user=⟨#[]⟩\/user=t.user:=by
      first
        |exact .inl (by simpa using b)
        |(have k:t.user=user:=by simpa using r
          exact .inr k.symm)
    unfold gw
    rcases a2 with a2|a2<;>simp[d,a2]
  simp only[j,aeV,aeW,aeZ]at g
  refine .skip<|bw<|aD<|.region<|.mo rfl ?_
  refine .ia (i+1) .add ?_
  refine .ag rfl<|.nil ?_
  ·first
      |exact bd (i+1,v,o) ⟨by simp only;omega,l⟩ (by simp only;omega) kE.c.c.c.c.c (aH [2,2,2])
      |exact bd (i+1,n,m) ⟨by simp only;omega,by simp only;rw[g];exact f⟩ (by simp only;omega) kE.c.c.c.c.c (aH [1,1,1])
  refine .gF b<|.gF b<|.gF b<|.gF b<|.gT a<|.q (.aQ b) ?_
  refine .q (.aQ a) ?_
  refine .zn<|.bX ?_
  have j:(!gw aC user t)=false:=by
    have d:t.aC=aC:=by simpa using a
    have a2:user=⟨#[]⟩\/user=t.user:=by
      first
        |exact .inl (by simpa using b)
        |(have k:t.user=user:=by simpa using r
          exact .inr k.symm)
    unfold gw
    rcases a2 with a2|a2<;>simp[d,a2]
  simp only[j,aeV,aeW,aeZ]at g
  refine .skip<|bw<|aD<|.region<|.mo rfl ?_
  refine .ia (i+1) .add ?_
  refine .ag rfl<|.nil ?_
  ·first
      |exact bd (i+1,v,o) ⟨by simp only;omega,l⟩ (by simp only;omega) kE.c.c.c.c.c (aH [2,2,2])
      |exact bd (i+1,n,m) ⟨by simp only;omega,by simp only;rw[g];exact f⟩ (by simp only;omega) kE.c.c.c.c.c (aH [1,1,1])
  have I:i=ps.length:=by have:=bi B;omega
  rw[I,aeN]at f K
  refine .exit<|bE<|bH<|bF<|aD<|.region<|.mo rfl<|.mo rfl<|.nc rfl<|.fa rfl<|.cH rfl rfl<|.nil ?_
  refine ed _ .none ((aH [0,1]).trans (aU.bu (H':=[(xb,.cells [vr,vn,vg,n,.int .i64 last,.int .i64 s].toArray 44 (0,0))::m]) (by simp[take,aY,bZ]))) ?_
  ·exact⟨_,rfl,rfl,n,m,rfl,f,by omega⟩
theorem Mk(xb:Nat)(vr vn vg:Value)(e:Int)(ps:List TP)(last:Int)(T:ax)(h:lx xb vr vn vg e ps last T)(now:Int)(R:au){RD:au}(z:∀p∈ps,dh RD p):
  Spec prog 92 [cI (pT xb) 3,.int .i64 now] R [T] λu H'=>∃T',H'=[T']/\u=.tuple #[]/\lx xb vr vn vg e (ps.filter λp=>decide (now<p.2.cb)) last T':=by
 obtain⟨x,r,rfl,b,F⟩:=h
 have H:=b.av
 have G:=b.le
 refine Spec.cX (H':=[bl xb [vr,vn,vg,x,.int .i64 last,.int .i64 e] 44,r,[]]) (by simp) ?_
 refine Spec.body func92 rfl results92 ntmps92 rfl ?_
 refine .sr<|.ag rfl<|.zs<|.sr<|.az rfl<|.block ?_
 refine .loop (X:=Nat×Value×ax) (λy=>y.1<=ps.length/\OS 58 9 bA y.2.1 ((ps.take y.1).filter λp=>decide (now<p.2.cb)) y.2.2) (λy=>[(0,cI (pT xb) 3),(1,.int .i64 now),(4,y.2.1),(5,iN y.1)]) (λy=>[bl xb [vr,vn,vg,x,.int .i64 last,.int .i64 e] 44,r,y.2.2]) (λy=>ps.length-y.1) (0,sZ,[]) ⟨by omega,OS.nil⟩ kE.c.c.c.c rH ?_
 rintro⟨i,j,f⟩ ⟨A,a⟩
 simp only at A a⊢
 have I:=a.av
 have D:((ps.take i).filter λp=>decide (now<p.2.cb)).length<=i:=aeQ (aeR _ _) (by simp;omega)
 refine .seq<|.sr<|.mo rfl<|.mo rfl<|.nc rfl<|.fa rfl<|.lo rfl<|.q (.ei b) ?_
 refine .q .lss<|.zn ?_
 refine .cond rfl (λk=>?_) λk=>?_
 have C:i<ps.length:=dT k
 obtain⟨⟨w,t⟩,g⟩:=dR C
 have s:=z _ (bU g)
 have J:bG (bA (w,t)):=⟨s.bD⟩
 have d:=rO (λu:Tok=>decide (now<u.cb)) g
 refine .kn<|.seq<|.block<|.sr<|.mo rfl<|.nc rfl<|.fa rfl<|.lo rfl<|.mo rfl ?_
 refine .ba i b g (λK=>?_)
 refine .fa rfl<|.lo rfl<|.mo rfl<|.q .gtr<|.zn ?_
 refine .cond rfl (λl=>?_) λl=>?_
 have m:decide (now<t.cb)=true:=l
 simp only[m,aeY]at d
 refine .region<|.mo rfl<|.mo rfl<|.nc rfl<|.fa rfl<|.lo rfl<|.mo rfl ?_
 refine .ba i b g (λL=>?_)
 refine .q (.bI rfl) ?_
 refine .fQ (λE=>?_)
 refine .append a (RS.lits (xs:=[((w,t):TP)]) rfl (by simp[bA]) (by have:=s.bD;simpa using this)) (by simp;omega) (λv o n=>?_)
 rw[<-d]at n
 refine .ag rfl<|.nil<|bw<|aD<|.region<|.mo rfl ?_
 refine .ia (i+1) .add ?_
 refine .ag rfl<|.nil ?_
 ·first
   |exact bd (i+1,v,o) ⟨by simp only;omega,n⟩ (by simp only;omega) kE.c.c.c.c (aH [1,1,1])
   |exact bd (i+1,j,f) ⟨by simp only;omega,by simp only;rw[d];exact a⟩ (by simp only;omega) kE.c.c.c.c rH
 have m:decide (now<t.cb)=false:=l
 simp only[m,aeV,aeW,aeZ]at d
 refine .skip<|bw<|aD<|.region<|.mo rfl ?_
 refine .ia (i+1) .add ?_
 refine .ag rfl<|.nil ?_
 ·first
   |exact bd (i+1,v,o) ⟨by simp only;omega,n⟩ (by simp only;omega) kE.c.c.c.c (aH [1,1,1])
   |exact bd (i+1,j,f) ⟨by simp only;omega,by simp only;rw[d];exact a⟩ (by simp only;omega) kE.c.c.c.c rH
 have B:i=ps.length:=by have:=bi k;omega
 rw[B,aeN]at a D
 refine .exit<|bE<|bH<|bF<|aD<|.region<|.mo rfl<|.mo rfl<|.nc rfl<|.fa rfl<|.cH rfl rfl<|.nil ?_
 refine ed _ .none ((aH [0,1]).trans (aU.bu (H':=[(xb,.cells [vr,vn,vg,j,.int .i64 last,.int .i64 e].toArray 44 (0,0))::f]) (by simp[take,aY,bZ]))) ?_
 ·exact⟨_,rfl,rfl,j,f,rfl,a,by omega⟩
theorem xw(xb:Nat)(vr vn vg:Value)(d:Int)(ps:List TP)(last:Int)(T:ax)(h:lx xb vr vn vg d ps last T)(b2:ps.length<=900)(A:List (ByteArray×Tok))(f:eY A ps)(w:Value)(t:Tok)(R:au){RD:au}(ht:dh RD (w,t))(hc:∀p∈ps,dh RD p):
    Spec prog 173 [cI (pT xb) 3,.agg (bA (w,t)).toArray] R [T] λu H'=>∃T',H'=[T']/\u=.int .i64 (ft A last t).1/\∃ps',lx xb vr vn vg d ps' last T'/\eY (ft A last t).2 ps'/\(∀p∈ps',p∈ps\/p=(w,t.fresh))/\ps'.length<=ps.length+1:=by
  have I:=h
  obtain⟨K,L,rfl,V,hl⟩:=h
  have ir:bG (bA (w,t)):=⟨ht.bD⟩
  have a7:bG (bA (w,t.fresh)):=⟨dh.bD (R:=RD) (p:=(w,t.fresh)) ht⟩
  have i1:=V.av
  have b4:=f.len
  refine Spec.cX (H':=[bl xb [vr,vn,vg,K,.int .i64 last,.int .i64 d] 44,L,[]]) (by simp) ?_
  refine Spec.body func173 rfl results173 ntmps173 rfl ?_
  refine .sr ?_
  refine .dA rfl (λU=>?_)
  refine .ag rfl<|.zs<|.seq ?_
  refine bO.cut (X:=Unit) (λ_=>True) (λ_=>[(0,cI (pT xb) 3),(3,pT U),(29,.bool (!hK t last))]) (λ_=>[bl U (bA (w,t)) 58,bl xb [vr,vn,vg,K,.int .i64 last,.int .i64 d] 44,L,[]]) ?_ ?_
  refine .iA mixed (by kernel_rfl) ?_
  refine .fa rfl<|.lo rfl<|.q .dF<|.mo rfl ?_
  refine .split (t:=11) rfl (λo=>?_) (λo=>?_)
  refine .gT o<|.fa rfl<|.gT o<|.lo rfl<|.gT o<|.q .dF<|.q (.aW o) ?_
  refine .mo rfl ?_
  refine .split (t:=16) rfl (λr=>?_) (λr=>?_)
  refine .gF r<|.gF r<|.gF r<|.q (.aW r) ?_
  refine .mo rfl<|.gX<|.gX<|.gX<|.gX<|.gX<|.gX<|.gX<|.q .bY<|.nil ?_
  ·refine aA () trivial ((((bf.nil _).ot rfl ?_).cons rfl).cons rfl) rH
   unfold hK
   first
     |(have a1:(t.kind !=1)=true:=o
       have g:(t.kind !=2)=true:=r
       simp at a1 g
       simp[a1,g];done)
     |(have a1:=bq a
       simp only at a1
       rw[ae7 (p:=1<=t.family) (by omega),ae5,ae8];rfl)
     |(have a1:t.kind=1\/t.kind=2:=by
          first
            |(have a1:(t.kind !=1)=false:=o
              simp at a1;exact .inl a1)
            |(have a1:(t.kind !=2)=false:=r
              simp at a1;exact .inr a1)
       have g:=bi a
       simp only at g
       rw[aeS (p:=1<=t.family) (by omega),ae9]
       rcases a1 with a1|a1<;>simp[a1])
  refine .gT r<|.fa rfl<|.gT r<|.lo rfl<|.gT r<|.q .lss<|.q (.aQ r) ?_
  refine .mo rfl ?_
  refine .split (t:=21) rfl (λa=>?_) (λa=>?_)
  refine .gF a<|.gF a<|.gF a<|.gF a<|.gF a<|.gF a<|.gF a<|.q (.aW a) ?_
  refine .nil ?_
  ·refine aA () trivial ((((bf.nil _).ot rfl ?_).cons rfl).cons rfl) rH
   unfold hK
   first
     |(have a1:(t.kind !=1)=true:=o
       have g:(t.kind !=2)=true:=r
       simp at a1 g
       simp[a1,g];done)
     |(have a1:=bq a
       simp only at a1
       rw[ae7 (p:=1<=t.family) (by omega),ae5,ae8];rfl)
     |(have a1:t.kind=1\/t.kind=2:=by
          first
            |(have a1:(t.kind !=1)=false:=o
              simp at a1;exact .inl a1)
            |(have a1:(t.kind !=2)=false:=r
              simp at a1;exact .inr a1)
       have g:=bi a
       simp only at g
       rw[aeS (p:=1<=t.family) (by omega),ae9]
       rcases a1 with a1|a1<;>simp[a1])
  refine .gT a<|.fa rfl<|.gT a<|.lo rfl<|.gT a<|.mo rfl<|.gT a ?_
  refine .nc rfl<|.gT a<|.fa rfl<|.gT a<|.lo rfl<|.gT a<|.q .gtr<|.q (.aQ a) ?_
  refine .nil ?_
  ·refine aA () trivial ((((bf.nil _).ot rfl ?_).cons rfl).cons rfl) rH
   unfold hK
   first
     |(have a1:(t.kind !=1)=true:=o
       have g:(t.kind !=2)=true:=r
       simp at a1 g
       simp[a1,g];done)
     |(have a1:=bq a
       simp only at a1
       rw[ae7 (p:=1<=t.family) (by omega),ae5,ae8];rfl)
     |(have a1:t.kind=1\/t.kind=2:=by
          first
            |(have a1:(t.kind !=1)=false:=o
              simp at a1;exact .inl a1)
            |(have a1:(t.kind !=2)=false:=r
              simp at a1;exact .inr a1)
       have g:=bi a
       simp only at g
       rw[aeS (p:=1<=t.family) (by omega),ae9]
       rcases a1 with a1|a1<;>simp[a1])
  refine .gF o<|.gF o<|.gF o<|.q (.aQ o) ?_
  refine .mo rfl<|.gt rfl ?_
  refine .fa rfl<|.gt rfl ?_
  refine .lo rfl<|.gt rfl ?_
  refine .q .lss<|.q .bW<|.mo rfl ?_
  refine .split (t:=21) rfl (λa=>?_) (λa=>?_)
  refine .gF a<|.gF a<|.gF a<|.gF a<|.gF a<|.gF a<|.gF a<|.q (.aW a) ?_
  refine .nil ?_
  ·refine aA () trivial ((((bf.nil _).ot rfl ?_).cons rfl).cons rfl) rH
   unfold hK
   first
     |(have a1:(t.kind !=1)=true:=o
       have g:(t.kind !=2)=true:=r
       simp at a1 g
       simp[a1,g];done)
     |(have a1:=bq a
       simp only at a1
       rw[ae7 (p:=1<=t.family) (by omega),ae5,ae8];rfl)
     |(have a1:t.kind=1\/t.kind=2:=by
          first
            |(have a1:(t.kind !=1)=false:=o
              simp at a1;exact .inl a1)
            |(have a1:(t.kind !=2)=false:=r
              simp at a1;exact .inr a1)
       have g:=bi a
       simp only at g
       rw[aeS (p:=1<=t.family) (by omega),ae9]
       rcases a1 with a1|a1<;>simp[a1])
  refine .gT a<|.fa rfl<|.gT a<|.lo rfl<|.gT a<|.mo rfl<|.gT a ?_
  refine .nc rfl<|.gT a<|.fa rfl<|.gT a<|.lo rfl<|.gT a<|.q .gtr<|.q (.aQ a) ?_
  refine .nil ?_
  ·refine aA () trivial ((((bf.nil _).ot rfl ?_).cons rfl).cons rfl) rH
   unfold hK
   first
     |(have a1:(t.kind !=1)=true:=o
       have g:(t.kind !=2)=true:=r
       simp at a1 g
       simp[a1,g];done)
     |(have a1:=bq a
       simp only at a1
       rw[ae7 (p:=1<=t.family) (by omega),ae5,ae8];rfl)
     |(have a1:t.kind=1\/t.kind=2:=by
          first
            |(have a1:(t.kind !=1)=false:=o
              simp at a1;exact .inl a1)
            |(have a1:(t.kind !=2)=false:=r
              simp at a1;exact .inr a1)
       have g:=bi a
       simp only at g
       rw[aeS (p:=1<=t.family) (by omega),ae9]
       rcases a1 with a1|a1<;>simp[a1])
  intro y hy
  refine aD ?_
  refine .cond rfl (λh1=>?_) λh1=>?_
  have E:hK t last=false:=by simpa using h1
  refine .sr<|.az rfl ?_
  refine .ret (aI (aN _ (.one (.tmp rfl)) (by first|(refine(aH [1,1]).trans (aU.bu (H':=[(xb,.cells [vr,vn,vg,K,.int .i64 last,.int .i64 d].toArray 44 (0,0))::L]) ?_);simp[take,aY]<;>fail)|(refine(aH [1,2]).trans (aU.bu (H':=[(xb,.cells [vr,vn,vg,B,.int .i64 last,.int .i64 d].toArray 44 (0,0))::v]) ?_);simp[take,aY,bZ]<;>fail)|(refine(aH [2,2]).trans (aU.bu (H':=[(xb,.cells [vr,vn,vg,B,.int .i64 last,.int .i64 d].toArray 44 (0,0))::v]) ?_);simp[take,aY,bZ]<;>fail)|(refine(aH [1,2]).trans (aU.bu (H':=[(xb,.cells [vr,vn,vg,s,.int .i64 last,.int .i64 d].toArray 44 (0,0))::m]) ?_);simp[take,aY,bZ]<;>fail)|(refine(aH [2,3]).trans (aU.bu (H':=[(xb,.cells [vr,vn,vg,s,.int .i64 last,.int .i64 d].toArray 44 (0,0))::m]) ?_);simp[take,aY,bZ]<;>fail)) ?_))
  ·skip
   first
     |(rw[pw E]
       exact⟨_,rfl,rfl,ps,I,f,λp b=>.inl b,by omega⟩)
     |(obtain⟨i,w9,t9,_,_,_,D⟩:=W.pos (by have:=bq N;omega)
       rw[f.get]at D
       rw[pA E D]
       exact⟨_,rfl,rfl,ps,I,f,λp b=>.inl b,by omega⟩)
     |(have h9:=bq O
       exfalso;omega)
     |(rw[J]
       have j:ps.any (ay dY (w,t.fresh))=false:=by rw[aeT]at l;exact l
       have n:cQ (ay dY) (w,t.fresh) ps=ps:=by unfold cQ;rw[j];rfl
       rw[n, <-jN j]at C
       exact⟨_,rfl,rfl,lP (w,t.fresh) ps,⟨s,m,rfl,C,by rw[dS];omega⟩,eY.add (t:=t.fresh) f H,λp b=>(aeM.1 (eO.mem_iff.1 b)).symm,by rw[dS];omega⟩)
     |(rw[J]
       have j:ps.any (ay dY (w,t.fresh))=true:=by rw[aeU]at l;exact l
       have n:cQ (ay dY) (w,t.fresh) ps=de (ay dY) (w,t.fresh) ps:=by unfold cQ;rw[j];rfl
       rw[n]at x
       exact⟨_,rfl,rfl,lP (w,t.fresh) ps,⟨B,v,rfl,x,by rw[dS];omega⟩,eY.add (t:=t.fresh) f H,λp b=>(aeM.1 (eO.mem_iff.1 b)).symm,by rw[dS];omega⟩)
  have E:hK t last=true:=by simpa using h1
  refine .kn<|.seq<|.sr<|.mo rfl<|.fa rfl<|.lo rfl ?_
  refine .aL (nQ xb vr vn vg d K last ps t.text _ V.rx hc) (λu hu=>?_)
  obtain⟨z,rfl,W⟩:=hu
  refine .q .geq<|.zn ?_
  refine .cond rfl (λN=>?_) λN=>?_
  refine .sr<|.az rfl ?_
  refine .ret (aI (aN _ (.one (.tmp rfl)) (by first|(refine(aH [1,1]).trans (aU.bu (H':=[(xb,.cells [vr,vn,vg,K,.int .i64 last,.int .i64 d].toArray 44 (0,0))::L]) ?_);simp[take,aY]<;>fail)|(refine(aH [1,2]).trans (aU.bu (H':=[(xb,.cells [vr,vn,vg,B,.int .i64 last,.int .i64 d].toArray 44 (0,0))::v]) ?_);simp[take,aY,bZ]<;>fail)|(refine(aH [2,2]).trans (aU.bu (H':=[(xb,.cells [vr,vn,vg,B,.int .i64 last,.int .i64 d].toArray 44 (0,0))::v]) ?_);simp[take,aY,bZ]<;>fail)|(refine(aH [1,2]).trans (aU.bu (H':=[(xb,.cells [vr,vn,vg,s,.int .i64 last,.int .i64 d].toArray 44 (0,0))::m]) ?_);simp[take,aY,bZ]<;>fail)|(refine(aH [2,3]).trans (aU.bu (H':=[(xb,.cells [vr,vn,vg,s,.int .i64 last,.int .i64 d].toArray 44 (0,0))::m]) ?_);simp[take,aY,bZ]<;>fail)) ?_))
  ·skip
   first
     |(rw[pw E]
       exact⟨_,rfl,rfl,ps,I,f,λp b=>.inl b,by omega⟩)
     |(obtain⟨i,w9,t9,_,_,_,D⟩:=W.pos (by have:=bq N;omega)
       rw[f.get]at D
       rw[pA E D]
       exact⟨_,rfl,rfl,ps,I,f,λp b=>.inl b,by omega⟩)
     |(have h9:=bq O
       exfalso;omega)
     |(rw[J]
       have j:ps.any (ay dY (w,t.fresh))=false:=by rw[aeT]at l;exact l
       have n:cQ (ay dY) (w,t.fresh) ps=ps:=by unfold cQ;rw[j];rfl
       rw[n, <-jN j]at C
       exact⟨_,rfl,rfl,lP (w,t.fresh) ps,⟨s,m,rfl,C,by rw[dS];omega⟩,eY.add (t:=t.fresh) f H,λp b=>(aeM.1 (eO.mem_iff.1 b)).symm,by rw[dS];omega⟩)
     |(rw[J]
       have j:ps.any (ay dY (w,t.fresh))=true:=by rw[aeU]at l;exact l
       have n:cQ (ay dY) (w,t.fresh) ps=de (ay dY) (w,t.fresh) ps:=by unfold cQ;rw[j];rfl
       rw[n]at x
       exact⟨_,rfl,rfl,lP (w,t.fresh) ps,⟨B,v,rfl,x,by rw[dS];omega⟩,eY.add (t:=t.fresh) f H,λp b=>(aeM.1 (eO.mem_iff.1 b)).symm,by rw[dS];omega⟩)
  have H:aS t.text A=none:=by rw[<-f.get];exact W.neg (by have:=bi N;omega)
  refine .kn<|.seq<|.sr<|.mo rfl<|.nc rfl<|.fa rfl<|.lo rfl<|.q (.ei V) ?_
  refine .q .geq<|.zn ?_
  refine .cond rfl (λO=>?_) λO=>?_
  refine .sr<|.az rfl ?_
  refine .ret (aI (aN _ (.one (.tmp rfl)) (by first|(refine(aH [1,1]).trans (aU.bu (H':=[(xb,.cells [vr,vn,vg,K,.int .i64 last,.int .i64 d].toArray 44 (0,0))::L]) ?_);simp[take,aY]<;>fail)|(refine(aH [1,2]).trans (aU.bu (H':=[(xb,.cells [vr,vn,vg,B,.int .i64 last,.int .i64 d].toArray 44 (0,0))::v]) ?_);simp[take,aY,bZ]<;>fail)|(refine(aH [2,2]).trans (aU.bu (H':=[(xb,.cells [vr,vn,vg,B,.int .i64 last,.int .i64 d].toArray 44 (0,0))::v]) ?_);simp[take,aY,bZ]<;>fail)|(refine(aH [1,2]).trans (aU.bu (H':=[(xb,.cells [vr,vn,vg,s,.int .i64 last,.int .i64 d].toArray 44 (0,0))::m]) ?_);simp[take,aY,bZ]<;>fail)|(refine(aH [2,3]).trans (aU.bu (H':=[(xb,.cells [vr,vn,vg,s,.int .i64 last,.int .i64 d].toArray 44 (0,0))::m]) ?_);simp[take,aY,bZ]<;>fail)) ?_))
  ·skip
   first
     |(rw[pw E]
       exact⟨_,rfl,rfl,ps,I,f,λp b=>.inl b,by omega⟩)
     |(obtain⟨i,w9,t9,_,_,_,D⟩:=W.pos (by have:=bq N;omega)
       rw[f.get]at D
       rw[pA E D]
       exact⟨_,rfl,rfl,ps,I,f,λp b=>.inl b,by omega⟩)
     |(have h9:=bq O
       exfalso;omega)
     |(rw[J]
       have j:ps.any (ay dY (w,t.fresh))=false:=by rw[aeT]at l;exact l
       have n:cQ (ay dY) (w,t.fresh) ps=ps:=by unfold cQ;rw[j];rfl
       rw[n, <-jN j]at C
       exact⟨_,rfl,rfl,lP (w,t.fresh) ps,⟨s,m,rfl,C,by rw[dS];omega⟩,eY.add (t:=t.fresh) f H,λp b=>(aeM.1 (eO.mem_iff.1 b)).symm,by rw[dS];omega⟩)
     |(rw[J]
       have j:ps.any (ay dY (w,t.fresh))=true:=by rw[aeU]at l;exact l
       have n:cQ (ay dY) (w,t.fresh) ps=de (ay dY) (w,t.fresh) ps:=by unfold cQ;rw[j];rfl
       rw[n]at x
       exact⟨_,rfl,rfl,lP (w,t.fresh) ps,⟨B,v,rfl,x,by rw[dS];omega⟩,eY.add (t:=t.fresh) f H,λp b=>(aeM.1 (eO.mem_iff.1 b)).symm,by rw[dS];omega⟩)
  have b5:ps.length<4096:=by have:=bi O;omega
  have J:=NY E H (by omega)
  refine .kn<|.sr<|.fa rfl<|.cH rfl rfl<|.z<|.ag rfl<|.z<|.ag rfl<|.zs<|.sr<|.az rfl<|.block ?_
  refine .loop (X:=Nat×Value×ax) (λy=>y.1<=ps.length/\OS 58 9 bA y.2.1 (cQ (ay dY) (w,t.fresh) (ps.take y.1)) y.2.2) (λy=>[(0,cI (pT xb) 3),(3,pT U),(5,y.2.1),(6,.bool ((ps.take y.1).any (ay dY (w,t.fresh)))),(7,iN y.1)]) (λy=>[bl U (bA (w,t.fresh)) 58,bl xb [vr,vn,vg,K,.int .i64 last,.int .i64 d] 44,L,y.2.2]) (λy=>ps.length-y.1) (0,sZ,[]) ⟨ae4 _,OS.nil⟩ kE.c.c.c.c.c rH ?_
  rintro⟨k,B,v⟩ ⟨hk,x⟩
  simp only at hk x⊢
  have i4:=x.av
  have a6:=lF (lt:=ay dY) (p:=((w,t.fresh):TP)) (X:=ps.take k)
  rw[afa,afg hk]at a6
  refine .seq<|.sr<|.mo rfl<|.mo rfl<|.nc rfl<|.fa rfl<|.lo rfl<|.q (.ei V) ?_
  refine .q .lss<|.zn ?_
  refine .cond rfl (λh4=>?_) λh4=>?_
  have a5:k<ps.length:=dT h4
  obtain⟨⟨S,Q⟩,M⟩:=dR a5
  have cx:=hc _ (bU M)
  have ix:bG (bA (S,Q)):=⟨cx.bD⟩
  have e4:=oM (lt:=ay dY) (p:=((w,t.fresh):TP)) M
  refine .kn<|.seq<|.block<|.seq ?_
  refine bO.cut (X:=Value×ax) (λz=>OS 58 9 bA z.1 (je (ay dY) (w,t.fresh) (ps.take k) (S,Q)) z.2) (λz=>[(0,cI (pT xb) 3),(3,pT U),(5,z.1),(6,.bool ((ps.take (k+1)).any (ay dY (w,t.fresh)))),(7,iN k)]) (λz=>[bl U (bA (w,t.fresh)) 58,bl xb [vr,vn,vg,K,.int .i64 last,.int .i64 d] 44,L,z.2]) ?_ ?_
  refine .seq ?_
  refine .iA mixed (by kernel_rfl) ?_
  refine .mo rfl<|.q .not<|.mo rfl ?_
  refine .split (t:=53) rfl (λe=>?_) (λe=>?_)
  refine .gT e<|.fa rfl<|.gT e<|.lo rfl<|.gT e<|.mo rfl<|.gT e ?_
  refine .nc rfl<|.gT e<|.fa rfl<|.gT e<|.lo rfl<|.gT e<|.mo rfl<|.gT e ?_
  refine .ba k V M (λb6=>?_)
  refine .gT e<|.fa rfl<|.gT e<|.lo rfl<|.gT e<|.q .m2<|.q (.aW e) ?_
  refine .zn ?_
  refine .cond rfl (λZ=>?_) λZ=>?_
  first|have a0:=mE M e ((lk (w,t.fresh) (S,Q)).trans Z)|skip
  refine .sr<|.mo rfl<|.q (.bI rfl) ?_
  refine .fQ (λa9=>?_)
  refine .append x (RS.lits (xs:=[((w,t.fresh):TP)]) rfl (by simp[bA]) (by have:=a7.h;simpa using this)) (by simp;omega) (λs m C=>?_)
  refine .az rfl<|.region<|.ag rfl<|.nil ?_
  ·first
      |(obtain⟨G,F⟩:=a0
        exact aA (s,m) (by simp only;rw[G];exact C) (by simp only;rw[F];exact kE.c.c.c.c.c) (aH [1,1,1,1]))
      |(obtain⟨G,F⟩:=Y
        exact aA (B,v) (by simp only;rw[G];simpa using x) (by simp only;rw[F];exact kE.c.c.c.c.c) rH)
  first|have Y:=ib (p:=((w,t.fresh):TP)) M (.inr ((lk (w,t.fresh) (S,Q)).trans Z))|skip
  refine .skip ?_
  ·first
      |(obtain⟨G,F⟩:=a0
        exact aA (s,m) (by simp only;rw[G];exact C) (by simp only;rw[F];exact kE.c.c.c.c.c) (aH [1,1,1,1]))
      |(obtain⟨G,F⟩:=Y
        exact aA (B,v) (by simp only;rw[G];simpa using x) (by simp only;rw[F];exact kE.c.c.c.c.c) rH)
  have Y:=ib (p:=((w,t.fresh):TP)) M (.inl e)
  refine .gF e<|.gF e<|.gF e<|.gF e<|.gF e<|.gF e<|.gF e<|.gF e<|.gF e<|.gF e<|.gF e<|.q (.aQ e) ?_
  refine .zn<|.bX ?_
  first|have Y:=ib (p:=((w,t.fresh):TP)) M (.inr ((lk (w,t.fresh) (S,Q)).trans Z))|skip
  refine .skip ?_
  ·first
      |(obtain⟨G,F⟩:=a0
        exact aA (s,m) (by simp only;rw[G];exact C) (by simp only;rw[F];exact kE.c.c.c.c.c) (aH [1,1,1,1]))
      |(obtain⟨G,F⟩:=Y
        exact aA (B,v) (by simp only;rw[G];simpa using x) (by simp only;rw[F];exact kE.c.c.c.c.c) rH)
  intro y hy
  obtain⟨vm,Tm⟩:=y
  have a3:OS 58 9 bA vm (je (ay dY) (w,t.fresh) (ps.take k) (S,Q)) Tm:=hy
  have i6:=a3.av
  simp only
  refine aD<|.region<|.mo rfl<|.mo rfl<|.nc rfl<|.fa rfl<|.lo rfl<|.mo rfl ?_
  refine .ba k V M (λb7=>?_)
  refine .q (.bI rfl) ?_
  refine .fQ (λb0=>?_)
  refine .append a3 (RS.lits (xs:=[((S,Q):TP)]) rfl (by simp[bA]) (by have:=cx.bD;simpa using this)) (by have:=lF (lt:=ay dY) (p:=((w,t.fresh):TP)) (X:=ps.take (k+1));rw[<-e4]at this;simp at this⊢;omega) (λv7 T7 a4=>?_)
  rw[e4]at a4
  refine .ag rfl<|.nil<|bw<|aD<|.region<|.mo rfl ?_
  refine .ia (k+1) .add ?_
  refine .ag rfl<|.nil ?_
  ·exact bd (k+1,v7,T7) ⟨a5,a4⟩ (by simp only;omega) kE.c.c.c.c.c (aH [1,1,1,1])
  have a8:k=ps.length:=by have:=bi h4;omega
  subst a8
  rw[aeN]at x a6⊢
  refine .exit<|bE<|bH<|bF<|aD<|.seq<|.sr<|.mo rfl<|.q .not<|.zn ?_
  refine .cond rfl (λl=>?_) λl=>?_
  refine .region<|.mo rfl<|.q (.bI rfl) ?_
  refine .fQ (λb1=>?_)
  refine .append x (RS.lits (xs:=[((w,t.fresh):TP)]) rfl (by simp[bA]) (by have:=a7.h;simpa using this)) (by simp;omega) (λs m C=>?_)
  have i5:=C.av
  refine .ag rfl<|.z<|.mo rfl<|.mo rfl<|.nc rfl<|.fa rfl<|.cH rfl rfl<|.z<|.az rfl ?_
  refine .ret (aN _ (.one (.tmp rfl)) (by first|(refine(aH [1,1]).trans (aU.bu (H':=[(xb,.cells [vr,vn,vg,K,.int .i64 last,.int .i64 d].toArray 44 (0,0))::L]) ?_);simp[take,aY]<;>fail)|(refine(aH [1,2]).trans (aU.bu (H':=[(xb,.cells [vr,vn,vg,B,.int .i64 last,.int .i64 d].toArray 44 (0,0))::v]) ?_);simp[take,aY,bZ]<;>fail)|(refine(aH [2,2]).trans (aU.bu (H':=[(xb,.cells [vr,vn,vg,B,.int .i64 last,.int .i64 d].toArray 44 (0,0))::v]) ?_);simp[take,aY,bZ]<;>fail)|(refine(aH [1,2]).trans (aU.bu (H':=[(xb,.cells [vr,vn,vg,s,.int .i64 last,.int .i64 d].toArray 44 (0,0))::m]) ?_);simp[take,aY,bZ]<;>fail)|(refine(aH [2,3]).trans (aU.bu (H':=[(xb,.cells [vr,vn,vg,s,.int .i64 last,.int .i64 d].toArray 44 (0,0))::m]) ?_);simp[take,aY,bZ]<;>fail)) ?_)
  ·skip
   first
     |(rw[pw E]
       exact⟨_,rfl,rfl,ps,I,f,λp b=>.inl b,by omega⟩)
     |(obtain⟨i,w9,t9,_,_,_,D⟩:=W.pos (by have:=bq N;omega)
       rw[f.get]at D
       rw[pA E D]
       exact⟨_,rfl,rfl,ps,I,f,λp b=>.inl b,by omega⟩)
     |(have h9:=bq O
       exfalso;omega)
     |(rw[J]
       have j:ps.any (ay dY (w,t.fresh))=false:=by rw[aeT]at l;exact l
       have n:cQ (ay dY) (w,t.fresh) ps=ps:=by unfold cQ;rw[j];rfl
       rw[n, <-jN j]at C
       exact⟨_,rfl,rfl,lP (w,t.fresh) ps,⟨s,m,rfl,C,by rw[dS];omega⟩,eY.add (t:=t.fresh) f H,λp b=>(aeM.1 (eO.mem_iff.1 b)).symm,by rw[dS];omega⟩)
     |(rw[J]
       have j:ps.any (ay dY (w,t.fresh))=true:=by rw[aeU]at l;exact l
       have n:cQ (ay dY) (w,t.fresh) ps=de (ay dY) (w,t.fresh) ps:=by unfold cQ;rw[j];rfl
       rw[n]at x
       exact⟨_,rfl,rfl,lP (w,t.fresh) ps,⟨B,v,rfl,x,by rw[dS];omega⟩,eY.add (t:=t.fresh) f H,λp b=>(aeM.1 (eO.mem_iff.1 b)).symm,by rw[dS];omega⟩)
  refine .kn<|.sr<|.mo rfl<|.mo rfl<|.nc rfl<|.fa rfl<|.cH rfl rfl<|.z<|.az rfl ?_
  refine .ret (aN _ (.one (.tmp rfl)) (by first|(refine(aH [1,1]).trans (aU.bu (H':=[(xb,.cells [vr,vn,vg,K,.int .i64 last,.int .i64 d].toArray 44 (0,0))::L]) ?_);simp[take,aY]<;>fail)|(refine(aH [1,2]).trans (aU.bu (H':=[(xb,.cells [vr,vn,vg,B,.int .i64 last,.int .i64 d].toArray 44 (0,0))::v]) ?_);simp[take,aY,bZ]<;>fail)|(refine(aH [2,2]).trans (aU.bu (H':=[(xb,.cells [vr,vn,vg,B,.int .i64 last,.int .i64 d].toArray 44 (0,0))::v]) ?_);simp[take,aY,bZ]<;>fail)|(refine(aH [1,2]).trans (aU.bu (H':=[(xb,.cells [vr,vn,vg,s,.int .i64 last,.int .i64 d].toArray 44 (0,0))::m]) ?_);simp[take,aY,bZ]<;>fail)|(refine(aH [2,3]).trans (aU.bu (H':=[(xb,.cells [vr,vn,vg,s,.int .i64 last,.int .i64 d].toArray 44 (0,0))::m]) ?_);simp[take,aY,bZ]<;>fail)) ?_)
  ·skip
   first
     |(rw[pw E]
       exact⟨_,rfl,rfl,ps,I,f,λp b=>.inl b,by omega⟩)
     |(obtain⟨i,w9,t9,_,_,_,D⟩:=W.pos (by have:=bq N;omega)
       rw[f.get]at D
       rw[pA E D]
       exact⟨_,rfl,rfl,ps,I,f,λp b=>.inl b,by omega⟩)
     |(have h9:=bq O
       exfalso;omega)
     |(rw[J]
       have j:ps.any (ay dY (w,t.fresh))=false:=by rw[aeT]at l;exact l
       have n:cQ (ay dY) (w,t.fresh) ps=ps:=by unfold cQ;rw[j];rfl
       rw[n, <-jN j]at C
       exact⟨_,rfl,rfl,lP (w,t.fresh) ps,⟨s,m,rfl,C,by rw[dS];omega⟩,eY.add (t:=t.fresh) f H,λp b=>(aeM.1 (eO.mem_iff.1 b)).symm,by rw[dS];omega⟩)
     |(rw[J]
       have j:ps.any (ay dY (w,t.fresh))=true:=by rw[aeU]at l;exact l
       have n:cQ (ay dY) (w,t.fresh) ps=de (ay dY) (w,t.fresh) ps:=by unfold cQ;rw[j];rfl
       rw[n]at x
       exact⟨_,rfl,rfl,lP (w,t.fresh) ps,⟨B,v,rfl,x,by rw[dS];omega⟩,eY.add (t:=t.fresh) f H,λp b=>(aeM.1 (eO.mem_iff.1 b)).symm,by rw[dS];omega⟩)
theorem Mj(xb:Nat)(vr vn vg:Value)(d:Int)(ps:List TP)(last:Int)(T:ax)(h:lx xb vr vn vg d ps last T)(A:List (ByteArray×Tok))(a:eY A ps)(k aC:ByteArray)(R:au){RD:au}(c:∀p∈ps,dh RD p):
  Spec prog 116 [cI (pT xb) 3,.string k,.string aC] R [T] λu H'=>∃T',H'=[T']/\u=.int .i64 (fj A k aC).1/\∃ps',lx xb vr vn vg d ps' last T'/\eY (fj A k aC).2 ps'/\(∀p∈ps',dh RD p)/\ps'.length<=ps.length:=by
 have x:=h
 obtain⟨r,f,F,D,W⟩:=h
 have i1:=D.av
 have px:PS T (cI (pT xb) 3) [r,.int .i64 last,.int .i64 d]:=LQ (vr:=vr) (vn:=vn) (vg:=vg) (by rw[F];simp)
 have G:RS (sg T) 9 bA r ps:=D.rs λp n=>by rw[F];simp[sg,n]
 refine Spec.body func116 rfl results116 ntmps116 rfl ?_
 refine .sr<|.ag rfl<|.z<|.mo rfl<|.mo rfl ?_
 refine .aL (nQ xb vr vn vg d r last ps k _ (G.mono λb o g=>.inr (by have j:(b,o)∈T:=g;simp[j])) c) (λu H=>?_)
 obtain⟨z,rfl,L⟩:=H
 refine .ag rfl<|.zs<|.sr<|.mo rfl<|.q .lss<|.zn ?_
 refine .cond rfl (λB=>?_) λB=>?_
 have m:aS k A=none:=by rw[<-a.get];exact L.neg (bq B)
 refine .sr<|.az rfl ?_
 refine .ret (aI (aN _ (.one (.tmp rfl)) rH ?_))
 ·have e:fj A k aC=(0,A):=by unfold fj;rw[m]
  rw[e];exact⟨_,rfl,rfl,ps,x,a,c,ae0 _⟩
 obtain⟨i,w,t,rfl,l,V,m⟩:=L.at a (bi B)
 have N:=c _ (bU l)
 have ii:bG (bA (w,t)):=⟨N.bD⟩
 have pi:PS T (eK r (i*9)) (bA (w,t)):=⟨G.pc l⟩
 have a0:=(afd.1 l).1
 refine .kn<|.sr<|.mo rfl<|.nc rfl<|.fa rfl<|.lo rfl<|.mo rfl<|.q (.ct i G l rfl rfl rfl) ?_
 refine .q (.bI rfl) ?_
 refine .cG (λb8=>?_)
 refine .cc rfl rfl<|.zs<|.sr<|.fa rfl<|.lo rfl<|.mo rfl<|.q .eU<|.zn ?_
 refine .cond rfl (λs=>?_) λs=>?_
 refine .sr<|.az rfl ?_
 refine .ret (aI (aN _ (.one (.tmp rfl)) (aH [1]) ?_))
 ·have e:fj A k aC=(20,A):=by unfold fj;rw[m];simp only;rw[aeL (by simpa using s)]
  rw[e];exact⟨_,rfl,rfl,ps,x,a,c,ae0 _⟩
 refine .kn<|.seq<|.sr<|.fa rfl<|.lo rfl<|.q .bR<|.zn ?_
 refine .cond rfl (λC=>?_) λC=>?_
 refine .sr<|.mo rfl<|.fa rfl<|.lo rfl ?_
 refine .bT (sv xb vr vn vg d ps last T x A a t.family _ c) (λu Z H=>?_)
 obtain⟨rfl,S⟩:=H
 refine .z<|.az rfl ?_
 refine .ret (aI (aN _ (.one (.tmp rfl)) (aH [1]) ?_))
 ·have e:fj A k aC=(0,A.filter λy=> !(y.2.family==t.family)):=by unfold fj;rw[m];simp only;rw[aeK (by simpa using s),aeL (by simpa using C)]
  rw[e];exact⟨_,rfl,rfl,_,S,a.filter λu=> !(u.family==t.family),λp n=>c p (aeP.1 n).1,aeR _ _⟩
 refine .kn<|.sr<|.ag rfl<|.z ?_
 subst F
 have K:=D.sg
 refine .sub (H':=[bl xb [vr,vn,vg,r,.int .i64 last,.int .i64 d] 44,f,[]]) ((aH [1]).trans (aU.bu (by simp[take,aY]))) ?_
 refine .mo rfl<|.mo rfl<|.nc rfl<|.fa rfl<|.lo rfl<|.mo rfl ?_
 refine .jS (R':=sg f) 0 i K rfl ⟨_,rfl⟩ (by omega) (by omega) (λv2 X=>?_)
 refine .append (OS.nil (E:=58) (sz:=9) (enc:=bA)) (X.mono λb o g=>.inr (by have j:(b,o)∈f:=g;simp[j])) (by simp;omega) (λv3 T3 J=>?_)
 have i3:=J.av
 refine .ag rfl<|.z<|.mo rfl<|.mo rfl<|.mo rfl<|.nc rfl<|.fa rfl<|.lo rfl<|.mo rfl ?_
 refine .ia (i+1) .add ?_
 refine .jS (R':=sg f) (i+1) ps.length K ⟨_,rfl⟩ rfl (by omega) (by omega) (λv4 Y=>?_)
 refine .append J (Y.mono λb o g=>.inr (by have j:(b,o)∈f:=g;simp[j])) (by simp;omega) (λM I v=>?_)
 have i5:=v.av
 refine .nc rfl<|.fa rfl<|.cH rfl rfl<|.z<|.az rfl ?_
 refine .ret (aN _ (.one (.tmp rfl)) ((aH [0,1]).trans (aU.bu (H':=[(xb,.cells [vr,vn,vg,M,.int .i64 last,.int .i64 d].toArray 44 (0,0))::I]) (by simp[take,aY,bZ]))) ?_)
 ·have e:fj A k aC=(0,A.filter λy=> !decide (y.2.text=k)):=by unfold fj;rw[m];simp only;rw[aeK (by simpa using s),aeK (by simpa using C)]
  have O:(ps.drop 0).take (i-0)=ps.take i:=by simp
  have Q:(ps.drop (i+1)).take (ps.length-(i+1))=ps.drop (i+1):=afh (by simp)
  rw[O,Q]at v
  have U:=Ab a.ga l V
  rw[afe, <-U]at v
  rw[e]
  exact⟨_,rfl,rfl,_,⟨M,I,rfl,v,aeQ (aeR _ _) W⟩,a.filter λu=> !decide (u.text=k),λp n=>c p (aeP.1 n).1,aeR _ _⟩
def mz(g:Nat)(vn vg vv:Value)(ls tm:Int)(ps:List CP)(T:ax):Prop:=∃vt Tt,T=(g,.cells [vt,vn,vg,vv,.int .i64 ls,.int .i64 tm].toArray 44 (0,0))::Tt/\OS 25 4 dX vt ps Tt/\ps.length<=64
theorem m8(g:Nat)(vn vg o:Value)(l m:Int)(ps:List CP)(T:ax)(h:mz g vn vg o l m ps T)(id:ByteArray)(R:au)(w:CL R ps)(s:∀p∈T,R p.1 p.2):
  Spec prog 94 [cI (pT g) 0,.string id] R [] λu H'=>(∃z,u=.int .i64 z/\pV id (cM ps) z)/\H'=[]:=by
 obtain⟨n,B,rfl,r,D⟩:=h
 have I:PC R (cI (pT g) 0) [n,vn,vg,o,.int .i64 l,.int .i64 m]:=(PC.of (E:=44) (fr:=(0,0)) (s (g,.cells [n,vn,vg,o,.int .i64 l,.int .i64 m].toArray 44 (0,0)) (by simp))).add 0
 have t:RS R 4 dX n ps:=r.rs λp A=>s p (by simp[A])
 have F:=r.av
 refine Spec.body func94 rfl results94 ntmps94 rfl ?_
 refine .sr<|.ag rfl<|.zs<|.sr<|.az rfl<|.block ?_
 refine .loop (X:=Nat) (λi=>i<=ps.length/\cu id ((cM ps).take i)=none) (λi=>[(0,cI (pT g) 0),(1,.string id),(5,iN i)]) (λ_=>[]) (λi=>ps.length-i) 0 ⟨by omega,rfl⟩ kE.c.c.c rH ?_
 rintro i ⟨C,a⟩
 refine .seq<|.sr<|.mo rfl<|.mo rfl<|.nc rfl<|.fa rfl<|.lo rfl<|.q (.di t) ?_
 refine .q .lss<|.zn ?_
 refine .cond rfl (λd=>?_) λd=>?_
 have y:i<ps.length:=dT d
 obtain⟨z,j⟩:=dR y
 have b:=w z (bU j)
 have G:bG (dX z):=⟨b.bD⟩
 have k:(cM ps)[i]? =some z.2:=by simp[cM,j]
 refine .kn<|.seq<|.block<|.sr<|.mo rfl<|.nc rfl<|.fa rfl<|.lo rfl<|.mo rfl ?_
 refine .ct i t j (λH=>?_)
 refine .fa rfl<|.lo rfl<|.mo rfl<|.q .eg<|.zn ?_
 refine .cond rfl (λe=>?_) λe=>?_
 refine .sr<|.mo rfl<|.az rfl ?_
 refine .ret (bp (aI (dj (bp (aI (aO rfl ?_))))))
 ·have f:z.1.id=id:=bq e
  rw[b.id]at f
  exact⟨⟨_,rfl,.inr ⟨i,z.2,rfl,k,f,zL k a f⟩⟩,rfl⟩
 refine .skip<|bw<|aD<|.region<|.mo rfl ?_
 refine .ia (i+1) .add ?_
 refine .ag rfl<|.nil ?_
 ·exact bd (i+1) ⟨by omega,zN k a (by
   have v:¬z.1.id=id:=bi e
   rw[<-b.id];exact v)⟩ (by omega) kE.c.c.c rH
 refine .exit<|bE<|bH<|bF<|aD<|.sr<|.az rfl ?_
 refine .ret (aO rfl ?_)
 ·have x:i=ps.length:=by have:=bi d;omega
  rw[x,afh (by simp[cM])]at a
  exact⟨⟨_,rfl,.inl ⟨rfl,a⟩⟩,rfl⟩
theorem xj(g:Nat)(vn vg s:Value)(n r:Int)(ps:List CP)(T:ax)(h:mz g vn vg s n r ps T)(id e:ByteArray)(R:au)(B:CL R ps)(w:∀p∈T,R p.1 p.2):
    Spec prog 115 [cI (pT g) 0,.string id,.string e] R [] λu H'=>u=.int .i64 (if(cu id (cM ps)).map (·.cy)=some e then 0 else 17)/\H'=[]:=by
  have F:=h
  obtain⟨x,J,rfl,A,L⟩:=h
  have Q:PC R (cI (pT g) 0) [x,vn,vg,s,.int .i64 n,.int .i64 r]:=(PC.of (E:=44) (fr:=(0,0)) (w (g,.cells [x,vn,vg,s,.int .i64 n,.int .i64 r].toArray 44 (0,0)) (by simp))).add 0
  have H:RS R 4 dX x ps:=A.rs λp l=>w p (by simp[l])
  have M:=A.av
  refine Spec.body func115 rfl results115 ntmps115 rfl ?_
  refine .sr<|.ag rfl<|.z<|.mo rfl<|.mo rfl ?_
  refine .aL (m8 g vn vg s n r ps _ F id _ (B.mono λb o G=>.inl G) λp l=>.inl (w p l)) (λu I=>?_)
  obtain⟨z,rfl,D⟩:=I
  refine .ag rfl<|.zs<|.sr<|.mo rfl<|.q .lss<|.mo rfl ?_
  refine .split (t:=13) rfl (λa=>?_) (λa=>?_)
  have v:cu id (cM ps)=none:=by
    rcases D with⟨_,h1⟩|⟨i,c,h1,_⟩
    ·exact h1
    ·have:=bq a;omega
  refine .gF a<|.gF a<|.gF a<|.gF a<|.gF a<|.gF a<|.gF a<|.gF a<|.gF a<|.gF a<|.q (.aW a) ?_
  refine .zn<|.dn<|.sr<|.az rfl ?_
  refine .ret (aI (aO rfl ?_))
  ·refine⟨?_,rfl⟩
   first
     |(rw[v];rfl)
     |(rw[j, <-m,ae6]
       have d:¬y.1.cy=e:=by simpa using h1
       rw[f.cy]at d
       rw[aeK (by simpa using d)]
       done)
     |(rw[j, <-m,ae6]
       have d:y.1.cy=e:=by simpa using h1
       rw[f.cy]at d
       rw[aeL (by simpa using d)])
  obtain⟨i,c,rfl,k,K,j⟩:∃(i:Nat) (c:bx),z=(i:Int)/\(cM ps)[i]? =some c/\c.id=id/\cu id (cM ps)=some c:=by
    rcases D with⟨h1,_⟩|h1
    ·have:=bi a;omega
    ·exact h1
  obtain⟨y,C,m⟩:∃y,ps[i]? =some y/\y.2=c:=by
    simp only[cM,List.getElem?_map]at k
    cases l:ps[i]? with
    |none=>rw[l]at k;cases k
    |some y=>rw[l]at k;simp only[ae6,Option.some.injEq]at k;exact⟨y,rfl,k⟩
  have f:=B y (bU C)
  have N:bG (dX y):=⟨f.bD⟩
  refine .gT a<|.mo rfl<|.gT a<|.nc rfl<|.gT a<|.fa rfl<|.gT a<|.lo rfl<|.gT a<|.mo rfl<|.gT a ?_
  refine .ct i H C (λO=>?_)
  refine .gT a<|.fa rfl<|.gT a<|.lo rfl<|.gT a<|.mo rfl<|.gT a<|.q .eU<|.q (.aQ a) ?_
  refine .zn ?_
  refine .cond rfl (λh1=>?_) λh1=>?_
  refine .sr<|.az rfl ?_
  refine .ret (aI (aO rfl ?_))
  ·refine⟨?_,rfl⟩
   first
     |(rw[v];rfl)
     |(rw[j, <-m,ae6]
       have d:¬y.1.cy=e:=by simpa using h1
       rw[f.cy]at d
       rw[aeK (by simpa using d)]
       done)
     |(rw[j, <-m,ae6]
       have d:y.1.cy=e:=by simpa using h1
       rw[f.cy]at d
       rw[aeL (by simpa using d)])
  refine .kn<|.sr<|.az rfl ?_
  refine .ret (aO rfl ?_)
  ·refine⟨?_,rfl⟩
   first
     |(rw[v];rfl)
     |(rw[j, <-m,ae6]
       have d:¬y.1.cy=e:=by simpa using h1
       rw[f.cy]at d
       rw[aeK (by simpa using d)]
       done)
     |(rw[j, <-m,ae6]
       have d:y.1.cy=e:=by simpa using h1
       rw[f.cy]at d
       rw[aeL (by simpa using d)])
theorem LX(g:Nat)(vn vg e:Value)(c d:Int)(ps:List CP)(T:ax)(h:mz g vn vg e c d ps T)(id l:ByteArray)(R:au)(s:CL R ps)(j:∀p∈T,R p.1 p.2):
  Spec prog 102 [cI (pT g) 0,.string id,.string l] R [] λu H'=>u=.bool (kj id l (cM ps))/\H'=[]:=by
 have B:=h
 obtain⟨m,I,rfl,r,K⟩:=h
 have Q:PC R (cI (pT g) 0) [m,vn,vg,e,.int .i64 c,.int .i64 d]:=(PC.of (E:=44) (fr:=(0,0)) (j (g,.cells [m,vn,vg,e,.int .i64 c,.int .i64 d].toArray 44 (0,0)) (by simp))).add 0
 have D:RS R 4 dX m ps:=r.rs λp f=>j p (by simp[f])
 have L:=r.av
 refine Spec.body func102 rfl results102 ntmps102 rfl ?_
 refine .sr<|.ag rfl<|.z<|.mo rfl<|.mo rfl ?_
 refine .aL (m8 g vn vg e c d ps _ B id _ (s.mono λb o C=>.inl C) λp f=>.inl (j p f)) (λu k=>?_)
 obtain⟨z,rfl,A⟩:=k
 refine .ag rfl<|.z<|.mo rfl<|.q .geq<|.mo rfl ?_
 refine .split (t:=13) rfl (λa=>?_) (λa=>?_)
 obtain⟨i,y,rfl,F,n,J,v⟩:=qB (g:=g) s A (by have:=bq a;omega)
 have N:bG (dX y):=⟨n.bD⟩
 obtain⟨⟨S,V,H,U⟩,G⟩:=y
 have x:=n.u
 have M:=x.av
 refine .gT a<|.mo rfl<|.gT a<|.nc rfl<|.gT a<|.fa rfl<|.gT a<|.lo rfl<|.gT a<|.mo rfl<|.gT a ?_
 refine .ct i D F (λO=>?_)
 refine .gT a<|.fa rfl<|.gT a<|.lo rfl<|.gT a<|.mo rfl<|.gT a ?_
 refine .aL (nA H G.cp l _ x.rx) (λu k=>?_)
 subst k
 refine .q (.aW a) ?_
 refine .az rfl ?_
 refine .ret (aO rfl ?_)
 ·refine⟨?_,rfl⟩
  first
   |(unfold kj;rw[v];rfl)
   |(unfold kj;rw[w];simp[bx.zero])
 have w:=qA A (by have:=bi a;omega)
 refine .gF a<|.gF a<|.gF a<|.gF a<|.gF a<|.gF a<|.gF a<|.gF a<|.gF a<|.gF a<|.q (.aQ a) ?_
 refine .az rfl ?_
 refine .ret (aO rfl ?_)
 ·refine⟨?_,rfl⟩
  first
   |(unfold kj;rw[v];rfl)
   |(unfold kj;rw[w];simp[bx.zero])
theorem xi(g:Nat)(vn vg B:Value)(r v:Int)(ps:List CP)(T:ax)(h:mz g vn vg B r v ps T)(id:ByteArray)(w:Value)(l:List ByteArray)(R:au)(O:CL R ps)(K:∀p∈T,R p.1 p.2)(f:RS R 1 bz w l):
  Spec prog 99 [cI (pT g) 0,.string id,w] R [] λu H'=>u=.bool (eG id l (cM ps))/\H'=[]:=by
 have D:=h
 have a6:=f.le
 obtain⟨M,Tt,rfl,N,hl⟩:=h
 have pq:PC R (cI (pT g) 0) [M,vn,vg,B,.int .i64 r,.int .i64 v]:=(PC.of (E:=44) (fr:=(0,0)) (K (g,.cells [M,vn,vg,B,.int .i64 r,.int .i64 v].toArray 44 (0,0)) (by simp))).add 0
 have hs:RS R 4 dX M ps:=N.rs λp J=>K p (by simp[J])
 have i1:=N.av
 have i0:=f.av
 refine Spec.body func99 rfl results99 ntmps99 rfl ?_
 refine .sr<|.ag rfl<|.z<|.mo rfl<|.mo rfl ?_
 refine .aL (m8 g vn vg B r v ps _ D id _ (O.mono λb o W=>.inl W) λp J=>.inl (K p J)) (λu m=>?_)
 obtain⟨z,rfl,U⟩:=m
 refine .ag rfl<|.zs<|.sr<|.mo rfl<|.q .lss<|.mo rfl ?_
 refine .split (t:=14) rfl (λa=>?_) (λa=>?_)
 have d:eG id l (cM ps)=false:=by
  have a3:=qA U (bq a)
  unfold eG;rw[a3];rfl
 refine .gF a<|.gF a<|.gF a<|.q (.aW a) ?_
 refine .mo rfl<|.gX<|.gX<|.q .bY<|.zn<|.dn ?_
 first|have d:=rj (id:=id) (A:=cM ps) j|skip
 refine .sr<|.az rfl ?_
 refine .ret (aI (aO rfl ?_))
 ·exact⟨by rw[d],rfl⟩
 obtain⟨i,y,rfl,hy,C,a4,Q⟩:=qB (g:=g) O U (bi a)
 have iy:bG (dX y):=⟨C.bD⟩
 obtain⟨⟨a9,b0,yu,ys⟩,n⟩:=y
 have S:=C.s
 have i2:=S.av
 have i3:=C.u.av
 refine .gT a<|.mo rfl<|.gT a<|.q (.di f) ?_
 refine .gT a<|.q .bR<|.q (.aQ a) ?_
 refine .mo rfl ?_
 refine .split (t:=19) rfl (λe=>?_) (λe=>?_)
 have d:eG id l (cM ps)=false:=by
  have a5:l.length=0:=by simpa using e
  have D:decide (0<l.length)=false:=ae7 (by omega)
  unfold eG
  rw[D,ae8,ae5]
 refine .gF e<|.gF e<|.q (.aW e) ?_
 refine .zn<|.dn ?_
 first|have d:=rj (id:=id) (A:=cM ps) j|skip
 refine .sr<|.az rfl ?_
 refine .ret (aI (aO rfl ?_))
 ·exact⟨by rw[d],rfl⟩
 refine .gT e<|.mo rfl<|.gT e ?_
 refine .aL (sV w l _ f.rx) (λu m=>?_)
 subst m
 refine .q (.aQ e) ?_
 refine .zn ?_
 refine .cond rfl (λj=>?_) λj=>?_
 first|have d:=rj (id:=id) (A:=cM ps) j|skip
 refine .sr<|.az rfl ?_
 refine .ret (aI (aO rfl ?_))
 ·exact⟨by rw[d],rfl⟩
 have a0:0<l.length:=by
  have:¬l.length=0:=by simpa using e
  omega
 have a2:decide l.Nodup=true:=by
  have V:(!decide l.Nodup)=false:=j
  simpa using V
 refine .kn<|.seq<|.sr<|.az rfl<|.block ?_
 refine .loop (X:=Nat) (λk=>k<=l.length/\(l.take k).all (λs=>decide (s∈n.scopes))=true) (λk=>[(0,cI (pT g) 0),(2,w),(7,iN i),(8,iN k)]) (λ_=>[]) (λk=>l.length-k) 0 ⟨by omega,rfl⟩ kE.c.c.c.c rH ?_
 rintro k ⟨hk,I⟩
 refine .seq<|.sr<|.mo rfl<|.mo rfl<|.q (.di f) ?_
 refine .q .lss<|.zn ?_
 refine .cond rfl (λF=>?_) λF=>?_
 have a1:k<l.length:=dT F
 obtain⟨x,L⟩:=dR a1
 refine .kn<|.seq<|.block<|.seq ?_
 refine .dc 12 mixed (by kernel_rfl) ?_
 conv=>arg 6;dsimp only[List.take]
 refine .mo rfl<|.nc rfl<|.fa rfl<|.lo rfl<|.mo rfl ?_
 refine .ct i hs hy (λa7=>?_)
 refine .fa rfl<|.lo rfl<|.mo rfl<|.mo rfl ?_
 refine .ct k f L (λa8=>?_)
 refine .lo rfl<|.nil ?_
 refine .aL (nA ys n.scopes x _ S.rx) (λu m=>?_)
 subst m
 refine .q .not<|.zn ?_
 refine .cond rfl (λG=>?_) λG=>?_
 have d:eG id l (cM ps)=false:=by
  have H:(!decide (x∈n.scopes))=true:=G
  have Y:l.all (λs=>decide (s∈n.scopes))=false:=List.all_eq_false.2 ⟨x,bU L,by simpa using H⟩
  unfold eG
  rw[Q]
  simp only[afl,Y,ae5]
 refine .sr<|.az rfl ?_
 refine .ret (bp (aI (dj (bp (aI (aO rfl ?_))))))
 ·exact⟨by rw[d],rfl⟩
 refine .skip<|bw<|aD<|.region<|.mo rfl ?_
 refine .ia (k+1) .add ?_
 refine .ag rfl<|.nil ?_
 ·exact bd (k+1) ⟨by omega,by
   rw[ae2,L,List.all_append,I]
   have H:(!decide (x∈n.scopes))=false:=G
   simpa using H⟩ (by omega) kE.c.c.c.c rH
 have d:eG id l (cM ps)=true:=by
  have Z:k=l.length:=by have:=bi F;omega
  rw[Z,aeN]at I
  unfold eG
  rw[Q,aeS a0,a2]
  simp only[afl,I];rfl
 refine .exit<|bE<|bH<|bF<|aD<|.sr<|.az rfl ?_
 refine .ret (aO rfl ?_)
 ·exact⟨by rw[d],rfl⟩
theorem LV(g:Nat)(vn vg j:Value)(d f:Int)(ps:List CP)(T:ax)(h:mz g vn vg j d f ps T)(r:CR)(c:bx)(R:au)(H:eR R r c)(hf:c.fits)(a1:CL R ps):
    Spec prog 31 [cI (pT g) 0,.agg r.cells.toArray] R [T] λu H'=>∃T',H'=[T']/\u=.int .i64 (dZ (cM ps) c).1/\mz g vn vg j d f (if(dZ (cM ps) c).1=0 then nj (r,c) ps else ps) T':=by
  have L:=h
  obtain⟨v,D,rfl,G,hl⟩:=h
  have ir:bG r.cells:=⟨H.bD⟩
  have i1:=G.av
  have a5:(cM ps).length=ps.length:=by simp[cM]
  refine Spec.cX (H':=[bl g [v,vn,vg,j,.int .i64 d,.int .i64 f] 44,D,[]]) (by simp) ?_
  have pq:PS (bl g [v,vn,vg,j,.int .i64 d,.int .i64 f] 44) (cI (pT g) 0) [v,vn,vg,j,.int .i64 d,.int .i64 f]:=⟨((PS.of (E:=44) (fr:=(0,0)) (by simp)).h).add 0⟩
  refine Spec.body func31 rfl results31 ntmps31 rfl ?_
  refine .sr ?_
  refine .dA rfl (λK=>?_)
  refine .ag rfl<|.z<|.q (.bI rfl) ?_
  refine .aL (Mo r c _ (H.mono λb o Z=>.inl Z) hf) (λu hu=>?_)
  subst hu
  refine .ag rfl<|.zs<|.sr<|.mo rfl<|.q .dF<|.zn ?_
  refine .cond rfl (λS=>?_) λS=>?_
  refine .sr<|.mo rfl<|.az rfl ?_
  refine .ret (aI (aN _ (.one (.tmp rfl)) ((aH [1,1]).trans (aU.bu (H':=[(g,.cells [v,vn,vg,j,.int .i64 d,.int .i64 f].toArray 44 (0,0))::D]) (by simp[take,aY]))) ?_))
  ·have a8:c.check≠0:=by simpa using S
   have e:=zj (A:=cM ps) a8
   exact⟨_,rfl,by rw[e],by rw[e,aeK a8];exact L⟩
  have a0:c.check=0:=by simpa using S
  refine .kn<|.seq<|.sr<|.mo rfl<|.fa rfl<|.lo rfl ?_
  refine .aL (m8 g vn vg j d f ps _ L r.id _ (a1.mono λb o Z=>.inl Z) λp hp=>.inr (by
    rcases aeM.1 hp with rfl|hp
    ·simp
    ·simp[hp])) (λu hu=>?_)
  obtain⟨z,rfl,hz⟩:=hu
  rw[H.id]at hz
  refine .q .geq<|.zn ?_
  refine .cond rfl (λU=>?_) λU=>?_
  refine .sr<|.az rfl ?_
  refine .ret (aI (aN _ (.one (.tmp rfl)) ((aH [1,1]).trans (aU.bu (H':=[(g,.cells [v,vn,vg,j,.int .i64 d,.int .i64 f].toArray 44 (0,0))::D]) (by simp[take,aY]))) ?_))
  ·have e:(dZ (cM ps) c).1=10:=by
      obtain⟨i,y,_,_,_,_,hg⟩:=qB (g:=g) a1 hz (by have:=bq U;omega)
      exact zo a0 hg
   exact⟨_,rfl,by rw[e],by rw[e,aeK (by omega)];exact L⟩
  have a9:cu c.id (cM ps)=none:=qA hz (by have:=bi U;omega)
  refine .kn<|.seq<|.sr<|.mo rfl<|.nc rfl<|.fa rfl<|.lo rfl<|.q (.ei G) ?_
  refine .q .geq<|.zn ?_
  refine .cond rfl (λV=>?_) λV=>?_
  refine .sr<|.az rfl ?_
  refine .ret (aI (aN _ (.one (.tmp rfl)) ((aH [1,1]).trans (aU.bu (H':=[(g,.cells [v,vn,vg,j,.int .i64 d,.int .i64 f].toArray 44 (0,0))::D]) (by simp[take,aY]))) ?_))
  ·have e:=zk a0 a9 (by rw[a5];have:=bq V;omega)
   exact⟨_,rfl,by rw[e],by rw[e,aeK (by omega)];exact L⟩
  have b5:ps.length<64:=by have:=bi V;omega
  have N:=zl a0 a9 (by rw[a5];omega)
  refine .kn<|.sr<|.ag rfl<|.z<|.ag rfl<|.zs<|.sr<|.az rfl<|.block ?_
  refine .loop (X:=Nat×Value×ax) (λy=>y.1<=ps.length/\OS 25 4 dX y.2.1 (cQ (ay fT) (r,c) (ps.take y.1)) y.2.2) (λy=>[(0,cI (pT g) 0),(3,pT K),(6,y.2.1),(7,.bool ((ps.take y.1).any (ay fT (r,c)))),(8,iN y.1)]) (λy=>[bl K r.cells 25,bl g [v,vn,vg,j,.int .i64 d,.int .i64 f] 44,D,y.2.2]) (λy=>ps.length-y.1) (0,sZ,[]) ⟨ae4 _,OS.nil⟩ kE.c.c.c.c.c rH ?_
  rintro⟨k,J,F⟩ ⟨hk,n⟩
  simp only at hk n⊢
  have i4:=n.av
  have a7:=lF (lt:=ay fT) (p:=((r,c):CP)) (X:=ps.take k)
  rw[afa,afg hk]at a7
  refine .seq<|.sr<|.mo rfl<|.mo rfl<|.nc rfl<|.fa rfl<|.lo rfl<|.q (.ei G) ?_
  refine .q .lss<|.zn ?_
  refine .cond rfl (λW=>?_) λW=>?_
  have a6:k<ps.length:=dT W
  obtain⟨x,s⟩:=dR a6
  have cx:=a1 x (bU s)
  have ix:bG (dX x):=⟨cx.bD⟩
  have e4:=oM (lt:=ay fT) (p:=((r,c):CP)) s
  refine .kn<|.seq<|.block<|.seq ?_
  refine bO.cut (X:=Value×ax) (λz=>OS 25 4 dX z.1 (je (ay fT) (r,c) (ps.take k) x) z.2) (λz=>[(0,cI (pT g) 0),(3,pT K),(6,z.1),(7,.bool ((ps.take (k+1)).any (ay fT (r,c)))),(8,iN k)]) (λz=>[bl K r.cells 25,bl g [v,vn,vg,j,.int .i64 d,.int .i64 f] 44,D,z.2]) ?_ ?_
  refine .seq ?_
  refine .iA mixed (by kernel_rfl) ?_
  refine .mo rfl<|.q .not<|.mo rfl ?_
  refine .split (t:=36) rfl (λa=>?_) (λa=>?_)
  refine .gT a<|.fa rfl<|.gT a<|.lo rfl<|.gT a<|.mo rfl<|.gT a ?_
  refine .nc rfl<|.gT a<|.fa rfl<|.gT a<|.lo rfl<|.gT a<|.mo rfl<|.gT a ?_
  refine .ba k G s (λb6=>?_)
  refine .gT a<|.fa rfl<|.gT a<|.lo rfl<|.gT a<|.q .m2<|.q (.aW a) ?_
  refine .zn ?_
  refine .cond rfl (λM=>?_) λM=>?_
  first|have a2:=mE s a ((mI (r,c) x).trans M)|skip
  refine .sr<|.mo rfl<|.q (.bI rfl) ?_
  refine .fQ (λb1=>?_)
  refine .append n (RS.lits (xs:=[((r,c):CP)]) rfl (by simp[dX,CR.cells]) (by have:=H.bD;simpa[dX]using this)) (by simp;omega) (λC w B=>?_)
  refine .az rfl<|.region<|.ag rfl<|.nil ?_
  ·first
      |(obtain⟨m,l⟩:=a2
        exact aA (C,w) (by simp only;rw[m];exact B) (by simp only;rw[l];exact kE.c.c.c.c.c) (aH [1,1,1,1]))
      |(obtain⟨m,l⟩:=I
        exact aA (J,F) (by simp only;rw[m];simpa using n) (by simp only;rw[l];exact kE.c.c.c.c.c) rH)
  first|have I:=ib (p:=((r,c):CP)) s (.inr ((mI (r,c) x).trans M))|skip
  refine .skip ?_
  ·first
      |(obtain⟨m,l⟩:=a2
        exact aA (C,w) (by simp only;rw[m];exact B) (by simp only;rw[l];exact kE.c.c.c.c.c) (aH [1,1,1,1]))
      |(obtain⟨m,l⟩:=I
        exact aA (J,F) (by simp only;rw[m];simpa using n) (by simp only;rw[l];exact kE.c.c.c.c.c) rH)
  have I:=ib (p:=((r,c):CP)) s (.inl a)
  refine .gF a<|.gF a<|.gF a<|.gF a<|.gF a<|.gF a<|.gF a<|.gF a<|.gF a<|.gF a<|.gF a<|.q (.aQ a) ?_
  refine .zn<|.bX ?_
  first|have I:=ib (p:=((r,c):CP)) s (.inr ((mI (r,c) x).trans M))|skip
  refine .skip ?_
  ·first
      |(obtain⟨m,l⟩:=a2
        exact aA (C,w) (by simp only;rw[m];exact B) (by simp only;rw[l];exact kE.c.c.c.c.c) (aH [1,1,1,1]))
      |(obtain⟨m,l⟩:=I
        exact aA (J,F) (by simp only;rw[m];simpa using n) (by simp only;rw[l];exact kE.c.c.c.c.c) rH)
  intro y hy
  obtain⟨vm,Tm⟩:=y
  have a3:OS 25 4 dX vm (je (ay fT) (r,c) (ps.take k) x) Tm:=hy
  have i6:=a3.av
  simp only
  refine aD<|.region<|.mo rfl<|.mo rfl<|.nc rfl<|.fa rfl<|.lo rfl<|.mo rfl ?_
  refine .ba k G s (λb7=>?_)
  refine .q (.bI rfl) ?_
  refine .fQ (λb2=>?_)
  refine .append a3 (RS.lits (xs:=[x]) rfl (by simp[dX,CR.cells]) (by have:=cx.bD;simpa[dX]using this)) (by have:=lF (lt:=ay fT) (p:=((r,c):CP)) (X:=ps.take (k+1));rw[<-e4]at this;simp at this⊢;omega) (λv7 T7 a4=>?_)
  rw[e4]at a4
  refine .ag rfl<|.nil<|bw<|aD<|.region<|.mo rfl ?_
  refine .ia (k+1) .add ?_
  refine .ag rfl<|.nil ?_
  ·exact bd (k+1,v7,T7) ⟨a6,a4⟩ (by simp only;omega) kE.c.c.c.c.c (aH [1,1,1,1])
  have b0:k=ps.length:=by have:=bi W;omega
  subst b0
  rw[aeN]at n a7⊢
  refine .exit<|bE<|bH<|bF<|aD<|.seq<|.sr<|.mo rfl<|.q .not<|.zn ?_
  refine .cond rfl (λY=>?_) λY=>?_
  refine .region<|.mo rfl<|.q (.bI rfl) ?_
  refine .fQ (λb4=>?_)
  refine .append n (RS.lits (xs:=[((r,c):CP)]) rfl (by simp[dX,CR.cells]) (by have:=H.bD;simpa[dX]using this)) (by simp;omega) (λC w B=>?_)
  have i5:=B.av
  refine .ag rfl<|.z<|.mo rfl<|.mo rfl<|.nc rfl<|.fa rfl<|.cH rfl rfl<|.z<|.az rfl ?_
  refine .ret (aN _ (.one (.tmp rfl)) ((aH [2,3]).trans (aU.bu (H':=[(g,.cells [C,vn,vg,j,.int .i64 d,.int .i64 f].toArray 44 (0,0))::w]) (by simp[take,aY,bZ]))) ?_)
  ·have O:ps.any (ay fT (r,c))=false:=by simpa using Y
   refine⟨_,rfl,by rw[N],?_⟩
   rw[N,aeL rfl]
   refine⟨C,w,rfl,?_,by rw[dS];omega⟩
   have Q:cQ (ay fT) (r,c) ps=ps:=by unfold cQ;rw[O];rfl
   rw[Q]at B
   show OS 25 4 dX C (de (ay fT) (r,c) ps) w
   rw[jN O];exact B
  refine .kn<|.sr<|.mo rfl<|.mo rfl<|.nc rfl<|.fa rfl<|.cH rfl rfl<|.z<|.az rfl ?_
  refine .ret (aN _ (.one (.tmp rfl)) ((aH [1,2]).trans (aU.bu (H':=[(g,.cells [J,vn,vg,j,.int .i64 d,.int .i64 f].toArray 44 (0,0))::F]) (by simp[take,aY,bZ]))) ?_)
  ·have O:ps.any (ay fT (r,c))=true:=by simpa using Y
   refine⟨_,rfl,by rw[N],?_⟩
   rw[N,aeL rfl]
   refine⟨J,F,rfl,?_,by rw[dS];omega⟩
   have Q:cQ (ay fT) (r,c) ps=de (ay fT) (r,c) ps:=by unfold cQ;rw[O];rfl
   rw[Q]at n;exact n
theorem LY(g:Nat)(vn vg d:Value)(a c:Int)(ps:List CP)(T:ax)(h:mz g vn vg d a c ps T)(id:ByteArray)(R:au)(w:CL R ps)(J:((cM ps).map (·.id)).Nodup):
  Spec prog 95 [cI (pT g) 0,.string id] R [T] λu H'=>∃T',H'=[T']/\u=.int .i64 (if(cu id (cM ps)).isSome then 0 else 11)/\mz g vn vg d a c (lJ id ps) T':=by
 have s:=h
 obtain⟨j,e,rfl,t,I⟩:=h
 have S:=t.av
 refine Spec.cX (H':=[bl g [j,vn,vg,d,.int .i64 a,.int .i64 c] 44,e,[]]) (by simp) ?_
 have W:PS (bl g [j,vn,vg,d,.int .i64 a,.int .i64 c] 44) (cI (pT g) 0) [j,vn,vg,d,.int .i64 a,.int .i64 c]:=⟨((PS.of (E:=44) (fr:=(0,0)) (by simp)).h).add 0⟩
 have x:=t.sg
 refine Spec.body func95 rfl results95 ntmps95 rfl ?_
 refine .sr<|.ag rfl<|.z<|.mo rfl<|.mo rfl ?_
 refine .aL (m8 g vn vg d a c ps _ s id _ (w.mono λb o f=>.inl f) λp hp=>.inr (by
  rcases aeM.1 hp with rfl|hp
  ·simp
  ·simp[hp])) (λu K=>?_)
 obtain⟨z,rfl,B⟩:=K
 refine .ag rfl<|.zs<|.sr<|.mo rfl<|.q .lss<|.zn ?_
 refine .cond rfl (λk=>?_) λk=>?_
 have n:=qA B (bq k)
 refine .sr<|.az rfl ?_
 refine .ret (aI (aN _ (.one (.tmp rfl)) (aU.bu (H':=[(g,.cells [j,vn,vg,d,.int .i64 a,.int .i64 c].toArray 44 (0,0))::e]) (by simp)) ?_))
 ·refine⟨_,rfl,by rw[n];rfl,?_⟩
  have:lJ id ps=ps:=ae3.2 λp hp=>by
   unfold cu at n
   have:=afm.1 n p.2 (aeO.2 ⟨p,hp,rfl⟩)
   simpa using this
  rw[this];exact s
 obtain⟨i,y,rfl,A,O,H,G⟩:=qB (g:=g) w B (bi k)
 have Q:=(afd.1 A).1
 refine .kn<|.sr<|.ag rfl<|.z<|.mo rfl<|.mo rfl<|.nc rfl<|.fa rfl<|.lo rfl<|.mo rfl ?_
 refine .jS (R':=sg e) 0 i x rfl ⟨_,rfl⟩ (by omega) (by omega) (λX L=>?_)
 refine .append (OS.nil (E:=25) (sz:=4) (enc:=dX)) (L.mono λb o f=>.inr (by have m:(b,o)∈e:=f;simp[m])) (by simp;omega) (λY N v=>?_)
 have U:=v.av
 refine .ag rfl<|.z<|.mo rfl<|.mo rfl<|.mo rfl<|.nc rfl<|.fa rfl<|.lo rfl<|.mo rfl ?_
 refine .ia (i+1) .add ?_
 refine .jS (R':=sg e) (i+1) ps.length x ⟨_,rfl⟩ rfl (by omega) (by omega) (λZ M=>?_)
 refine .append v (M.mono λb o f=>.inr (by have m:(b,o)∈e:=f;simp[m])) (by simp;omega) (λC r l=>?_)
 have V:=l.av
 refine .nc rfl<|.fa rfl<|.cH rfl rfl<|.z<|.az rfl ?_
 refine .ret (aN _ (.one (.tmp rfl)) ((aH [0,1]).trans (aU.bu (H':=[(g,.cells [C,vn,vg,d,.int .i64 a,.int .i64 c].toArray 44 (0,0))::r]) (by simp[take,aY,bZ]))) ?_)
 ·refine⟨_,rfl,by rw[G];rfl,C,r,rfl,?_,aeQ (aeR _ _) I⟩
  rw[Mp J A H]
  have D:(ps.drop 0).take (i-0)=ps.take i:=by simp
  have F:(ps.drop (i+1)).take (ps.length-(i+1))=ps.drop (i+1):=afh (by simp)
  rw[D,F]at l
  exact l
def ni(xb:Nat)(vr vn vv:Value)(ls tm:Int)(ps:List GP)(T:ax):Prop:=∃vt Tt,T=(xb,.cells [vr,vn,vt,vv,.int .i64 ls,.int .i64 tm].toArray 44 (0,0))::Tt/\OS 121 9 bM vt ps Tt/\ps.length<=1000
theorem LO{xb:Nat}{vr vn a b l t:Value}{T:ax}(h:(xb,Obj.cells [vr,vn,a,b,l,t].toArray 44 (0,0))∈T):PS T (cI (pT xb) 1) [vn,a,b,l,t]:=
 ⟨((PS.of (E:=44) (fr:=(0,0)) h).h).add 1⟩
def mS(k:ByteArray)(ps:List GP)(z:Int):Prop:=(z= -1/\aS k (fo (eJ ps))=none)\/∃(i:Nat) (w:Value) (t:bJ),z=(i:Int)/\ps[i]? =some (w,t)/\t.text=k/\aS k (fo (eJ ps))=some t
theorem sq(xb:Nat)(vn A:Value)(x y:Int)(l:Value)(ps:List GP)(k:ByteArray)(R:au){RD:au} [G:PC R (cI (pT xb) 1) [vn,l,A,.int .i64 x,.int .i64 y]](b:RS R 9 bM l ps)(r:∀p∈ps,dl RD p):
  Spec prog 109 [cI (pT xb) 1,.string k] R [] λu H'=>(∃z,u=.int .i64 z/\mS k ps z)/\H'=[]:=by
 have D:=b.av
 have C:=b.le
 refine Spec.body func109 rfl results109 ntmps109 rfl ?_
 refine .sr<|.ag rfl<|.zs<|.sr<|.az rfl<|.block ?_
 refine .loop (X:=Nat) (λi=>i<=ps.length/\aS k (fo (eJ (ps.take i)))=none) (λi=>[(0,cI (pT xb) 1),(1,.string k),(5,iN i)]) (λ_=>[]) (λi=>ps.length-i) 0 ⟨by omega,rfl⟩ kE.c.c.c rH ?_
 rintro i ⟨B,a⟩
 refine .seq<|.sr<|.mo rfl<|.mo rfl<|.nc rfl<|.fa rfl<|.lo rfl<|.q (.di b) ?_
 refine .q .lss<|.zn ?_
 refine .cond rfl (λf=>?_) λf=>?_
 have v:i<ps.length:=dT f
 obtain⟨⟨w,t⟩,d⟩:=dR v
 have m:=r _ (bU d)
 have E:bG (bM (w,t)):=⟨m.bD⟩
 have j:fo (eJ (ps.take (i+1)))=fo (eJ (ps.take i))++[(t.text,t)]:=by rw[ae2,d];simp[fo]
 refine .kn<|.seq<|.block<|.sr<|.mo rfl<|.nc rfl<|.fa rfl<|.lo rfl<|.mo rfl ?_
 refine .ct i b d (λF=>?_)
 refine .fa rfl<|.lo rfl<|.mo rfl<|.q .eg<|.zn ?_
 refine .cond rfl (λg=>?_) λg=>?_
 refine .sr<|.mo rfl<|.az rfl ?_
 refine .ret (bp (aI (dj (bp (aI (aO rfl ?_))))))
 ·have h:t.text=k:=bq g
  refine⟨⟨_,rfl,.inr ⟨i,w,t,rfl,d,h,?_⟩⟩,rfl⟩
  have e:ps=ps.take (i+1)++ps.drop (i+1):=(aff _ _).symm
  have n:fo (eJ ps)=fo (eJ (ps.take (i+1)))++fo (eJ (ps.drop (i+1))):=by
   conv=>lhs;rw[e]
   simp[fo]
  rw[n,ll,j,ll,a]
  simp[aS,h]
 refine .skip<|bw<|aD<|.region<|.mo rfl ?_
 refine .ia (i+1) .add ?_
 refine .ag rfl<|.nil ?_
 ·exact bd (i+1) ⟨by omega,by
   have o:¬t.text=k:=bi g
   rw[j,ll,a]
   simp only[aS,aeK (λe:k=t.text=>o e.symm)];rfl⟩ (by omega) kE.c.c.c rH
 refine .exit<|bE<|bH<|bF<|aD<|.sr<|.az rfl ?_
 refine .ret (aO rfl ?_)
 ·have s:i=ps.length:=by have:=bi f;omega
  rw[s,aeN]at a
  exact⟨⟨_,rfl,.inl ⟨rfl,a⟩⟩,rfl⟩
theorem mS.neg{k:ByteArray}{ps:List GP}{z:Int}(h:mS k ps z)(b:z<0):aS k (fo (eJ ps))=none:=by
 rcases h with⟨_,a⟩|⟨i,w,t,a,_⟩
 ·exact a
 ·omega
theorem mS.pos{k:ByteArray}{ps:List GP}{z:Int}(h:mS k ps z)(a:¬z<0):∃(i:Nat) (w:Value) (t:bJ),z=(i:Int)/\ps[i]? =some (w,t)/\t.text=k/\aS k (fo (eJ ps))=some t:=by
 rcases h with⟨h1,_⟩|h1
 ·omega
 ·exact h1
theorem u7{ps:List GP}{i:Nat}{z:GP}(q:bJ->Bool)(a:ps[i]? =some z):((ps.take (i+1)).filter λp=>q p.2)=((ps.take i).filter λp=>q p.2)++if q z.2 then [z]else []:=by
 rw[ae2,a,afn,afo,afp,List.filter_nil]
theorem mS.at{A:List (ByteArray×bJ)}{ps:List GP}(f:eX A ps){k:ByteArray}{z:Int}(h:mS k ps z)(b:¬z<0):∃(i:Nat) (w:Value) (t:bJ),z=(i:Int)/\ps[i]? =some (w,t)/\t.text=k/\aS k A=some t:=by
 obtain⟨i,w,t,c,d,e,a⟩:=h.pos b
 rw[f.get]at a
 exact⟨i,w,t,c,d,e,a⟩
theorem L9(xb:Nat)(vr vn g:Value)(e f:Int)(ps:List GP)(T:ax)(h:ni xb vr vn g e f ps T)(now:Int)(R:au){RD:au}(B:∀p∈ps,dl RD p):
  Spec prog 91 [cI (pT xb) 1,.int .i64 now] R [T] λu H'=>∃T',H'=[T']/\u=.tuple #[]/\ni xb vr vn g e f (ps.filter λp=>decide (now<p.2.cb)) T':=by
 obtain⟨A,v,rfl,b,H⟩:=h
 have J:=b.av
 have I:=b.le
 refine Spec.cX (H':=[bl xb [vr,vn,A,g,.int .i64 e,.int .i64 f] 44,v,[]]) (by simp) ?_
 refine Spec.body func91 rfl results91 ntmps91 rfl ?_
 refine .sr<|.ag rfl<|.zs<|.sr<|.az rfl<|.block ?_
 refine .loop (X:=Nat×Value×ax) (λy=>y.1<=ps.length/\OS 121 9 bM y.2.1 ((ps.take y.1).filter λp=>decide (now<p.2.cb)) y.2.2) (λy=>[(0,cI (pT xb) 1),(1,.int .i64 now),(4,y.2.1),(5,iN y.1)]) (λy=>[bl xb [vr,vn,A,g,.int .i64 e,.int .i64 f] 44,v,y.2.2]) (λy=>ps.length-y.1) (0,sZ,[]) ⟨by omega,OS.nil⟩ kE.c.c.c.c rH ?_
 rintro⟨i,l,j⟩ ⟨C,a⟩
 simp only at C a⊢
 have K:=a.av
 have F:((ps.take i).filter λp=>decide (now<p.2.cb)).length<=i:=aeQ (aeR _ _) (by simp;omega)
 refine .seq<|.sr<|.mo rfl<|.mo rfl<|.nc rfl<|.fa rfl<|.lo rfl<|.q (.ei b) ?_
 refine .q .lss<|.zn ?_
 refine .cond rfl (λm=>?_) λm=>?_
 have E:i<ps.length:=dT m
 obtain⟨⟨w,t⟩,k⟩:=dR E
 have x:=B _ (bU k)
 have L:bG (bM (w,t)):=⟨x.bD⟩
 have d:=u7 (λu:bJ=>decide (now<u.cb)) k
 refine .kn<|.seq<|.block<|.sr<|.mo rfl<|.nc rfl<|.fa rfl<|.lo rfl<|.mo rfl ?_
 refine .ba i b k (λM=>?_)
 refine .fa rfl<|.lo rfl<|.mo rfl<|.q .gtr<|.zn ?_
 refine .cond rfl (λn=>?_) λn=>?_
 have o:decide (now<t.cb)=true:=n
 simp only[o,aeY]at d
 refine .region<|.mo rfl<|.mo rfl<|.nc rfl<|.fa rfl<|.lo rfl<|.mo rfl ?_
 refine .ba i b k (λN=>?_)
 refine .q (.bI rfl) ?_
 refine .fQ (λG=>?_)
 refine .append a (RS.lits (xs:=[((w,t):GP)]) rfl (by simp[bM]) (by have:=x.bD;simpa using this)) (by simp;omega) (λz s r=>?_)
 rw[<-d]at r
 refine .ag rfl<|.nil<|bw<|aD<|.region<|.mo rfl ?_
 refine .ia (i+1) .add ?_
 refine .ag rfl<|.nil ?_
 ·first
   |exact bd (i+1,z,s) ⟨by simp only;omega,r⟩ (by simp only;omega) kE.c.c.c.c (aH [1,1,1])
   |exact bd (i+1,l,j) ⟨by simp only;omega,by simp only;rw[d];exact a⟩ (by simp only;omega) kE.c.c.c.c rH
 have o:decide (now<t.cb)=false:=n
 simp only[o,aeV,aeW,aeZ]at d
 refine .skip<|bw<|aD<|.region<|.mo rfl ?_
 refine .ia (i+1) .add ?_
 refine .ag rfl<|.nil ?_
 ·first
   |exact bd (i+1,z,s) ⟨by simp only;omega,r⟩ (by simp only;omega) kE.c.c.c.c (aH [1,1,1])
   |exact bd (i+1,l,j) ⟨by simp only;omega,by simp only;rw[d];exact a⟩ (by simp only;omega) kE.c.c.c.c rH
 have D:i=ps.length:=by have:=bi m;omega
 rw[D,aeN]at a F
 refine .exit<|bE<|bH<|bF<|aD<|.region<|.mo rfl<|.mo rfl<|.nc rfl<|.fa rfl<|.cH rfl rfl<|.nil ?_
 refine ed _ .none ((aH [0,1]).trans (aU.bu (H':=[(xb,.cells [vr,vn,l,g,.int .i64 e,.int .i64 f].toArray 44 (0,0))::j]) (by simp[take,aY,bZ]))) ?_
 ·exact⟨_,rfl,rfl,l,j,rfl,a,by omega⟩
theorem L8(xb:Nat)(vr vn f:Value)(b d:Int)(ps:List GP)(T:ax)(h:ni xb vr vn f b d ps T)(b0:ps.length<=900)(A:List (ByteArray×bJ))(l:eX A ps)(w:Value)(t:bJ)(R:au){RD:au}(ht:dl RD (w,t))(hc:∀p∈ps,dl RD p):
    Spec prog 107 [cI (pT xb) 1,.agg (bM (w,t)).toArray] R [T] λu H'=>∃T',H'=[T']/\u=.int .i64 (dp A t).1/\∃ps',ni xb vr vn f b d ps' T'/\eX (dp A t).2 ps'/\(∀p∈ps',p∈ps\/p=(w,t.fresh))/\ps'.length<=ps.length+1:=by
  have V:=h
  obtain⟨I,J,rfl,O,hl⟩:=h
  have ir:bG (bM (w,t)):=⟨ht.bD⟩
  have a5:bG (bM (w,t.fresh)):=⟨dl.bD (R:=RD) (p:=(w,t.fresh)) ht⟩
  have i1:=O.av
  have b1:=l.len
  refine Spec.cX (H':=[bl xb [vr,vn,I,f,.int .i64 b,.int .i64 d] 44,J,[]]) (by simp) ?_
  refine Spec.body func107 rfl results107 ntmps107 rfl ?_
  refine .sr ?_
  refine .dA rfl (λU=>?_)
  refine .ag rfl<|.zs<|.sr<|.mo rfl<|.fa rfl<|.lo rfl ?_
  refine .aL (sq xb vn f b d I ps t.text _ O.rx hc) (λu hu=>?_)
  obtain⟨z,rfl,S⟩:=hu
  refine .q .geq<|.zn ?_
  refine .cond rfl (λM=>?_) λM=>?_
  refine .sr<|.az rfl ?_
  refine .ret (aI (aN _ (.one (.tmp rfl)) (by first|(refine(aH [1,1]).trans (aU.bu (H':=[(xb,.cells [vr,vn,I,f,.int .i64 b,.int .i64 d].toArray 44 (0,0))::J]) ?_);simp[take,aY]<;>fail)|(refine(aH [1,2]).trans (aU.bu (H':=[(xb,.cells [vr,vn,x,f,.int .i64 b,.int .i64 d].toArray 44 (0,0))::s]) ?_);simp[take,aY,bZ]<;>fail)|(refine(aH [2,2]).trans (aU.bu (H':=[(xb,.cells [vr,vn,x,f,.int .i64 b,.int .i64 d].toArray 44 (0,0))::s]) ?_);simp[take,aY,bZ]<;>fail)|(refine(aH [1,2]).trans (aU.bu (H':=[(xb,.cells [vr,vn,r,f,.int .i64 b,.int .i64 d].toArray 44 (0,0))::n]) ?_);simp[take,aY,bZ]<;>fail)|(refine(aH [2,3]).trans (aU.bu (H':=[(xb,.cells [vr,vn,r,f,.int .i64 b,.int .i64 d].toArray 44 (0,0))::n]) ?_);simp[take,aY,bZ]<;>fail)) ?_))
  ·skip
   first
     |(obtain⟨i,w9,t9,_,_,_,D⟩:=S.pos (by have:=bq M;omega)
       rw[l.get]at D
       have e:dp A t=(22,A):=by unfold dp;rw[D];rfl
       rw[e]
       exact⟨_,rfl,rfl,ps,V,l,λp g=>.inl g,by omega⟩)
     |(have Z:=bq N
       exfalso;omega)
     |(rw[G]
       have j:ps.any (ay dP (w,t.fresh))=false:=by rw[aeT]at m;exact m
       have v:cQ (ay dP) (w,t.fresh) ps=ps:=by unfold cQ;rw[j];rfl
       rw[v, <-jN j]at B
       exact⟨_,rfl,rfl,de (ay dP) (w,t.fresh) ps,⟨r,n,rfl,B,by rw[dS];omega⟩,eX.add (t:=t.fresh) l F,λp g=>(aeM.1 (eO.mem_iff.1 g)).symm,by rw[dS];omega⟩)
     |(rw[G]
       have j:ps.any (ay dP (w,t.fresh))=true:=by rw[aeU]at m;exact m
       have v:cQ (ay dP) (w,t.fresh) ps=de (ay dP) (w,t.fresh) ps:=by unfold cQ;rw[j];rfl
       rw[v]at o
       exact⟨_,rfl,rfl,de (ay dP) (w,t.fresh) ps,⟨x,s,rfl,o,by rw[dS];omega⟩,eX.add (t:=t.fresh) l F,λp g=>(aeM.1 (eO.mem_iff.1 g)).symm,by rw[dS];omega⟩)
  have F:aS t.text A=none:=by rw[<-l.get];exact S.neg (by have:=bi M;omega)
  refine .kn<|.seq<|.sr<|.mo rfl<|.nc rfl<|.fa rfl<|.lo rfl<|.q (.ei O) ?_
  refine .q .geq<|.zn ?_
  refine .cond rfl (λN=>?_) λN=>?_
  refine .sr<|.az rfl ?_
  refine .ret (aI (aN _ (.one (.tmp rfl)) (by first|(refine(aH [1,1]).trans (aU.bu (H':=[(xb,.cells [vr,vn,I,f,.int .i64 b,.int .i64 d].toArray 44 (0,0))::J]) ?_);simp[take,aY]<;>fail)|(refine(aH [1,2]).trans (aU.bu (H':=[(xb,.cells [vr,vn,x,f,.int .i64 b,.int .i64 d].toArray 44 (0,0))::s]) ?_);simp[take,aY,bZ]<;>fail)|(refine(aH [2,2]).trans (aU.bu (H':=[(xb,.cells [vr,vn,x,f,.int .i64 b,.int .i64 d].toArray 44 (0,0))::s]) ?_);simp[take,aY,bZ]<;>fail)|(refine(aH [1,2]).trans (aU.bu (H':=[(xb,.cells [vr,vn,r,f,.int .i64 b,.int .i64 d].toArray 44 (0,0))::n]) ?_);simp[take,aY,bZ]<;>fail)|(refine(aH [2,3]).trans (aU.bu (H':=[(xb,.cells [vr,vn,r,f,.int .i64 b,.int .i64 d].toArray 44 (0,0))::n]) ?_);simp[take,aY,bZ]<;>fail)) ?_))
  ·skip
   first
     |(obtain⟨i,w9,t9,_,_,_,D⟩:=S.pos (by have:=bq M;omega)
       rw[l.get]at D
       have e:dp A t=(22,A):=by unfold dp;rw[D];rfl
       rw[e]
       exact⟨_,rfl,rfl,ps,V,l,λp g=>.inl g,by omega⟩)
     |(have Z:=bq N
       exfalso;omega)
     |(rw[G]
       have j:ps.any (ay dP (w,t.fresh))=false:=by rw[aeT]at m;exact m
       have v:cQ (ay dP) (w,t.fresh) ps=ps:=by unfold cQ;rw[j];rfl
       rw[v, <-jN j]at B
       exact⟨_,rfl,rfl,de (ay dP) (w,t.fresh) ps,⟨r,n,rfl,B,by rw[dS];omega⟩,eX.add (t:=t.fresh) l F,λp g=>(aeM.1 (eO.mem_iff.1 g)).symm,by rw[dS];omega⟩)
     |(rw[G]
       have j:ps.any (ay dP (w,t.fresh))=true:=by rw[aeU]at m;exact m
       have v:cQ (ay dP) (w,t.fresh) ps=de (ay dP) (w,t.fresh) ps:=by unfold cQ;rw[j];rfl
       rw[v]at o
       exact⟨_,rfl,rfl,de (ay dP) (w,t.fresh) ps,⟨x,s,rfl,o,by rw[dS];omega⟩,eX.add (t:=t.fresh) l F,λp g=>(aeM.1 (eO.mem_iff.1 g)).symm,by rw[dS];omega⟩)
  have b2:ps.length<4096:=by have:=bi N;omega
  have G:dp A t=(0,cO t.text t.fresh A):=by unfold dp;rw[F];simp only[Option.isSome_none,aeV,aeW];rw[aeK (by omega)]
  refine .kn<|.sr<|.fa rfl<|.cH rfl rfl<|.z<|.ag rfl<|.z<|.ag rfl<|.zs<|.sr<|.az rfl<|.block ?_
  refine .loop (X:=Nat×Value×ax) (λy=>y.1<=ps.length/\OS 121 9 bM y.2.1 (cQ (ay dP) (w,t.fresh) (ps.take y.1)) y.2.2) (λy=>[(0,cI (pT xb) 1),(3,pT U),(5,y.2.1),(6,.bool ((ps.take y.1).any (ay dP (w,t.fresh)))),(7,iN y.1)]) (λy=>[bl U (bM (w,t.fresh)) 121,bl xb [vr,vn,I,f,.int .i64 b,.int .i64 d] 44,J,y.2.2]) (λy=>ps.length-y.1) (0,sZ,[]) ⟨ae4 _,OS.nil⟩ kE.c.c.c.c.c rH ?_
  rintro⟨k,x,s⟩ ⟨hk,o⟩
  simp only at hk o⊢
  have i4:=o.av
  have a4:=lF (lt:=ay dP) (p:=((w,t.fresh):GP)) (X:=ps.take k)
  rw[afa,afg hk]at a4
  refine .seq<|.sr<|.mo rfl<|.mo rfl<|.nc rfl<|.fa rfl<|.lo rfl<|.q (.ei O) ?_
  refine .q .lss<|.zn ?_
  refine .cond rfl (λY=>?_) λY=>?_
  have a3:k<ps.length:=dT Y
  obtain⟨⟨L,K⟩,H⟩:=dR a3
  have cx:=hc _ (bU H)
  have ix:bG (bM (L,K)):=⟨cx.bD⟩
  have e4:=oM (lt:=ay dP) (p:=((w,t.fresh):GP)) H
  refine .kn<|.seq<|.block<|.seq ?_
  refine bO.cut (X:=Value×ax) (λz=>OS 121 9 bM z.1 (je (ay dP) (w,t.fresh) (ps.take k) (L,K)) z.2) (λz=>[(0,cI (pT xb) 1),(3,pT U),(5,z.1),(6,.bool ((ps.take (k+1)).any (ay dP (w,t.fresh)))),(7,iN k)]) (λz=>[bl U (bM (w,t.fresh)) 121,bl xb [vr,vn,I,f,.int .i64 b,.int .i64 d] 44,J,z.2]) ?_ ?_
  refine .seq ?_
  refine .iA mixed (by kernel_rfl) ?_
  refine .mo rfl<|.q .not<|.mo rfl ?_
  refine .split (t:=31) rfl (λa=>?_) (λa=>?_)
  refine .gT a<|.fa rfl<|.gT a<|.lo rfl<|.gT a<|.mo rfl<|.gT a ?_
  refine .nc rfl<|.gT a<|.fa rfl<|.gT a<|.lo rfl<|.gT a<|.mo rfl<|.gT a ?_
  refine .ba k O H (λb4=>?_)
  refine .gT a<|.fa rfl<|.gT a<|.lo rfl<|.gT a<|.q .m2<|.q (.aW a) ?_
  refine .zn ?_
  refine .cond rfl (λW=>?_) λW=>?_
  first|have a0:=mE H a ((lj (w,t.fresh) (L,K)).trans W)|skip
  refine .sr<|.mo rfl<|.q (.bI rfl) ?_
  refine .fQ (λa7=>?_)
  refine .append o (RS.lits (xs:=[((w,t.fresh):GP)]) rfl (by simp[bM]) (by have:=a5.h;simpa using this)) (by simp;omega) (λr n B=>?_)
  refine .az rfl<|.region<|.ag rfl<|.nil ?_
  ·first
      |(obtain⟨E,C⟩:=a0
        exact aA (r,n) (by simp only;rw[E];exact B) (by simp only;rw[C];exact kE.c.c.c.c.c) (aH [1,1,1,1]))
      |(obtain⟨E,C⟩:=Q
        exact aA (x,s) (by simp only;rw[E];simpa using o) (by simp only;rw[C];exact kE.c.c.c.c.c) rH)
  first|have Q:=ib (p:=((w,t.fresh):GP)) H (.inr ((lj (w,t.fresh) (L,K)).trans W))|skip
  refine .skip ?_
  ·first
      |(obtain⟨E,C⟩:=a0
        exact aA (r,n) (by simp only;rw[E];exact B) (by simp only;rw[C];exact kE.c.c.c.c.c) (aH [1,1,1,1]))
      |(obtain⟨E,C⟩:=Q
        exact aA (x,s) (by simp only;rw[E];simpa using o) (by simp only;rw[C];exact kE.c.c.c.c.c) rH)
  have Q:=ib (p:=((w,t.fresh):GP)) H (.inl a)
  refine .gF a<|.gF a<|.gF a<|.gF a<|.gF a<|.gF a<|.gF a<|.gF a<|.gF a<|.gF a<|.gF a<|.q (.aQ a) ?_
  refine .zn<|.bX ?_
  first|have Q:=ib (p:=((w,t.fresh):GP)) H (.inr ((lj (w,t.fresh) (L,K)).trans W))|skip
  refine .skip ?_
  ·first
      |(obtain⟨E,C⟩:=a0
        exact aA (r,n) (by simp only;rw[E];exact B) (by simp only;rw[C];exact kE.c.c.c.c.c) (aH [1,1,1,1]))
      |(obtain⟨E,C⟩:=Q
        exact aA (x,s) (by simp only;rw[E];simpa using o) (by simp only;rw[C];exact kE.c.c.c.c.c) rH)
  intro y hy
  obtain⟨vm,Tm⟩:=y
  have a1:OS 121 9 bM vm (je (ay dP) (w,t.fresh) (ps.take k) (L,K)) Tm:=hy
  have i6:=a1.av
  simp only
  refine aD<|.region<|.mo rfl<|.mo rfl<|.nc rfl<|.fa rfl<|.lo rfl<|.mo rfl ?_
  refine .ba k O H (λb5=>?_)
  refine .q (.bI rfl) ?_
  refine .fQ (λa8=>?_)
  refine .append a1 (RS.lits (xs:=[((L,K):GP)]) rfl (by simp[bM]) (by have:=cx.bD;simpa using this)) (by have:=lF (lt:=ay dP) (p:=((w,t.fresh):GP)) (X:=ps.take (k+1));rw[<-e4]at this;simp at this⊢;omega) (λv7 T7 a2=>?_)
  rw[e4]at a2
  refine .ag rfl<|.nil<|bw<|aD<|.region<|.mo rfl ?_
  refine .ia (k+1) .add ?_
  refine .ag rfl<|.nil ?_
  ·exact bd (k+1,v7,T7) ⟨a3,a2⟩ (by simp only;omega) kE.c.c.c.c.c (aH [1,1,1,1])
  have a6:k=ps.length:=by have:=bi Y;omega
  subst a6
  rw[aeN]at o a4⊢
  refine .exit<|bE<|bH<|bF<|aD<|.seq<|.sr<|.mo rfl<|.q .not<|.zn ?_
  refine .cond rfl (λm=>?_) λm=>?_
  refine .region<|.mo rfl<|.q (.bI rfl) ?_
  refine .fQ (λa9=>?_)
  refine .append o (RS.lits (xs:=[((w,t.fresh):GP)]) rfl (by simp[bM]) (by have:=a5.h;simpa using this)) (by simp;omega) (λr n B=>?_)
  have i5:=B.av
  refine .ag rfl<|.z<|.mo rfl<|.mo rfl<|.nc rfl<|.fa rfl<|.cH rfl rfl<|.z<|.az rfl ?_
  refine .ret (aN _ (.one (.tmp rfl)) (by first|(refine(aH [1,1]).trans (aU.bu (H':=[(xb,.cells [vr,vn,I,f,.int .i64 b,.int .i64 d].toArray 44 (0,0))::J]) ?_);simp[take,aY]<;>fail)|(refine(aH [1,2]).trans (aU.bu (H':=[(xb,.cells [vr,vn,x,f,.int .i64 b,.int .i64 d].toArray 44 (0,0))::s]) ?_);simp[take,aY,bZ]<;>fail)|(refine(aH [2,2]).trans (aU.bu (H':=[(xb,.cells [vr,vn,x,f,.int .i64 b,.int .i64 d].toArray 44 (0,0))::s]) ?_);simp[take,aY,bZ]<;>fail)|(refine(aH [1,2]).trans (aU.bu (H':=[(xb,.cells [vr,vn,r,f,.int .i64 b,.int .i64 d].toArray 44 (0,0))::n]) ?_);simp[take,aY,bZ]<;>fail)|(refine(aH [2,3]).trans (aU.bu (H':=[(xb,.cells [vr,vn,r,f,.int .i64 b,.int .i64 d].toArray 44 (0,0))::n]) ?_);simp[take,aY,bZ]<;>fail)) ?_)
  ·skip
   first
     |(obtain⟨i,w9,t9,_,_,_,D⟩:=S.pos (by have:=bq M;omega)
       rw[l.get]at D
       have e:dp A t=(22,A):=by unfold dp;rw[D];rfl
       rw[e]
       exact⟨_,rfl,rfl,ps,V,l,λp g=>.inl g,by omega⟩)
     |(have Z:=bq N
       exfalso;omega)
     |(rw[G]
       have j:ps.any (ay dP (w,t.fresh))=false:=by rw[aeT]at m;exact m
       have v:cQ (ay dP) (w,t.fresh) ps=ps:=by unfold cQ;rw[j];rfl
       rw[v, <-jN j]at B
       exact⟨_,rfl,rfl,de (ay dP) (w,t.fresh) ps,⟨r,n,rfl,B,by rw[dS];omega⟩,eX.add (t:=t.fresh) l F,λp g=>(aeM.1 (eO.mem_iff.1 g)).symm,by rw[dS];omega⟩)
     |(rw[G]
       have j:ps.any (ay dP (w,t.fresh))=true:=by rw[aeU]at m;exact m
       have v:cQ (ay dP) (w,t.fresh) ps=de (ay dP) (w,t.fresh) ps:=by unfold cQ;rw[j];rfl
       rw[v]at o
       exact⟨_,rfl,rfl,de (ay dP) (w,t.fresh) ps,⟨x,s,rfl,o,by rw[dS];omega⟩,eX.add (t:=t.fresh) l F,λp g=>(aeM.1 (eO.mem_iff.1 g)).symm,by rw[dS];omega⟩)
  refine .kn<|.sr<|.mo rfl<|.mo rfl<|.nc rfl<|.fa rfl<|.cH rfl rfl<|.z<|.az rfl ?_
  refine .ret (aN _ (.one (.tmp rfl)) (by first|(refine(aH [1,1]).trans (aU.bu (H':=[(xb,.cells [vr,vn,I,f,.int .i64 b,.int .i64 d].toArray 44 (0,0))::J]) ?_);simp[take,aY]<;>fail)|(refine(aH [1,2]).trans (aU.bu (H':=[(xb,.cells [vr,vn,x,f,.int .i64 b,.int .i64 d].toArray 44 (0,0))::s]) ?_);simp[take,aY,bZ]<;>fail)|(refine(aH [2,2]).trans (aU.bu (H':=[(xb,.cells [vr,vn,x,f,.int .i64 b,.int .i64 d].toArray 44 (0,0))::s]) ?_);simp[take,aY,bZ]<;>fail)|(refine(aH [1,2]).trans (aU.bu (H':=[(xb,.cells [vr,vn,r,f,.int .i64 b,.int .i64 d].toArray 44 (0,0))::n]) ?_);simp[take,aY,bZ]<;>fail)|(refine(aH [2,3]).trans (aU.bu (H':=[(xb,.cells [vr,vn,r,f,.int .i64 b,.int .i64 d].toArray 44 (0,0))::n]) ?_);simp[take,aY,bZ]<;>fail)) ?_)
  ·skip
   first
     |(obtain⟨i,w9,t9,_,_,_,D⟩:=S.pos (by have:=bq M;omega)
       rw[l.get]at D
       have e:dp A t=(22,A):=by unfold dp;rw[D];rfl
       rw[e]
       exact⟨_,rfl,rfl,ps,V,l,λp g=>.inl g,by omega⟩)
     |(have Z:=bq N
       exfalso;omega)
     |(rw[G]
       have j:ps.any (ay dP (w,t.fresh))=false:=by rw[aeT]at m;exact m
       have v:cQ (ay dP) (w,t.fresh) ps=ps:=by unfold cQ;rw[j];rfl
       rw[v, <-jN j]at B
       exact⟨_,rfl,rfl,de (ay dP) (w,t.fresh) ps,⟨r,n,rfl,B,by rw[dS];omega⟩,eX.add (t:=t.fresh) l F,λp g=>(aeM.1 (eO.mem_iff.1 g)).symm,by rw[dS];omega⟩)
     |(rw[G]
       have j:ps.any (ay dP (w,t.fresh))=true:=by rw[aeU]at m;exact m
       have v:cQ (ay dP) (w,t.fresh) ps=de (ay dP) (w,t.fresh) ps:=by unfold cQ;rw[j];rfl
       rw[v]at o
       exact⟨_,rfl,rfl,de (ay dP) (w,t.fresh) ps,⟨x,s,rfl,o,by rw[dS];omega⟩,eX.add (t:=t.fresh) l F,λp g=>(aeM.1 (eO.mem_iff.1 g)).symm,by rw[dS];omega⟩)
theorem nP(xb:Nat)(vr vn D:Value)(B C:Int)(ps:List GP)(T:ax)(h:ni xb vr vn D B C ps T)(A:List (ByteArray×bJ))(l:eX A ps)(k aC j d:ByteArray)(now:Int)(Y:d.size<=100000)(R:au){RD:au}(m:∀p∈ps,dl RD p):
    Spec prog 112 [cI (pT xb) 1,.string k,.string aC,.string j,.string d,.int .i64 now] R [T] λu H'=>∃T',H'=[T']/\∃w ps',u=.tuple [.agg (bM (w,(bh A k aC j d now).1)).toArray,.int .i64 (bh A k aC j d now).2.1].toArray/\dl RD (w,(bh A k aC j d now).1)/\ni xb vr vn D B C ps' T'/\eX (bh A k aC j d now).2.2 ps'/\(∀p∈ps',dl RD p)/\ps'.length<=ps.length:=by
  have r:=h
  obtain⟨x,M,J,G,X⟩:=h
  have i1:=G.av
  have px:PS T (cI (pT xb) 1) [vn,x,D,.int .i64 B,.int .i64 C]:=LO (vr:=vr) (by rw[J];simp)
  have H:RS (sg T) 9 bM x ps:=G.rs λp hp=>by rw[J];simp[sg,hp]
  refine Spec.body func112 rfl results112 ntmps112 rfl ?_
  refine .sr ?_
  refine .cG (λZ=>?_)
  refine .ag rfl<|.z<|.mo rfl<|.mo rfl ?_
  refine .aL (sq xb vn D B C x ps k _ (H.mono λb o U=>.inr (by have V:(b,o)∈T:=U;simp[V])) m) (λu F=>?_)
  obtain⟨z,rfl,L⟩:=F
  refine .ag rfl<|.zs<|.sr<|.mo rfl<|.q .lss<|.mo rfl ?_
  refine .split (t:=21) rfl (λa=>?_) (λa=>?_)
  refine .gF a<|.gF a<|.gF a<|.gF a<|.gF a<|.gF a<|.gF a<|.gF a<|.gF a<|.gF a<|.q (.aW a) ?_
  refine .zn<|.dn<|.sr ?_
  refine .q .du ?_
  refine .cc rfl rfl<|.az rfl ?_
  refine .ret (aI (aN _ (.two (.dO rfl rfl) (.tmp rfl)) ((aH [1])) ?_))
  ·have n:aS k A=none:=by rw[<-l.get];exact L.neg (bq a)
   have e:bh A k aC j d now=(bJ.zero,18,A):=by unfold bh;rw[n]
   rw[e];exact⟨_,rfl,sZ,ps,rfl,dl.zero _,r,l,m,ae0 _⟩
  obtain⟨i,w,t,rfl,v,W,n⟩:=L.at l (bi a)
  have E:=m _ (bU v)
  have ii:bG (bM (w,t)):=⟨E.bD⟩
  have pi:PS T (eK x (i*9)) (bM (w,t)):=⟨H.pc v⟩
  refine .gT a<|.mo rfl<|.gT a<|.nc rfl<|.gT a<|.fa rfl<|.gT a<|.lo rfl<|.gT a<|.mo rfl<|.gT a<|.q (.ct i H v rfl rfl rfl) ?_
  refine .gT a<|.fa rfl<|.gT a<|.lo rfl<|.gT a<|.mo rfl<|.gT a<|.q .eU<|.q (.aQ a) ?_
  refine .zn ?_
  refine .cond rfl (λI=>?_) λI=>?_
  refine .sr ?_
  refine .q .du ?_
  refine .cc rfl rfl<|.az rfl ?_
  refine .ret (aI (aN _ (.two (.dO rfl rfl) (.tmp rfl)) ((aH [1])) ?_))
  ·have e:bh A k aC j d now=(bJ.zero,18,A):=by unfold bh;rw[n];simp only;rw[aeL (by simpa using I)]
   rw[e];exact⟨_,rfl,sZ,ps,rfl,dl.zero _,r,l,m,ae0 _⟩
  have y:¬t.aC≠aC:=by
    have N:t.aC=aC:=by simpa using I
    simp[N]
  refine .kn<|.sr<|.mo rfl<|.nc rfl<|.fa rfl<|.lo rfl<|.mo rfl<|.q (.ct i H v rfl rfl rfl) ?_
  refine .q (.bI rfl) ?_
  refine .cG (λa0=>?_)
  refine .cc rfl rfl<|.zs<|.sr<|.fa rfl<|.lo rfl<|.zn ?_
  refine .cond rfl (λs=>?_) λs=>?_
  refine .sr<|.q (.bI rfl)<|.cc rfl rfl<|.az rfl ?_
  refine .ret (aI (aN _ (.two (.dO rfl rfl) (.tmp rfl)) ((aH [2])) ?_))
  ·have e:bh A k aC j d now=(t,10,A):=by unfold bh;rw[n];simp only;rw[aeK y,aeL s]
   rw[e];exact⟨_,rfl,w,_,rfl,E,r,l,m,ae0 _⟩
  refine .kn<|.seq<|.seq<|.cP [] mixed ?_
  refine .tO 0 rfl (.fieldAddr rfl)<|.tO 1 rfl (.bK rfl)<|.tO 2 rfl .move<|.tO 3 rfl .leq<|.tO 4 rfl .move ?_
  refine RA.split (t:=48) rfl (λc=>?_) (λc=>?_)
  refine .iW 5 rfl rfl c rfl (by kernel_rfl) ?_
  refine .iW 6 rfl rfl c rfl (by kernel_rfl) ?_
  refine .iW 7 rfl rfl c rfl (by kernel_rfl) ?_
  refine .iW 8 rfl rfl c rfl (by kernel_rfl) ?_
  refine .tO 9 rfl (.aW c) ?_
  refine .tO 10 rfl .move ?_
  refine .lv 11 rfl rfl rfl (by kernel_rfl) ?_
  refine .sT 12 rfl ?_
  refine .gX ?_
  refine .nil (Next.sub ?_)
  refine .lv 13 rfl rfl rfl (by kernel_rfl) ?_
  refine .tO 14 rfl .bY<|.tO 15 rfl .move ?_
  refine .lv 16 rfl rfl rfl (by kernel_rfl) ?_
  refine .lv 18 rfl rfl rfl (by kernel_rfl) ?_
  refine .lv 19 rfl rfl rfl (by kernel_rfl) ?_
  refine .sT 17 rfl ?_
  refine .gX ?_
  refine .nil (Next.sub ?_)
  refine .lv 20 rfl rfl rfl (by kernel_rfl) ?_
  refine .tO 21 rfl .bY ?_
  refine RA.nil (by kernel_rfl) ?_
  refine aD<|.dn<|.sr ?_
  refine .q .du ?_
  refine .cc rfl rfl<|.az rfl ?_
  refine .ret (aI (aN _ (.two (.dO rfl rfl) (.tmp rfl)) ((aH [2])) ?_))
  ·have e:bh A k aC j d now=(bJ.zero,18,A):=by
      unfold bh;rw[n];simp only;rw[aeK y,aeK (by rw[s];simp),aeL ?_]
      first
        |(exact .inl (bq c))
        |(exact .inr (.inl (by simpa using f)))
        |(refine .inr (.inr ?_)
          unfold lm
          simp_all)
   rw[e];exact⟨_,rfl,sZ,ps,rfl,dl.zero _,r,l,m,ae0 _⟩
  refine .df 5 rfl rfl c (.fieldAddr rfl) (by kernel_rfl) ?_
  refine .df 6 rfl rfl c (.bK rfl) (by kernel_rfl) ?_
  refine .df 7 rfl rfl c .move (by kernel_rfl) ?_
  refine .df 8 rfl rfl c .eU (by kernel_rfl) ?_
  refine .tO 9 rfl (.aQ c) ?_
  refine .tO 10 rfl .move ?_
  refine RA.split (t:=54) rfl (λf=>?_) (λf=>?_)
  refine .iW 11 rfl rfl f rfl (by kernel_rfl) ?_
  refine .sT 12 rfl ?_
  refine .gF f ?_
  refine .nil (Next.sub ?_)
  refine .iW 13 rfl rfl f rfl (by kernel_rfl) ?_
  refine .tO 14 rfl (.aW f) ?_
  refine .tO 15 rfl .move ?_
  refine .lv 16 rfl rfl rfl (by kernel_rfl) ?_
  refine .lv 18 rfl rfl rfl (by kernel_rfl) ?_
  refine .lv 19 rfl rfl rfl (by kernel_rfl) ?_
  refine .sT 17 rfl ?_
  refine .gX ?_
  refine .nil (Next.sub ?_)
  refine .lv 20 rfl rfl rfl (by kernel_rfl) ?_
  refine .tO 21 rfl .bY ?_
  refine RA.nil (by kernel_rfl) ?_
  refine aD<|.dn<|.sr ?_
  refine .q .du ?_
  refine .cc rfl rfl<|.az rfl ?_
  refine .ret (aI (aN _ (.two (.dO rfl rfl) (.tmp rfl)) ((aH [2])) ?_))
  ·have e:bh A k aC j d now=(bJ.zero,18,A):=by
      unfold bh;rw[n];simp only;rw[aeK y,aeK (by rw[s];simp),aeL ?_]
      first
        |(exact .inl (bq c))
        |(exact .inr (.inl (by simpa using f)))
        |(refine .inr (.inr ?_)
          unfold lm
          simp_all)
   rw[e];exact⟨_,rfl,sZ,ps,rfl,dl.zero _,r,l,m,ae0 _⟩
  refine .df 11 rfl rfl f .move (by kernel_rfl) ?_
  refine .sT 12 rfl ?_
  refine .gT f ?_
  refine .aL (MN d (by omega) _) (λu F=>?_)
  subst F
  refine .nil (Next.sub ?_)
  refine .df 13 rfl rfl f .not (by kernel_rfl) ?_
  refine .tO 14 rfl (.aQ f) ?_
  refine .tO 15 rfl .move ?_
  refine RA.split (t:=59) rfl (λg=>?_) (λg=>?_)
  refine .iW 16 rfl rfl g rfl (by kernel_rfl) ?_
  refine .iW 18 rfl rfl g rfl (by kernel_rfl) ?_
  refine .iW 19 rfl rfl g rfl (by kernel_rfl) ?_
  refine .sT 17 rfl ?_
  refine .gF g ?_
  refine .nil (Next.sub ?_)
  refine .iW 20 rfl rfl g rfl (by kernel_rfl) ?_
  refine .tO 21 rfl (.aW g) ?_
  refine RA.nil (by kernel_rfl) ?_
  refine aD<|.dn<|.sr ?_
  refine .q .du ?_
  refine .cc rfl rfl<|.az rfl ?_
  refine .ret (aI (aN _ (.two (.dO rfl rfl) (.tmp rfl)) ((aH [2])) ?_))
  ·have e:bh A k aC j d now=(bJ.zero,18,A):=by
      unfold bh;rw[n];simp only;rw[aeK y,aeK (by rw[s];simp),aeL ?_]
      first
        |(exact .inl (bq c))
        |(exact .inr (.inl (by simpa using f)))
        |(refine .inr (.inr ?_)
          unfold lm
          simp_all)
   rw[e];exact⟨_,rfl,sZ,ps,rfl,dl.zero _,r,l,m,ae0 _⟩
  refine .df 16 rfl rfl g .move (by kernel_rfl) ?_
  refine .df 18 rfl rfl g (.fieldAddr rfl) (by kernel_rfl) ?_
  refine .df 19 rfl rfl g (.bK rfl) (by kernel_rfl) ?_
  refine .sT 17 rfl ?_
  refine .gT g ?_
  refine .aL (Mn d Y _) (λu F=>?_)
  subst F
  refine .nil (Next.sub ?_)
  refine .df 20 rfl rfl g .eU (by kernel_rfl) ?_
  refine .tO 21 rfl (.aQ g) ?_
  refine RA.nil (by kernel_rfl) ?_
  refine aD ?_
  refine .cond rfl (λO=>?_) λO=>?_
  refine .sr ?_
  refine .q .du ?_
  refine .cc rfl rfl<|.az rfl ?_
  refine .ret (aI (aN _ (.two (.dO rfl rfl) (.tmp rfl)) ((aH [2])) ?_))
  ·have e:bh A k aC j d now=(bJ.zero,18,A):=by
      unfold bh;rw[n];simp only;rw[aeK y,aeK (by rw[s];simp),aeL ?_]
      first
        |(exact .inl (bq c))
        |(exact .inr (.inl (by simpa using f)))
        |(refine .inr (.inr ?_)
          unfold lm
          simp_all)
   rw[e];exact⟨_,rfl,sZ,ps,rfl,dl.zero _,r,l,m,ae0 _⟩
  refine .kn<|.sr<|.fa rfl<|.cH rfl rfl<|.zs ?_
  refine .dc 7 mixed (by kernel_rfl) ?_
  conv=>arg 6;dsimp only[List.take]
  subst J
  refine .sub (aU.open_ (S:=[bl xb [vr,vn,x,D,.int .i64 B,.int .i64 C] 44,M]) 2 (by simp)) ?_
  show aF _ _ _ _ _ _ _ [_,_,_,_] _
  refine .mo rfl<|.nc rfl<|.fa rfl<|.lo rfl<|.mo rfl<|.q (.bI rfl) ?_
  refine .ba i G v (λa1=>?_)
  refine .nil ?_
  refine .fq i G v ((w,t.mark):GP) (λK Q=>?_) (dl.bD (R:=RD) (p:=(w,t.mark)) E)
  refine .z<|.q (.bI rfl)<|.cc rfl rfl<|.az rfl ?_
  refine .ret (aN _ (.two (.dO rfl rfl) (.tmp rfl)) ((aH [0,0]).trans (aU.bu (H':=[(xb,.cells [vr,vn,x,D,.int .i64 B,.int .i64 C].toArray 44 (0,0))::K]) (by simp[take,aY]))) ?_)
  ·have e:bh A k aC j d now=(t.mark,0,cO k t.mark A):=by
      unfold bh;rw[n];simp only;rw[aeK y,aeK (by rw[s];simp),aeK ?_]
      rintro(e|e|e)
      ·exact(bi c:¬t.cb<=now) e
      ·exact e (by simpa using f)
      ·unfold lm at e
       simp_all
   rw[e]
   refine⟨_,rfl,w,ps.set i (w,t.mark),rfl,E,⟨x,K,rfl,Q,by simpa using X⟩,W▸l.set v rfl,λp hp=>?_,by simp⟩
   rcases List.mem_or_eq_of_mem_set hp with hp|rfl
   ·exact m p hp
   ·exact E
theorem L0(v:Value)(l:List ByteArray)(R:au){RD:au}(a3:∀b o,RD b o->R b o)(O:RS RD 1 bz v l)(s:ByteArray)(hl:l.length<=1000000000):
    Spec prog 167 [v,.string s] R [] λu H'=>∃T',H'=[T']/\RS (λb o=>RD b o\/sg T' b o) 1 bz u (eM l s):=by
  have h:RS R 1 bz v l:=O.mono a3
  have iv:=h.av
  refine Spec.body func167 rfl results167 ntmps167 rfl ?_
  refine .sr<|.ag rfl<|.z<|.ag rfl<|.z<|.ag rfl<|.zs<|.sr<|.az rfl<|.block ?_
  refine .oT [(0,_),(1,_)] (X:=Nat×Value×ax) (λy=>y.1<=l.length/\s∉l.take y.1/\OS 9 1 bz y.2.1 (cQ cq s (l.take y.1)) y.2.2) (λy E=>(7,iN y.1)::(6,.bool ((l.take y.1).any (cq s)))::(5,y.2.1)::E) (λy G=>y.2.2::G) (λy=>l.length-y.1) (0,sZ,[]) ⟨ae4 _,by simp,OS.nil⟩ kE.c.c.c.c.c aU.KX ?_
  rintro⟨i,M,B⟩ ⟨Z,n,g⟩
  simp only at Z n g⊢
  have io:=g.av
  have Y:(cQ cq s (l.take i)).length<=l.length+1:=aeQ lF (by rw[afa];omega)
  refine .seq<|.sr<|.mo rfl<|.mo rfl<|.q (.di h) ?_
  refine .q .lss<|.zn ?_
  refine .cond rfl (λD=>?_) λD=>?_
  have U:i<l.length:=dT D
  obtain⟨x,j⟩:=dR U
  have N:=oM (lt:=cq) (p:=s) j
  refine .kn<|.seq<|.block<|.seq<|.sr<|.mo rfl<|.mo rfl ?_
  refine .ct i h j (λa7=>?_)
  refine .lo rfl<|.mo rfl<|.q .eg<|.zn ?_
  refine .cond rfl (λF=>?_) λF=>?_
  have K:x=s:=bq F
  have a1:eM l s=l:=by unfold eM;rw[aeL (K▸bU j)]
  refine .sr<|.mo rfl<|.az rfl ?_
  refine .ret (aI (bp (aI (dj (bp (aI (aN _ (.one (.tmp rfl)) (aH [0]) ?_)))))))
  ·exact⟨_,rfl,by rw[a1];exact O.mono λb o m=>.inl m⟩
  have K:¬x=s:=bi F
  have a2:s∉l.take (i+1):=by
    rw[ae2,j]
    simp only[afo,List.mem_append,List.mem_singleton,not_or]
    exact⟨n,λe=>K e.symm⟩
  refine .kn<|.seq ?_
  refine bO.lX [(0,_),(1,_),(7,_)] kE.c.c.c (X:=Value×ax) (λz=>OS 9 1 bz z.1 (je cq s (l.take i) x) z.2) (λz E=>(5,z.1)::(6,.bool ((l.take (i+1)).any (cq s)))::E) (λz=>[z.2]) ?_ ?_
  refine .sr<|.mo rfl<|.q .not<|.mo rfl ?_
  refine .split (t:=23) rfl (λa=>?_) (λa=>?_)
  refine .gT a<|.mo rfl<|.gT a<|.mo rfl<|.gT a<|.mo rfl<|.gT a ?_
  refine .ct i h j (λa8=>?_)
  refine .gT a<|.lo rfl<|.gT a<|.q .m2<|.q (.aW a) ?_
  refine .zn ?_
  refine .cond rfl (λw=>?_) λw=>?_
  first|have J:=mE j a w|skip
  refine .sr<|.mo rfl<|.mo rfl ?_
  refine .hZ (λa4=>?_)
  refine .append g (RS.lits (xs:=[s]) rfl (by simp[bz]) (by simp[bz,av])) (by simp only[List.length_singleton];omega) (λL A H=>?_)
  refine .az rfl<|.region<|.ag rfl<|.nil ?_
  ·first
      |(obtain⟨f,d⟩:=J
        exact aA (L,A) (by simp only;rw[f];exact H) (by simp only;rw[d];exact kE.c.c.c.c.c) (aH [1]))
      |(obtain⟨f,d⟩:=r
        exact aA (M,B) (by simp only;rw[f];simpa using g) (by simp only;rw[d];exact kE.c.c.c.c.c) rH)
  first|have r:=ib (p:=s) j (.inr w)|skip
  refine .skip ?_
  ·first
      |(obtain⟨f,d⟩:=J
        exact aA (L,A) (by simp only;rw[f];exact H) (by simp only;rw[d];exact kE.c.c.c.c.c) (aH [1]))
      |(obtain⟨f,d⟩:=r
        exact aA (M,B) (by simp only;rw[f];simpa using g) (by simp only;rw[d];exact kE.c.c.c.c.c) rH)
  have r:=ib (p:=s) j (.inl a)
  refine .gF a<|.gF a<|.gF a<|.gF a<|.gF a<|.gF a<|.q (.aQ a) ?_
  refine .zn<|.bX ?_
  first|have r:=ib (p:=s) j (.inr w)|skip
  refine .skip ?_
  ·first
      |(obtain⟨f,d⟩:=J
        exact aA (L,A) (by simp only;rw[f];exact H) (by simp only;rw[d];exact kE.c.c.c.c.c) (aH [1]))
      |(obtain⟨f,d⟩:=r
        exact aA (M,B) (by simp only;rw[f];simpa using g) (by simp only;rw[d];exact kE.c.c.c.c.c) rH)
  intro y hy
  obtain⟨vm,W⟩:=y
  have Q:OS 9 1 bz vm (je cq s (l.take i) x) W:=hy
  have i6:=Q.av
  simp only
  refine aD<|.region<|.mo rfl<|.mo rfl<|.mo rfl ?_
  refine .ct i h j (λa9=>?_)
  refine .lo rfl ?_
  refine .hZ (λa5=>?_)
  refine .append Q (RS.lits (xs:=[x]) rfl (by simp[bz]) (by simp[bz,av])) (by have:=lF (lt:=cq) (p:=s) (X:=l.take (i+1));rw[<-N,afa]at this;simp at this⊢;omega) (λv7 V S=>?_)
  rw[N]at S
  refine .ag rfl<|.nil<|bw<|aD<|.region<|.mo rfl ?_
  refine .ia (i+1) .add ?_
  refine .ag rfl<|.nil ?_
  ·exact bd (i+1,v7,V) ⟨U,a2,S⟩ (by simp only;omega) kE.c.c.c.c.c (aH [1])
  have a0:i=l.length:=by have:=bi D;omega
  subst a0
  rw[aeN]at n g Y
  rw[aeN]
  refine .exit<|bE<|bH<|bF<|aD<|.seq<|.sr<|.mo rfl<|.q .not<|.zn ?_
  refine .cond rfl (λk=>?_) λk=>?_
  refine .region<|.mo rfl<|.mo rfl ?_
  refine .hZ (λa6=>?_)
  refine .append g (RS.lits (xs:=[s]) rfl (by simp[bz]) (by simp[bz,av])) (by simp only[List.length_singleton];omega) (λv8 T8 T=>?_)
  refine .ag rfl<|.z<|.mo rfl<|.az rfl ?_
  refine .ret (aN _ (.one (.tmp rfl)) (aH [1]) ?_)
  ·refine⟨_,rfl,?_⟩
   have I:eM l s=de cq s l:=by unfold eM;rw[aeK n]
   rw[aeT]at k
   have C:cQ cq s l=l:=by unfold cQ;rw[k];rfl
   rw[C, <-jN k]at T
   rw[I]
   exact T.sg.mono λb o m=>.inr m
  refine .kn<|.sr<|.mo rfl<|.az rfl ?_
  refine .ret (aN _ (.one (.tmp rfl)) (aH [0]) ?_)
  ·refine⟨_,rfl,?_⟩
   have I:eM l s=de cq s l:=by unfold eM;rw[aeK n]
   rw[aeU]at k
   have C:cQ cq s l=de cq s l:=by unfold cQ;rw[k];rfl
   rw[C]at g
   rw[I]
   exact g.sg.mono λb o m=>.inr m
def oh(xb:Nat)(vr vg vv:Value)(ls tm:Int)(ps:List NP)(T:ax):Prop:=∃vt Tt,T=(xb,.cells [vr,vt,vg,vv,.int .i64 ls,.int .i64 tm].toArray 44 (0,0))::Tt/\OS 117 3 eb vt ps Tt/\ps.length<=1000
theorem LP{xb:Nat}{vr vn a b l t:Value}{T:ax}(h:(xb,Obj.cells [vr,vn,a,b,l,t].toArray 44 (0,0))∈T):PS T (cI (pT xb) 1) [vn,a,b,l,t]:=
 ⟨((PS.of (E:=44) (fr:=(0,0)) h).h).add 1⟩
def od(k:cw)(ps:List NP)(z:Int):Prop:=(z= -1/\aS k (ps.map (·.2))=none)\/∃(i:Nat) (w:Value) (l:List ByteArray),z=(i:Int)/\ps[i]? =some (w,(k,l))/\aS k (ps.map (·.2))=some l
theorem od.neg{k:cw}{ps:List NP}{z:Int}(h:od k ps z)(b:z<0):aS k (ps.map (·.2))=none:=by
 rcases h with⟨_,a⟩|⟨i,w,t,a,_⟩
 ·exact a
 ·omega
theorem od.at{C:List (cw×List ByteArray)}{ps:List NP}(d:fW C ps){k:cw}{z:Int}(h:od k ps z)(e:¬z<0):∃(i:Nat) (w:Value) (l:List ByteArray),z=(i:Int)/\ps[i]? =some (w,(k,l))/\aS k C=some l:=by
 rcases h with⟨a,_⟩|⟨i,w,l,a,b,c⟩
 ·omega
 ·exact⟨i,w,l,a,b,d.get k▸c⟩
theorem Ac{C:List (cw×List ByteArray)}{ps:List NP}(j:fW C ps){k:cw}{i:Nat}{w:Value}{l:List ByteArray}(f:ps[i]? =some (w,(k,l))):(ps.filter λp=>decide (p.2.1≠k))=ps.take i++ps.drop (i+1):=by
 have b:=j.nd
 have m:=(afd.1 f).1
 have e:ps=ps.take i++(w,(k,l))::ps.drop (i+1):=by
  have d:=aff i ps
  rw[List.drop_eq_getElem_cons m,(afd.1 f).2]at d
  exact d.symm
 generalize n:ps.take i=X at e⊢
 generalize o:ps.drop (i+1)=Y at e⊢
 rw[e]at b⊢
 rw[List.map_map,List.map_append,List.map_cons,List.nodup_append,List.nodup_cons]at b
 obtain⟨_,⟨g,_⟩,h⟩:=b
 rw[afn,afp]
 simp only[ne_eq,not_true_eq_false,decide_false,aeV,aeW]
 congr 1
 ·refine ae3.2 λp c=>aeS λa=>?_
  exact h _ (aeO.2 ⟨p,c,rfl⟩) _ (List.mem_cons_self) a
 ·refine ae3.2 λp c=>aeS λa=>?_
  exact g (aeO.2 ⟨p,c,a⟩)
theorem xo(xb:Nat)(vg C:Value)(A B:Int)(n:Value)(ps:List NP)(user aC:ByteArray)(R:au){RD:au} [L:PC R (cI (pT xb) 1) [n,vg,C,.int .i64 A,.int .i64 B]](d:RS R 3 eb n ps)(s:∀p∈ps,iB RD p):
  Spec prog 168 [cI (pT xb) 1,.string user,.string aC] R [] λu H'=>(∃z,u=.int .i64 z/\od (user,aC) ps z)/\H'=[]:=by
 have H:=d.av
 have G:=d.le
 refine Spec.body func168 rfl results168 ntmps168 rfl ?_
 refine .sr<|.ag rfl<|.zs<|.sr<|.az rfl<|.block ?_
 refine .loop (X:=Nat) (λi=>i<=ps.length/\aS (user,aC) ((ps.take i).map (·.2))=none) (λi=>[(0,cI (pT xb) 1),(1,.string user),(2,.string aC),(7,iN i)]) (λ_=>[]) (λi=>ps.length-i) 0 ⟨by omega,rfl⟩ kE.c.c.c.c rH ?_
 rintro i ⟨F,b⟩
 refine .seq<|.sr<|.mo rfl<|.mo rfl<|.nc rfl<|.fa rfl<|.lo rfl<|.q (.di d) ?_
 refine .q .lss<|.zn ?_
 refine .cond rfl (λg=>?_) λg=>?_
 have y:i<ps.length:=dT g
 obtain⟨⟨w,k,l⟩,f⟩:=dR y
 have o:=s _ (bU f)
 have I:bG (eb (w,k,l)):=⟨o.bD⟩
 have j:(ps.take (i+1)).map (·.2)=(ps.take i).map (·.2)++[(k,l)]:=by rw[ae2,f];simp
 refine .kn<|.seq<|.block<|.sr<|.mo rfl<|.nc rfl<|.fa rfl<|.lo rfl<|.mo rfl ?_
 refine .ct i d f (λJ=>?_)
 refine .fa rfl<|.lo rfl<|.mo rfl<|.q .eg<|.mo rfl ?_
 refine .split (t:=27) rfl (λa=>?_) (λa=>?_)
 refine .gT a<|.mo rfl<|.gT a<|.nc rfl<|.gT a<|.fa rfl<|.gT a<|.lo rfl<|.gT a<|.mo rfl<|.gT a ?_
 refine .ct i d f (λK=>?_)
 refine .gT a<|.fa rfl<|.gT a<|.lo rfl<|.gT a<|.mo rfl<|.gT a<|.q .eg<|.q (.aW a) ?_
 refine .zn ?_
 refine .cond rfl (λm=>?_) λm=>?_
 refine .sr<|.mo rfl<|.az rfl ?_
 refine .ret (bp (aI (dj (bp (aI (aO rfl ?_))))))
 ·have v:k=(user,aC):=by
   have D:k.1=user:=by simpa using a
   have E:k.2=aC:=bq m
   cases k;simp_all
  subst v
  refine⟨⟨_,rfl,.inr ⟨i,w,l,rfl,f,?_⟩⟩,rfl⟩
  have e:ps=ps.take (i+1)++ps.drop (i+1):=(aff _ _).symm
  have r:ps.map (·.2)=(ps.take (i+1)).map (·.2)++(ps.drop (i+1)).map (·.2):=by
   conv=>lhs;rw[e]
   simp
  rw[r,ll,j,ll,b]
  simp[aS]
 refine .skip<|bw<|aD<|.region<|.mo rfl ?_
 refine .ia (i+1) .add ?_
 refine .ag rfl<|.nil ?_
 ·have h:¬(user,aC)=k:=λe=>by
   subst e
   simp_all
  exact bd (i+1) ⟨by omega,by
   rw[j,ll,b]
   simp only[aS,aeK h];rfl⟩ (by omega) kE.c.c.c.c rH
 refine .gF a<|.gF a<|.gF a<|.gF a<|.gF a<|.gF a<|.gF a<|.gF a<|.gF a<|.gF a<|.q (.aQ a) ?_
 refine .zn<|.bX<|.skip<|bw<|aD<|.region<|.mo rfl ?_
 refine .ia (i+1) .add ?_
 refine .ag rfl<|.nil ?_
 ·have h:¬(user,aC)=k:=λe=>by
   subst e
   simp_all
  exact bd (i+1) ⟨by omega,by
   rw[j,ll,b]
   simp only[aS,aeK h];rfl⟩ (by omega) kE.c.c.c.c rH
 refine .exit<|bE<|bH<|bF<|aD<|.sr<|.az rfl ?_
 refine .ret (aO rfl ?_)
 ·have x:i=ps.length:=by have:=bi g;omega
  rw[x,aeN]at b
  exact⟨⟨_,rfl,.inl ⟨rfl,b⟩⟩,rfl⟩
theorem xp(xb:Nat)(vr vg d:Value)(a b:Int)(ps:List NP)(T:ax)(h:oh xb vr vg d a b ps T)(C:List (cw×List ByteArray))(j:fW C ps)(user aC:ByteArray)(R:au){RD:au}(m:∀p∈ps,iB RD p)(o:∀p∈T,R p.1 p.2):
  Spec prog 105 [cI (pT xb) 1,.string user,.string aC] R [] λu H'=>RS RD 1 bz u (dB C user aC)/\H'=[]:=by
 obtain⟨c,x,rfl,k,y⟩:=h
 have A:=k.av
 have F:PC R (cI (pT xb) 1) [c,vg,d,.int .i64 a,.int .i64 b]:=(PC.of (E:=44) (fr:=(0,0)) (o (xb,.cells [vr,c,vg,d,.int .i64 a,.int .i64 b].toArray 44 (0,0)) (by simp))).add 1
 have r:RS R 3 eb c ps:=k.rs λp t=>o p (by simp[t])
 refine Spec.body func105 rfl results105 ntmps105 rfl ?_
 refine .sr<|.ag rfl<|.z<|.mo rfl<|.mo rfl<|.mo rfl ?_
 refine .aL (xo xb vg d a b c ps user aC _ r.rx m) (λu v=>?_)
 obtain⟨z,rfl,s⟩:=v
 refine .ag rfl<|.zs<|.sr<|.mo rfl<|.q .lss<|.zn ?_
 refine .cond rfl (λe=>?_) λe=>?_
 refine .sr<|.az rfl ?_
 refine .ret (aI (aO rfl ?_))
 ·have f:aS (user,aC) C=none:=by rw[<-j.get];exact s.neg (bq e)
  unfold dB
  rw[f]
  exact⟨RS.nK,rfl⟩
 obtain⟨i,w,l,rfl,n,f⟩:=s.at j (bi e)
 have g:=m _ (bU n)
 have B:bG (eb (w,(user,aC),l)):=⟨g.bD⟩
 refine .kn<|.sr<|.mo rfl<|.nc rfl<|.fa rfl<|.lo rfl<|.mo rfl ?_
 refine .ct i r n (λD=>?_)
 refine .fa rfl<|.lo rfl<|.az rfl ?_
 refine .ret (aO rfl ?_)
 ·unfold dB
  rw[f]
  exact⟨g,rfl⟩
theorem xq(xb:Nat)(vr vg d:Value)(a c:Int)(ps:List NP)(T:ax)(h:oh xb vr vg d a c ps T)(C:List (cw×List ByteArray))(m:fW C ps)(user aC:ByteArray)(R:au){RD:au}(L:∀p∈ps,iB RD p):
  Spec prog 101 [cI (pT xb) 1,.string user,.string aC] R [T] λu H'=>∃T',H'=[T']/\u=.bool (aS (user,aC) C).isSome/\oh xb vr vg d a c (ps.filter λp=>decide (p.2.1≠(user,aC))) T':=by
 have I:=h
 obtain⟨k,e,s,n,O⟩:=h
 have Y:=n.av
 have px:PS T (cI (pT xb) 1) [k,vg,d,.int .i64 a,.int .i64 c]:=LP (vr:=vr) (by rw[s];simp)
 have Q:RS (sg T) 3 eb k ps:=n.rs λp v=>by rw[s];simp[sg,v]
 refine Spec.body func101 rfl results101 ntmps101 rfl ?_
 refine .sr<|.ag rfl<|.z<|.mo rfl<|.mo rfl<|.mo rfl ?_
 refine .aL (xo xb vg d a c k ps user aC _ (Q.mono λb o f=>.inr (by have g:(b,o)∈T:=f;simp[g])) L) (λu S=>?_)
 obtain⟨z,rfl,x⟩:=S
 refine .ag rfl<|.zs<|.sr<|.mo rfl<|.q .lss<|.zn ?_
 refine .cond rfl (λj=>?_) λj=>?_
 have t:aS (user,aC) C=none:=by rw[<-m.get];exact x.neg (bq j)
 have K:(ps.filter λp=>decide (p.2.1≠(user,aC)))=ps:=ae3.2 λp v=>aeS λN=>by
  have J:=x.neg (bq j)
  exact ig.1 J (aeO.2 ⟨p.2,aeO.2 ⟨p,v,rfl⟩,N⟩)
 refine .sr<|.az rfl ?_
 refine .ret (aI (aN _ (.one (.tmp rfl)) rH ?_))
 ·exact⟨_,rfl,by rw[t];rfl,by rw[K];exact I⟩
 obtain⟨i,w,l,rfl,B,t⟩:=x.at m (bi j)
 have X:=(afd.1 B).1
 have M:=Ac m B
 refine .kn<|.sr<|.ag rfl<|.z ?_
 subst s
 have D:=n.sg
 refine .sub (H':=[bl xb [vr,k,vg,d,.int .i64 a,.int .i64 c] 44,e,[]]) (aU.bu (by simp)) ?_
 refine .mo rfl<|.mo rfl<|.nc rfl<|.fa rfl<|.lo rfl<|.mo rfl ?_
 refine .jS (R':=sg e) 0 i D rfl ⟨_,rfl⟩ (by omega) (by omega) (λv2 U=>?_)
 refine .append (OS.nil (E:=117) (sz:=3) (enc:=eb)) (U.mono λb o f=>.inr (by have g:(b,o)∈e:=f;simp[g])) (by simp;omega) (λv3 W A=>?_)
 have Z:=A.av
 refine .ag rfl<|.z<|.mo rfl<|.mo rfl<|.mo rfl<|.nc rfl<|.fa rfl<|.lo rfl<|.mo rfl ?_
 refine .ia (i+1) .add ?_
 refine .jS (R':=sg e) (i+1) ps.length D ⟨_,rfl⟩ rfl (by omega) (by omega) (λv4 V=>?_)
 refine .append A (V.mono λb o f=>.inr (by have g:(b,o)∈e:=f;simp[g])) (by simp;omega) (λF y r=>?_)
 have i5:=r.av
 refine .nc rfl<|.fa rfl<|.cH rfl rfl<|.z<|.az rfl ?_
 refine .ret (aN _ (.one (.tmp rfl)) ((aH [0,1]).trans (aU.bu (H':=[(xb,.cells [vr,F,vg,d,.int .i64 a,.int .i64 c].toArray 44 (0,0))::y]) (by simp[take,aY,bZ]))) ?_)
 ·have G:(ps.drop 0).take (i-0)=ps.take i:=by simp
  have H:(ps.drop (i+1)).take (ps.length-(i+1))=ps.drop (i+1):=afh (by simp)
  rw[G,H,afe, <-M]at r
  exact⟨_,rfl,by rw[t];rfl,F,y,rfl,r,aeQ (aeR _ _) O⟩
theorem rB:∀{b a:List ByteArray},(b.foldl eM a).length<=a.length+b.length
 |[],a=>by simp
 |s::b,a=>by
  have c:=rB (b:=b) (a:=eM a s)
  have d:=Ae (l:=a) (s:=s)
  rw[List.foldl_cons,List.length_cons];omega
theorem KO(p q:NP):ay dw p q=(cq p.2.1.1 q.2.1.1||(decide (p.2.1.1=q.2.1.1)&&cq p.2.1.2 q.2.1.2)):=by
 unfold ay dw
 rw[ae9,afk,Oy]
 simp
theorem rL{a b:ByteArray}{v:Value}(h:av v=true):gp [(0,1),(1,1),(2,1)] [.string ⟨#[]⟩,.string ⟨#[]⟩,sZ] [(0,.string a),(1,.string b),(2,v)]=some [.string a,.string b,v]:=by
 cases v<;>first|rfl|cases h
theorem Md(xb:Nat)(vr vg L:Value)(H J:Int)(ps:List NP)(T:ax)(h:oh xb vr vg L H J ps T)(c0:ps.length<=900)(C:List (cw×List ByteArray))(hB:fW C ps)(user aC:ByteArray)(vs:Value)(I:List ByteArray)(R:au){RD:au}(a7:RS RD 1 bz vs I)(hc:∀p∈ps,iB RD p)(a6:∀b o,RD b o->R b o)(hb:(dB C user aC).length<=1000)(c8:I.length<=1000):
    Spec prog 100 [cI (pT xb) 1,.string user,.string aC,vs] R [T] λu H'=>∃T' Ta,H'=[T',Ta]/\u=.tuple #[]/\∃ps',oh xb vr vg L H J ps' T'/\(if I.foldl eM (dB C user aC)=[]then ps'=ps else fW (cO (user,aC) (I.foldl eM (dB C user aC)) C) ps')/\(∀p∈ps',iB (λb o=>RD b o\/sg Ta b o) p):=by
  have h0:=h
  have c9:=a7.av
  obtain⟨D,S⟩:∃D,D=I.foldl eM (dB C user aC):=⟨_,rfl⟩
  have c6:D.length<=2000:=by rw[S];exact aeQ rB (by omega)
  refine Spec.cX (H':=[T,[]]) (by simp) ?_
  refine Spec.body func100 rfl results100 ntmps100 rfl ?_
  refine .sr<|.mo rfl<|.mo rfl<|.mo rfl ?_
  refine .aL (xp xb vr vg L H J ps T h C hB user aC _ hc (λp hp=>.inr (by simp[hp]))) (λu hu=>?_)
  have iu:=hu.av
  refine .ag rfl<|.zs<|.sr<|.az rfl<|.block ?_
  refine .loop (X:=Nat×Value×ax) (λy=>y.1<=I.length/\RS (λb o=>RD b o\/sg y.2.2 b o) 1 bz y.2.1 ((I.take y.1).foldl eM (dB C user aC))) (λy=>[(0,cI (pT xb) 1),(1,.string user),(2,.string aC),(3,vs),(8,y.2.1),(9,iN y.1)]) (λy=>[T,y.2.2]) (λy=>I.length-y.1) (0,u,[]) ⟨ae4 _,by
    simp only[List.take_zero,List.foldl_nil]
    exact hu.mono λb o hb=>.inl hb⟩ kE.c.c.c.c.c.c rH ?_
  rintro⟨i,F,Ta⟩ ⟨hi,M⟩
  simp only at hi M⊢
  have ia:=M.av
  have b6:((I.take i).foldl eM (dB C user aC)).length<=2000:=aeQ rB (by simp;omega)
  refine .seq<|.sr<|.mo rfl<|.mo rfl<|.q (.di (a7.mono a6)) ?_
  refine .q .lss<|.zn ?_
  refine .cond rfl (λh1=>?_) λh1=>?_
  have b4:i<I.length:=dT h1
  obtain⟨z,hz⟩:=dR b4
  have c2:(I.take (i+1)).foldl eM (dB C user aC)=eM ((I.take i).foldl eM (dB C user aC)) z:=by rw[ae2,hz];simp
  refine .kn<|.seq<|.block<|.region<|.mo rfl<|.mo rfl<|.mo rfl ?_
  refine .ct i (a7.mono a6) hz (λd0=>?_)
  refine .lo rfl ?_
  refine .cW (L0 F _ _ (λb o hb=>by
    rcases hb with hb|hb
    ·exact .inl (a6 b o hb)
    ·exact .inr (by have b7:(b,o)∈Ta:=hb;simp[b7])) M z (by omega)) (λu5 s c3=>?_)
  refine .ag rfl<|.nil<|bw<|aD<|.region<|.mo rfl ?_
  refine .ia (i+1) .add ?_
  refine .ag rfl<|.nil ?_
  ·exact bd (i+1,u5,s++Ta) ⟨b4,by
      simp only
      rw[c2]
      exact c3.mono λb o hb=>by
        rcases hb with(hb|hb)|hb
        ·exact .inl hb
        ·exact .inr (lr hb)
        ·exact .inr (ng hb)⟩ (by simp only;omega) kE.c.c.c.c.c.c ((aH [1,0,0]).trans (aU.bu (by simp[take,aY])))
  have b8:i=I.length:=by have:=bi h1;omega
  subst b8
  rw[aeN, <-S]at M b6
  refine .exit<|bE<|bH<|bF<|aD<|.seq<|.sr<|.mo rfl<|.q (.di M) ?_
  refine .q .bR<|.zn ?_
  refine .cond rfl (λh2=>?_) λh2=>?_
  have a5:D=[]:=by simpa using h2
  refine .ret (aI (aN _ .none (by first|(refine(aH [0,1,1]).trans (aU.bu (H':=[(xb,.cells [vr,W,vg,L,.int .i64 H,.int .i64 J].toArray 44 (0,0))::O,Ta]) ?_);simp[take,aY,bZ]<;>fail)|(refine(aH [1,2,2]).trans (aU.bu (H':=[(xb,.cells [vr,K,vg,L,.int .i64 H,.int .i64 J].toArray 44 (0,0))::s,Ta]) ?_);simp[take,aY,bZ]<;>fail)|exact aU.refl _) ?_))
  ·skip
   first
     |exact⟨T,Ta,rfl,rfl,ps,h0,by rw[<-S,aeL a5],λp hp=>(hc p hp).mono λb o hb=>.inl hb⟩
     |(have B:a.any (ay dw N)=false:=by rw[aeT]at G;exact G
       have Q:cQ (ay dw) N a=a:=by unfold cQ;rw[B];rfl
       rw[Q, <-jN B]at A
       refine⟨_,Ta,rfl,rfl,de (ay dw) N a,⟨K,s,rfl,A,by rw[dS];omega⟩,by rw[<-S,aeK a4,x,Z];exact hB.put F (user,aC) D,λp hp=>?_⟩
       rcases aeM.1 (eO.mem_iff.1 hp)with rfl|hp
       ·rw[x];exact M
       ·exact(a3 p hp).mono λb o hb=>.inl hb)
     |(have B:a.any (ay dw N)=true:=by rw[aeU]at G;exact G
       have Q:cQ (ay dw) N a=de (ay dw) N a:=by unfold cQ;rw[B];rfl
       rw[Q]at n
       refine⟨_,Ta,rfl,rfl,de (ay dw) N a,⟨W,O,rfl,n,by rw[dS];omega⟩,by rw[<-S,aeK a4,x,Z];exact hB.put F (user,aC) D,λp hp=>?_⟩
       rcases aeM.1 (eO.mem_iff.1 hp)with rfl|hp
       ·rw[x];exact M
       ·exact(a3 p hp).mono λb o hb=>.inl hb)
  have a4:D≠[]:=by simpa using h2
  refine .kn<|.sr<|.mo rfl<|.mo rfl<|.mo rfl ?_
  refine .bT (xq xb vr vg L H J ps T h C hB user aC _ hc) (λu T6 hu=>?_)
  obtain⟨rfl,vt,Tt,rfl,hO,hl⟩:=hu
  obtain⟨a,Z⟩:∃a,a=ps.filter λp=>decide (p.2.1≠(user,aC)):=⟨_,rfl⟩
  rw[<-Z]at hO hl
  have c7:a.length<=900:=by rw[Z];exact aeQ (aeR _ _) c0
  have a3:∀p∈a,iB RD p:=λp hp=>by rw[Z]at hp;exact hc p (aeP.1 hp).1
  have it:=hO.av
  obtain⟨N,x⟩:∃N:NP,N=(F,((user,aC),D)):=⟨_,rfl⟩
  have a8:∀u∈eb N,av u=true:=iB.bD (R:=λb o=>RD b o\/sg Ta b o) (p:=N) (by rw[x];exact M)
  have eN:eb N=[.string user,.string aC,F]:=by rw[x];rfl
  have c1:∀(w:Value) (k:cw) (l:List ByteArray),ay dw N (w,(k,l))=(cq user k.1||(decide (user=k.1)&&cq aC k.2)):=λw k l=>by rw[KO,x]
  refine .sub (H':=[bl xb [vr,vt,vg,L,.int .i64 H,.int .i64 J] 44,Tt,[],Ta]) (aU.bu (by simp)) ?_
  refine .z<|.ag rfl<|.z<|.ag rfl<|.zs<|.sr<|.az rfl<|.block ?_
  refine .loop (X:=Nat×Value×ax) (λy=>y.1<=a.length/\OS 117 3 eb y.2.1 (cQ (ay dw) N (a.take y.1)) y.2.2) (λy=>[(0,cI (pT xb) 1),(1,.string user),(2,.string aC),(8,F),(10,y.2.1),(11,.bool ((a.take y.1).any (ay dw N))),(12,iN y.1)]) (λy=>[bl xb [vr,vt,vg,L,.int .i64 H,.int .i64 J] 44,Tt,y.2.2,Ta]) (λy=>a.length-y.1) (0,sZ,[]) ⟨ae4 _,OS.nil⟩ kE.c.c.c.c.c.c.c rH ?_
  rintro⟨k,W,O⟩ ⟨hk,n⟩
  simp only at hk n⊢
  have i4:=n.av
  have b3:=lF (lt:=ay dw) (p:=N) (X:=a.take k)
  rw[afa,afg hk]at b3
  refine .seq<|.sr<|.mo rfl<|.mo rfl<|.nc rfl<|.fa rfl<|.lo rfl<|.q (.ei hO) ?_
  refine .q .lss<|.zn ?_
  refine .cond rfl (λh3=>?_) λh3=>?_
  have b2:k<a.length:=by have h9:=bq h3;omega
  obtain⟨⟨wy,⟨⟨m,Y⟩,yl⟩⟩,E⟩:=dR b2
  have cx:=a3 _ (bU E)
  have ix:bG (eb (wy,((m,Y),yl))):=⟨cx.bD⟩
  have e4:=oM (lt:=ay dw) (p:=N) E
  have U:=c1 wy (m,Y) yl
  simp only at U
  refine .kn<|.seq<|.block<|.sr<|.mo rfl<|.nc rfl<|.fa rfl<|.lo rfl<|.mo rfl ?_
  refine .ba k hO E (λd1=>?_)
  refine .q (.bI rfl) ?_
  refine .cG (λa9=>?_)
  refine .cc rfl rfl<|.zs ?_
  refine bO.cut (X:=Value×ax) (λz=>OS 117 3 eb z.1 (je (ay dw) N (a.take k) (wy,((m,Y),yl))) z.2) (λz=>[(0,cI (pT xb) 1),(1,.string user),(2,.string aC),(8,F),(10,z.1),(11,.bool ((a.take (k+1)).any (ay dw N))),(12,iN k),(13,pT a9)]) (λz=>[[(a9,.cells (eb (wy,((m,Y),yl))).toArray 117 (0,0))],bl xb [vr,vt,vg,L,.int .i64 H,.int .i64 J] 44,Tt,z.2,Ta]) ?_ ?_
  refine .sr<|.mo rfl<|.q .not<|.mo rfl ?_
  refine .split (t:=55) rfl (λe=>?_) (λe=>?_)
  refine .gT e<|.mo rfl<|.gT e<|.fa rfl<|.gT e<|.lo rfl<|.gT e<|.q .m2<|.gT e<|.mo rfl ?_
  refine .split (t:=60) rfl (λd=>?_) (λd=>?_)
  refine .gF d<|.gF d<|.gF d<|.gF d<|.gF d<|.cT rfl ?_
  refine .cT rfl ?_
  refine .cT rfl ?_
  refine .cT rfl ?_
  refine .gF d<|.gT e<|.q (.aW d) ?_
  refine .q (.aW e) ?_
  refine .zn<|.dn ?_
  first
    |have a0:=mE (lt:=ay dw) (p:=N) E e (by rw[U];have f:cq user m=true:=d;simp[f])
    |have a0:=mE (lt:=ay dw) (p:=N) E e (by rw[U];have f:decide (user=m)=true:=r;have v:cq aC Y=true:=h4;rw[f,v];simp)
    |skip
  refine .sr<|.mo rfl<|.mo rfl<|.mo rfl<|.mo rfl ?_
  refine .q (.du (out:=[.string user,.string aC,F]) rfl (rL ia.h)) ?_
  refine .fQ (λb5=>?_)
  refine .append n (RS.lits (xs:=[N]) (by simp[eN]) (by simp[eN]) (by simpa using a8)) (by simp;omega) (λK s A=>?_)
  refine .az rfl<|.region<|.ag rfl<|.nil ?_
  ·first
      |(obtain⟨j,g⟩:=a0
        exact aA (K,s) (by simp only;rw[j];exact A) (by simp only;rw[g];exact kE.c.c.c.c.c.c.c.c) (aH [1,1,1,1,1]))
      |(obtain⟨j,g⟩:=V
        exact aA (W,O) (by simp only;rw[j];simpa using n) (by simp only;rw[g];exact kE.c.c.c.c.c.c.c.c) rH)
  refine .gT d<|.mo rfl<|.gT d<|.fa rfl<|.gT d<|.lo rfl<|.gT d<|.q .eg<|.gT d<|.mo rfl ?_
  refine .split (t:=65) rfl (λr=>?_) (λr=>?_)
  refine .gT r<|.mo rfl<|.gT r<|.fa rfl<|.gT r<|.lo rfl<|.gT r<|.q .m2<|.gT d<|.q (.aW r) ?_
  refine .gT e<|.q (.aQ d) ?_
  refine .q (.aW e) ?_
  refine .zn ?_
  refine .cond rfl (λh4=>?_) λh4=>?_
  first
    |have a0:=mE (lt:=ay dw) (p:=N) E e (by rw[U];have f:cq user m=true:=d;simp[f])
    |have a0:=mE (lt:=ay dw) (p:=N) E e (by rw[U];have f:decide (user=m)=true:=r;have v:cq aC Y=true:=h4;rw[f,v];simp)
    |skip
  refine .sr<|.mo rfl<|.mo rfl<|.mo rfl<|.mo rfl ?_
  refine .q (.du (out:=[.string user,.string aC,F]) rfl (rL ia.h)) ?_
  refine .fQ (λb5=>?_)
  refine .append n (RS.lits (xs:=[N]) (by simp[eN]) (by simp[eN]) (by simpa using a8)) (by simp;omega) (λK s A=>?_)
  refine .az rfl<|.region<|.ag rfl<|.nil ?_
  ·first
      |(obtain⟨j,g⟩:=a0
        exact aA (K,s) (by simp only;rw[j];exact A) (by simp only;rw[g];exact kE.c.c.c.c.c.c.c.c) (aH [1,1,1,1,1]))
      |(obtain⟨j,g⟩:=V
        exact aA (W,O) (by simp only;rw[j];simpa using n) (by simp only;rw[g];exact kE.c.c.c.c.c.c.c.c) rH)
  first
    |have V:=ib (lt:=ay dw) (p:=N) E (.inr (by rw[U];have f:cq user m=false:=d;have v:decide (user=m)=false:=r;rw[f,v];simp))
    |have V:=ib (lt:=ay dw) (p:=N) E (.inr (by rw[U];have f:cq user m=false:=d;have v:cq aC Y=false:=h4;rw[f,v];simp))
    |skip
  refine .skip ?_
  ·first
      |(obtain⟨j,g⟩:=a0
        exact aA (K,s) (by simp only;rw[j];exact A) (by simp only;rw[g];exact kE.c.c.c.c.c.c.c.c) (aH [1,1,1,1,1]))
      |(obtain⟨j,g⟩:=V
        exact aA (W,O) (by simp only;rw[j];simpa using n) (by simp only;rw[g];exact kE.c.c.c.c.c.c.c.c) rH)
  refine .gF r<|.gF r<|.gF r<|.gF r<|.gT d<|.q (.aQ r) ?_
  refine .gT e<|.q (.aQ d) ?_
  refine .q (.aW e) ?_
  refine .zn<|.bX ?_
  first
    |have V:=ib (lt:=ay dw) (p:=N) E (.inr (by rw[U];have f:cq user m=false:=d;have v:decide (user=m)=false:=r;rw[f,v];simp))
    |have V:=ib (lt:=ay dw) (p:=N) E (.inr (by rw[U];have f:cq user m=false:=d;have v:cq aC Y=false:=h4;rw[f,v];simp))
    |skip
  refine .skip ?_
  ·first
      |(obtain⟨j,g⟩:=a0
        exact aA (K,s) (by simp only;rw[j];exact A) (by simp only;rw[g];exact kE.c.c.c.c.c.c.c.c) (aH [1,1,1,1,1]))
      |(obtain⟨j,g⟩:=V
        exact aA (W,O) (by simp only;rw[j];simpa using n) (by simp only;rw[g];exact kE.c.c.c.c.c.c.c.c) rH)
  have V:=ib (lt:=ay dw) (p:=N) E (.inl e)
  refine .gF e<|.gF e<|.gF e<|.gF e<|.gF e<|.cT rfl ?_
  refine .cT rfl ?_
  refine .cT rfl ?_
  refine .cT rfl ?_
  refine .cT rfl ?_
  refine .cT rfl ?_
  refine .cT rfl ?_
  refine .cT rfl ?_
  refine .cT rfl ?_
  refine .cT rfl ?_
  refine .gF e<|.q (.aQ e) ?_
  refine .zn<|.bX ?_
  first
    |have V:=ib (lt:=ay dw) (p:=N) E (.inr (by rw[U];have f:cq user m=false:=d;have v:decide (user=m)=false:=r;rw[f,v];simp))
    |have V:=ib (lt:=ay dw) (p:=N) E (.inr (by rw[U];have f:cq user m=false:=d;have v:cq aC Y=false:=h4;rw[f,v];simp))
    |skip
  refine .skip ?_
  ·first
      |(obtain⟨j,g⟩:=a0
        exact aA (K,s) (by simp only;rw[j];exact A) (by simp only;rw[g];exact kE.c.c.c.c.c.c.c.c) (aH [1,1,1,1,1]))
      |(obtain⟨j,g⟩:=V
        exact aA (W,O) (by simp only;rw[j];simpa using n) (by simp only;rw[g];exact kE.c.c.c.c.c.c.c.c) rH)
  intro y hy
  obtain⟨vm,Tm⟩:=y
  have b0:OS 117 3 eb vm (je (ay dw) N (a.take k) (wy,((m,Y),yl))) Tm:=hy
  have i6:=b0.av
  simp only
  refine aD<|.region<|.mo rfl<|.q (.bI rfl) ?_
  refine .fQ (λc4=>?_)
  refine .append b0 (RS.lits (xs:=[((wy,((m,Y),yl)):NP)]) rfl (by simp[eb]) (by have:=cx.bD;simpa using this)) (by have:=lF (lt:=ay dw) (p:=N) (X:=a.take (k+1));rw[<-e4]at this;simp at this⊢;omega) (λv7 T7 b1=>?_)
  rw[e4]at b1
  refine .ag rfl<|.nil<|bw<|aD<|.region<|.mo rfl ?_
  refine .ia (k+1) .add ?_
  refine .ag rfl<|.nil ?_
  ·exact bd (k+1,v7,T7) ⟨b2,b1⟩ (by simp only;omega) kE.c.c.c.c.c.c.c (aH [2,2,2,2])
  have b9:k=a.length:=by have h9:=bi h3;omega
  subst b9
  rw[aeN]at n b3⊢
  refine .exit<|bE<|bH<|bF<|aD<|.seq<|.sr<|.mo rfl<|.q .not<|.zn ?_
  refine .cond rfl (λG=>?_) λG=>?_
  refine .region<|.mo rfl<|.mo rfl<|.mo rfl<|.mo rfl ?_
  refine .q (.du (out:=[.string user,.string aC,F]) rfl (rL ia.h)) ?_
  refine .fQ (λc5=>?_)
  refine .append n (RS.lits (xs:=[N]) (by simp[eN]) (by simp[eN]) (by simpa using a8)) (by simp;omega) (λK s A=>?_)
  have i5:=A.av
  refine .az rfl<|.region<|.mo rfl<|.mo rfl<|.nc rfl<|.fa rfl<|.cH rfl rfl<|.nil ?_
  refine ed _ .none (by first|(refine(aH [0,1,1]).trans (aU.bu (H':=[(xb,.cells [vr,W,vg,L,.int .i64 H,.int .i64 J].toArray 44 (0,0))::O,Ta]) ?_);simp[take,aY,bZ]<;>fail)|(refine(aH [1,2,2]).trans (aU.bu (H':=[(xb,.cells [vr,K,vg,L,.int .i64 H,.int .i64 J].toArray 44 (0,0))::s,Ta]) ?_);simp[take,aY,bZ]<;>fail)|exact aU.refl _) ?_
  ·skip
   first
     |exact⟨T,Ta,rfl,rfl,ps,h0,by rw[<-S,aeL a5],λp hp=>(hc p hp).mono λb o hb=>.inl hb⟩
     |(have B:a.any (ay dw N)=false:=by rw[aeT]at G;exact G
       have Q:cQ (ay dw) N a=a:=by unfold cQ;rw[B];rfl
       rw[Q, <-jN B]at A
       refine⟨_,Ta,rfl,rfl,de (ay dw) N a,⟨K,s,rfl,A,by rw[dS];omega⟩,by rw[<-S,aeK a4,x,Z];exact hB.put F (user,aC) D,λp hp=>?_⟩
       rcases aeM.1 (eO.mem_iff.1 hp)with rfl|hp
       ·rw[x];exact M
       ·exact(a3 p hp).mono λb o hb=>.inl hb)
     |(have B:a.any (ay dw N)=true:=by rw[aeU]at G;exact G
       have Q:cQ (ay dw) N a=de (ay dw) N a:=by unfold cQ;rw[B];rfl
       rw[Q]at n
       refine⟨_,Ta,rfl,rfl,de (ay dw) N a,⟨W,O,rfl,n,by rw[dS];omega⟩,by rw[<-S,aeK a4,x,Z];exact hB.put F (user,aC) D,λp hp=>?_⟩
       rcases aeM.1 (eO.mem_iff.1 hp)with rfl|hp
       ·rw[x];exact M
       ·exact(a3 p hp).mono λb o hb=>.inl hb)
  refine .kn<|.region<|.mo rfl<|.mo rfl<|.nc rfl<|.fa rfl<|.cH rfl rfl<|.nil ?_
  refine ed _ .none (by first|(refine(aH [0,1,1]).trans (aU.bu (H':=[(xb,.cells [vr,W,vg,L,.int .i64 H,.int .i64 J].toArray 44 (0,0))::O,Ta]) ?_);simp[take,aY,bZ]<;>fail)|(refine(aH [1,2,2]).trans (aU.bu (H':=[(xb,.cells [vr,K,vg,L,.int .i64 H,.int .i64 J].toArray 44 (0,0))::s,Ta]) ?_);simp[take,aY,bZ]<;>fail)|exact aU.refl _) ?_
  ·skip
   first
     |exact⟨T,Ta,rfl,rfl,ps,h0,by rw[<-S,aeL a5],λp hp=>(hc p hp).mono λb o hb=>.inl hb⟩
     |(have B:a.any (ay dw N)=false:=by rw[aeT]at G;exact G
       have Q:cQ (ay dw) N a=a:=by unfold cQ;rw[B];rfl
       rw[Q, <-jN B]at A
       refine⟨_,Ta,rfl,rfl,de (ay dw) N a,⟨K,s,rfl,A,by rw[dS];omega⟩,by rw[<-S,aeK a4,x,Z];exact hB.put F (user,aC) D,λp hp=>?_⟩
       rcases aeM.1 (eO.mem_iff.1 hp)with rfl|hp
       ·rw[x];exact M
       ·exact(a3 p hp).mono λb o hb=>.inl hb)
     |(have B:a.any (ay dw N)=true:=by rw[aeU]at G;exact G
       have Q:cQ (ay dw) N a=de (ay dw) N a:=by unfold cQ;rw[B];rfl
       rw[Q]at n
       refine⟨_,Ta,rfl,rfl,de (ay dw) N a,⟨W,O,rfl,n,by rw[dS];omega⟩,by rw[<-S,aeK a4,x,Z];exact hB.put F (user,aC) D,λp hp=>?_⟩
       rcases aeM.1 (eO.mem_iff.1 hp)with rfl|hp
       ·rw[x];exact M
       ·exact(a3 p hp).mono λb o hb=>.inl hb)
theorem xg(xb:Nat)(vr vn vg H:Value)(E F:Int)(m:List NP)(n:List GP)(D C:ax)(Y:OS 117 3 eb vn m D)(W:OS 121 9 bM vg n C)(b3:m.length<=1000)(b2:n.length<=1000)(aC user:ByteArray)(R:au){RD:au}(a4:∀p∈m,iB RD p)(a3:∀p∈n,dl RD p):
    Spec prog 96 [cI (pT xb) 1,.string aC,.string user] R [bl xb [vr,vn,vg,H,.int .i64 E,.int .i64 F] 44,D,C] λu H'=>∃vn' vg' Tn' Tg',H'=[bl xb [vr,vn',vg',H,.int .i64 E,.int .i64 F] 44,Tn',Tg']/\u=.tuple #[]/\OS 117 3 eb vn' (m.filter λp=> !fz aC user p.2.1) Tn'/\OS 121 9 bM vg' (n.filter λp=> !gh aC user p.2) Tg':=by
  have i1:=Y.av
  have i2:=W.av
  refine Spec.cX (H':=[bl xb [vr,vn,vg,H,.int .i64 E,.int .i64 F] 44,D,C,[]]) (by simp) ?_
  refine Spec.body func96 rfl results96 ntmps96 rfl ?_
  refine .sr<|.ag rfl<|.z<|.ag rfl<|.zs<|.sr<|.az rfl<|.block ?_
  refine .loop (X:=Nat×Value×ax) (λy=>y.1<=m.length/\OS 117 3 eb y.2.1 ((m.take y.1).filter λp=> !fz aC user p.2.1) y.2.2) (λy=>[(0,cI (pT xb) 1),(1,.string aC),(2,.string user),(6,y.2.1),(7,sZ),(8,iN y.1)]) (λy=>[bl xb [vr,vn,vg,H,.int .i64 E,.int .i64 F] 44,D,C,y.2.2]) (λy=>m.length-y.1) (0,sZ,[]) ⟨by omega,OS.nil⟩ kE.c.c.c.c.c.c rH ?_
  rintro⟨i,G,s⟩ ⟨hi,o⟩
  simp only at hi o⊢
  have i4:=o.av
  have a9:((m.take i).filter λp=> !fz aC user p.2.1).length<=i:=aeQ (aeR _ _) (by simp;omega)
  refine .seq<|.sr<|.mo rfl<|.mo rfl<|.nc rfl<|.fa rfl<|.lo rfl<|.q (.ei Y) ?_
  refine .q .lss<|.zn ?_
  refine .cond rfl (λT=>?_) λT=>?_
  have a7:i<m.length:=by have V:=bq T;omega
  obtain⟨⟨w,⟨⟨l,j⟩,S⟩⟩,B⟩:=dR a7
  have v:=a4 _ (bU B)
  have iz:bG (eb (w,((l,j),S))):=⟨v.bD⟩
  have b:(m.take (i+1)).filter (λp=> !fz aC user p.2.1)=(m.take i).filter (λp=> !fz aC user p.2.1)++if !fz aC user (l,j)then [(w,((l,j),S))]else []:=by rw[ae2,B,afn,afo,afp,List.filter_nil]
  refine .kn<|.seq<|.block<|.sr<|.mo rfl<|.nc rfl<|.fa rfl<|.lo rfl<|.mo rfl ?_
  refine .ba i Y B (λb4=>?_)
  refine .q (.bI rfl) ?_
  refine .cG (λb9=>?_)
  refine .cc rfl rfl<|.z<|.fa rfl<|.lo rfl<|.mo rfl<|.q .eU<|.mo rfl ?_
  refine .split (t:=32) rfl (λe=>?_) (λe=>?_)
  refine .gF e<|.gF e<|.gF e<|.cT rfl ?_
  refine .cT rfl ?_
  refine .cT rfl ?_
  refine .cT rfl ?_
  refine .gF e<|.q (.aW e) ?_
  refine .zn<|.dn ?_
  have h:(!fz aC user (l,j))=true:=by
    unfold fz
    first
      |(have a:¬j=aC:=by simpa using e
        simp[a];done)
      |(have a:¬user=⟨#[]⟩:=by simpa using g
        have a2:¬l=user:=by simpa using L
        simp[a,a2])
  simp only[h,aeY]at b
  refine .region<|.mo rfl<|.q (.bI rfl) ?_
  refine .fQ (λZ=>?_)
  refine .append o (RS.lits (xs:=[((w,((l,j),S)):NP)]) rfl (by simp[eb]) (by have:=v.bD;simpa using this)) (by simp;omega) (λN I x=>?_)
  rw[<-b]at x
  refine .ag rfl<|.nil<|bw<|aD<|.region<|.mo rfl ?_
  refine .ia (i+1) .add ?_
  refine .ag rfl<|.nil ?_
  ·first
      |exact bd (i+1,N,I) ⟨by simp only;omega,x⟩ (by simp only;omega) kE.c.c.c.c.c.c (aH [2,2,2,2])
      |exact bd (i+1,G,s) ⟨by simp only;omega,by simp only;rw[b];exact o⟩ (by simp only;omega) kE.c.c.c.c.c.c (aH [1,1,1,1])
  refine .gT e<|.mo rfl<|.gT e<|.q .eU<|.gT e<|.mo rfl ?_
  refine .split (t:=35) rfl (λg=>?_) (λg=>?_)
  refine .gT g<|.fa rfl<|.gT g<|.lo rfl<|.gT g<|.mo rfl<|.gT g<|.q .eU<|.gT e<|.q (.aW g) ?_
  refine .q (.aQ e) ?_
  refine .zn ?_
  refine .cond rfl (λL=>?_) λL=>?_
  have h:(!fz aC user (l,j))=true:=by
    unfold fz
    first
      |(have a:¬j=aC:=by simpa using e
        simp[a];done)
      |(have a:¬user=⟨#[]⟩:=by simpa using g
        have a2:¬l=user:=by simpa using L
        simp[a,a2])
  simp only[h,aeY]at b
  refine .region<|.mo rfl<|.q (.bI rfl) ?_
  refine .fQ (λZ=>?_)
  refine .append o (RS.lits (xs:=[((w,((l,j),S)):NP)]) rfl (by simp[eb]) (by have:=v.bD;simpa using this)) (by simp;omega) (λN I x=>?_)
  rw[<-b]at x
  refine .ag rfl<|.nil<|bw<|aD<|.region<|.mo rfl ?_
  refine .ia (i+1) .add ?_
  refine .ag rfl<|.nil ?_
  ·first
      |exact bd (i+1,N,I) ⟨by simp only;omega,x⟩ (by simp only;omega) kE.c.c.c.c.c.c (aH [2,2,2,2])
      |exact bd (i+1,G,s) ⟨by simp only;omega,by simp only;rw[b];exact o⟩ (by simp only;omega) kE.c.c.c.c.c.c (aH [1,1,1,1])
  have h:(!fz aC user (l,j))=false:=by
    have a:j=aC:=by simpa using e
    have a2:user=⟨#[]⟩\/l=user:=by
      first
        |exact .inl (by simpa using g)
        |exact .inr (by simpa using L)
    unfold fz
    rcases a2 with a2|a2<;>simp[a,a2]
  simp only[h,aeV,aeW,aeZ]at b
  refine .skip<|bw<|aD<|.region<|.mo rfl ?_
  refine .ia (i+1) .add ?_
  refine .ag rfl<|.nil ?_
  ·first
      |exact bd (i+1,N,I) ⟨by simp only;omega,x⟩ (by simp only;omega) kE.c.c.c.c.c.c (aH [2,2,2,2])
      |exact bd (i+1,G,s) ⟨by simp only;omega,by simp only;rw[b];exact o⟩ (by simp only;omega) kE.c.c.c.c.c.c (aH [1,1,1,1])
  refine .gF g<|.gF g<|.gF g<|.gF g<|.gT e<|.q (.aQ g) ?_
  refine .q (.aQ e) ?_
  refine .zn<|.bX ?_
  have h:(!fz aC user (l,j))=false:=by
    have a:j=aC:=by simpa using e
    have a2:user=⟨#[]⟩\/l=user:=by
      first
        |exact .inl (by simpa using g)
        |exact .inr (by simpa using L)
    unfold fz
    rcases a2 with a2|a2<;>simp[a,a2]
  simp only[h,aeV,aeW,aeZ]at b
  refine .skip<|bw<|aD<|.region<|.mo rfl ?_
  refine .ia (i+1) .add ?_
  refine .ag rfl<|.nil ?_
  ·first
      |exact bd (i+1,N,I) ⟨by simp only;omega,x⟩ (by simp only;omega) kE.c.c.c.c.c.c (aH [2,2,2,2])
      |exact bd (i+1,G,s) ⟨by simp only;omega,by simp only;rw[b];exact o⟩ (by simp only;omega) kE.c.c.c.c.c.c (aH [1,1,1,1])
  have a5:i=m.length:=by have V:=bi T;omega
  rw[a5,aeN]at o a9
  refine .exit<|bE<|bH<|bF<|aD<|.seq<|.sr ?_
  refine .sub (H':=[bl xb [vr,vn,vg,H,.int .i64 E,.int .i64 F] 44,D,C,s,[]]) (aU.bu (by simp)) ?_
  refine .az rfl<|.block ?_
  refine .loop (X:=Nat×Value×ax) (λy=>y.1<=n.length/\OS 121 9 bM y.2.1 ((n.take y.1).filter λp=> !gh aC user p.2) y.2.2) (λy=>[(0,cI (pT xb) 1),(1,.string aC),(2,.string user),(6,G),(7,y.2.1),(10,iN y.1)]) (λy=>[bl xb [vr,vn,vg,H,.int .i64 E,.int .i64 F] 44,D,C,s,y.2.2]) (λy=>n.length-y.1) (0,sZ,[]) ⟨by omega,OS.nil⟩ kE.c.c.c.c.c.c rH ?_
  rintro⟨k,Q,K⟩ ⟨hk,r⟩
  simp only at hk r⊢
  have i5:=r.av
  have b0:((n.take k).filter λp=> !gh aC user p.2).length<=k:=aeQ (aeR _ _) (by simp;omega)
  refine .seq<|.sr<|.mo rfl<|.mo rfl<|.nc rfl<|.fa rfl<|.lo rfl<|.q (.ei W) ?_
  refine .q .lss<|.zn ?_
  refine .cond rfl (λU=>?_) λU=>?_
  have a8:k<n.length:=by have V:=bq U;omega
  obtain⟨⟨w,t⟩,B⟩:=dR a8
  have v:=a3 _ (bU B)
  have iz:bG (bM (w,t)):=⟨v.bD⟩
  have b:=u7 (λu:bJ=> !gh aC user u) B
  refine .kn<|.seq<|.block<|.sr<|.mo rfl<|.nc rfl<|.fa rfl<|.lo rfl<|.mo rfl ?_
  refine .ba k W B (λb5=>?_)
  refine .q (.bI rfl) ?_
  refine .cG (λb1=>?_)
  refine .cc rfl rfl<|.z<|.fa rfl<|.lo rfl<|.mo rfl<|.q .eU<|.mo rfl ?_
  refine .split (t:=66) rfl (λd=>?_) (λd=>?_)
  refine .gF d<|.gF d<|.gF d<|.cT rfl ?_
  refine .cT rfl ?_
  refine .cT rfl ?_
  refine .cT rfl ?_
  refine .gF d<|.q (.aW d) ?_
  refine .zn<|.dn ?_
  have h:(!gh aC user t)=true:=by
    unfold gh
    first
      |(have a:¬t.aC=aC:=by simpa using d
        simp[a];done)
      |(have a:¬user=⟨#[]⟩:=by simpa using f
        have a2:¬t.user=user:=by simpa using M
        simp[a,a2])
  simp only[h,aeY]at b
  refine .region<|.mo rfl<|.q (.bI rfl) ?_
  refine .fQ (λa0=>?_)
  refine .append r (RS.lits (xs:=[((w,t):GP)]) rfl (by simp[bM]) (by have:=v.bD;simpa using this)) (by simp;omega) (λO J A=>?_)
  rw[<-b]at A
  refine .ag rfl<|.nil<|bw<|aD<|.region<|.mo rfl ?_
  refine .ia (k+1) .add ?_
  refine .ag rfl<|.nil ?_
  ·first
      |exact bd (k+1,O,J) ⟨by simp only;omega,A⟩ (by simp only;omega) kE.c.c.c.c.c.c (aH [2,2,2,2,2])
      |exact bd (k+1,Q,K) ⟨by simp only;omega,by simp only;rw[b];exact r⟩ (by simp only;omega) kE.c.c.c.c.c.c (aH [1,1,1,1,1])
  refine .gT d<|.mo rfl<|.gT d<|.q .eU<|.gT d<|.mo rfl ?_
  refine .split (t:=69) rfl (λf=>?_) (λf=>?_)
  refine .gT f<|.fa rfl<|.gT f<|.lo rfl<|.gT f<|.mo rfl<|.gT f<|.q .eU<|.gT d<|.q (.aW f) ?_
  refine .q (.aQ d) ?_
  refine .zn ?_
  refine .cond rfl (λM=>?_) λM=>?_
  have h:(!gh aC user t)=true:=by
    unfold gh
    first
      |(have a:¬t.aC=aC:=by simpa using d
        simp[a];done)
      |(have a:¬user=⟨#[]⟩:=by simpa using f
        have a2:¬t.user=user:=by simpa using M
        simp[a,a2])
  simp only[h,aeY]at b
  refine .region<|.mo rfl<|.q (.bI rfl) ?_
  refine .fQ (λa0=>?_)
  refine .append r (RS.lits (xs:=[((w,t):GP)]) rfl (by simp[bM]) (by have:=v.bD;simpa using this)) (by simp;omega) (λO J A=>?_)
  rw[<-b]at A
  refine .ag rfl<|.nil<|bw<|aD<|.region<|.mo rfl ?_
  refine .ia (k+1) .add ?_
  refine .ag rfl<|.nil ?_
  ·first
      |exact bd (k+1,O,J) ⟨by simp only;omega,A⟩ (by simp only;omega) kE.c.c.c.c.c.c (aH [2,2,2,2,2])
      |exact bd (k+1,Q,K) ⟨by simp only;omega,by simp only;rw[b];exact r⟩ (by simp only;omega) kE.c.c.c.c.c.c (aH [1,1,1,1,1])
  have h:(!gh aC user t)=false:=by
    have a:t.aC=aC:=by simpa using d
    have a2:user=⟨#[]⟩\/t.user=user:=by
      first
        |exact .inl (by simpa using f)
        |exact .inr (by simpa using M)
    unfold gh
    rcases a2 with a2|a2<;>simp[a,a2]
  simp only[h,aeV,aeW,aeZ]at b
  refine .skip<|bw<|aD<|.region<|.mo rfl ?_
  refine .ia (k+1) .add ?_
  refine .ag rfl<|.nil ?_
  ·first
      |exact bd (k+1,O,J) ⟨by simp only;omega,A⟩ (by simp only;omega) kE.c.c.c.c.c.c (aH [2,2,2,2,2])
      |exact bd (k+1,Q,K) ⟨by simp only;omega,by simp only;rw[b];exact r⟩ (by simp only;omega) kE.c.c.c.c.c.c (aH [1,1,1,1,1])
  refine .gF f<|.gF f<|.gF f<|.gF f<|.gT d<|.q (.aQ f) ?_
  refine .q (.aQ d) ?_
  refine .zn<|.bX ?_
  have h:(!gh aC user t)=false:=by
    have a:t.aC=aC:=by simpa using d
    have a2:user=⟨#[]⟩\/t.user=user:=by
      first
        |exact .inl (by simpa using f)
        |exact .inr (by simpa using M)
    unfold gh
    rcases a2 with a2|a2<;>simp[a,a2]
  simp only[h,aeV,aeW,aeZ]at b
  refine .skip<|bw<|aD<|.region<|.mo rfl ?_
  refine .ia (k+1) .add ?_
  refine .ag rfl<|.nil ?_
  ·first
      |exact bd (k+1,O,J) ⟨by simp only;omega,A⟩ (by simp only;omega) kE.c.c.c.c.c.c (aH [2,2,2,2,2])
      |exact bd (k+1,Q,K) ⟨by simp only;omega,by simp only;rw[b];exact r⟩ (by simp only;omega) kE.c.c.c.c.c.c (aH [1,1,1,1,1])
  have a6:k=n.length:=by have V:=bi U;omega
  rw[a6,aeN]at r b0
  refine .exit<|bE<|bH<|bF<|aD<|.region<|.mo rfl<|.mo rfl<|.mo rfl<|.mo rfl<|.nc rfl<|.fa rfl<|.cH rfl rfl<|.nc rfl<|.fa rfl<|.cH rfl rfl<|.nil<|ed _ .none (aH [0,2,2]) ?_
  ·exact⟨G,Q,s,K,rfl,rfl,o,r⟩
structure DM(RD:au)(s:cm)(rs:List CP)(ns:List NP)(gs:List GP)(ts:List TP):Prop where
 bc:jY s.cs rs
 bn:fW s.C ns
 bg:eX s.A gs
 bt:eY s.V ts
 cr:CL RD rs
 nr:∀p∈ns,iB RD p
 gr:∀p∈gs,dl RD p
 tr:∀p∈ts,dh RD p
 ri:∀p∈s.C,gO p.2
theorem DM.zero(RD:au):DM RD cm.zero [] [] [] []:=⟨⟨.refl _,List.Pairwise.nil,by simp,by simp[cm.zero]⟩,fW.nil,⟨.refl _,List.Pairwise.nil⟩,⟨.refl _,List.Pairwise.nil⟩,λp a=>(by cases a),λp a=>(by cases a),λp a=>(by cases a),λp a=>(by cases a),λp a=>(by cases a)⟩
section
variable{RD:au}{s:cm}{rs:List CP}{ns:List NP}{gs:List GP}{ts:List TP}
theorem DM.mono(h:DM RD s rs ns gs ts){R':au}(c:∀b o,RD b o->R' b o):DM R' s rs ns gs ts:=⟨h.bc,h.bn,h.bg,h.bt,h.cr.mono c,λp a=>(h.nr p a).mono c,λp a=>(h.gr p a).mono c,λp a=>(h.tr p a).mono c,h.ri⟩
theorem DM.qL(h:DM RD s rs ns gs ts)(now:Int):DM RD {s with now:=now,A:=s.A.filter λx=>decide (now<x.2.cb),V:=s.V.filter λx=>decide (now<x.2.cb)} rs ns (gs.filter λp=>decide (now<p.2.cb)) (ts.filter λp=>decide (now<p.2.cb)):=
 ⟨h.bc,h.bn,h.bg.filter λu=>decide (now<u.cb),h.bt.filter λu=>decide (now<u.cb),h.cr,h.nr,λp a=>h.gr p (aeP.1 a).1,λp a=>h.tr p (aeP.1 a).1,h.ri⟩
theorem DM.yP(h:DM RD s rs ns gs ts){r:CR}{c:bx}(b:eR RD r c):DM RD (nO s c).2 (if(dZ (cM rs) c).1=0 then nj (r,c) rs else rs) ns gs ts:=
 ⟨h.bc.add h.cr b.id,h.bn,h.bg,h.bt,λp a=>by
  split at a
  ·rcases aeM.1 (eO.mem_iff.1 a)with rfl|hm
   ·exact b
   ·exact h.cr p hm
  ·exact h.cr p a,h.nr,h.gr,h.tr,h.ri⟩
theorem DM.uC(h:DM RD s rs ns gs ts)(id:ByteArray):DM RD {s with cs:=iR id s.cs} (lJ id rs) ns gs ts:=
 ⟨h.bc.del id,h.bn,h.bg,h.bt,λp a=>h.cr p (aeP.1 a).1,h.nr,h.gr,h.tr,h.ri⟩
theorem DM.drop(h:DM RD s rs ns gs ts)(id user:ByteArray):DM RD (s.drop id user) rs (ns.filter λp=> !fz id user p.2.1) (gs.filter λp=> !gh id user p.2) (ts.filter λp=> !gw id user p.2):=
 ⟨h.bc,h.bn.filter λk=> !fz id user k,h.bg.filter λu=> !gh id user u,h.bt.filter λu=> !gw id user u,h.cr,λp a=>h.nr p (aeP.1 a).1,λp a=>h.gr p (aeP.1 a).1,λp a=>h.tr p (aeP.1 a).1,λp a=>h.ri p (aeP.1 a).1⟩
theorem DM.Mr(h:DM RD s rs ns gs ts)(user id:ByteArray):gO (dB s.C user id):=by
 unfold dB
 cases e:aS (user,id) s.C with
 |none=>exact List.Pairwise.nil
 |some l=>exact h.ri _ (fG e)
theorem DM.mV(h:DM RD s rs ns gs ts){user id:ByteArray}{e:List ByteArray}{c:List NP}{R':au}(f:∀b o,RD b o->R' b o)(d:fW (cO (user,id) (e.foldl eM (dB s.C user id)) s.C) c)(g:∀p∈c,iB R' p):DM R' {s with C:=cO (user,id) (jk (dB s.C user id) e) s.C} rs c gs ts:=by
 rw[Ad (h.Mr user id)]at d
 have a:=h.mono f
 refine⟨a.bc,d,a.bg,a.bt,a.cr,g,a.gr,a.tr,λp hp=>?_⟩
 rcases List.mem_append.1 hp with hp|hp
 ·exact h.ri p (aeP.1 hp).1
 ·rw[List.mem_singleton]at hp
  subst hp
  exact xC _ _
theorem DM.rA(h:DM RD s rs ns gs ts)(user id:ByteArray):DM RD {s with C:=dK (user,id) s.C} rs (ns.filter λp=>decide (p.2.1≠(user,id))) gs ts:=
 ⟨h.bc,h.bn.filter λk=>decide (k≠(user,id)),h.bg,h.bt,h.cr,λp a=>h.nr p (aeP.1 a).1,h.gr,h.tr,λp a=>h.ri p (aeP.1 a).1⟩
theorem DM.gP(h:DM RD s rs ns gs ts){d:List (ByteArray×bJ)}{c:List GP}{last:Int}{R':au}(e:∀b o,RD b o->R' b o)(f:eX d c)(g:∀p∈c,dl R' p):DM R' {s with A:=d,last:=last} rs ns c ts:=
 let a:=h.mono e
 ⟨a.bc,a.bn,f,a.bt,a.cr,a.nr,g,a.tr,a.ri⟩
theorem DM.dr(h:DM RD s rs ns gs ts){d:List (ByteArray×Tok)}{c:List TP}{R':au}(e:∀b o,RD b o->R' b o)(f:eY d c)(g:∀p∈c,dh R' p):DM R' {s with V:=d} rs ns gs c:=
 let a:=h.mono e
 ⟨a.bc,a.bn,a.bg,f,a.cr,a.nr,a.gr,g,a.ri⟩
end
abbrev Aa(xb:Nat)(vr vn vg vv:Value)(ls tm:Int):ax:=(bl xb [vr,vn,vg,vv,.int .i64 ls,.int .i64 tm] 44)
def DS(RD:au)(xb:Nat)(s:cm)(H:aV):Prop:=∃vr vn vg vv Tr Tn Tg Tv rs ns gs ts,H=[Aa xb vr vn vg vv s.last s.now,Tr,Tn,Tg,Tv]/\OS 25 4 dX vr rs Tr/\OS 117 3 eb vn ns Tn/\OS 121 9 bM vg gs Tg/\OS 58 9 bA vv ts Tv/\DM RD s rs ns gs ts
theorem Spec.two{P:Program}{f:FuncId}{a:List Value}{R:au}{A B:ax}{Q:Value->aV->Prop}(h:Spec P f a R [A++B] Q):Spec P f a R [A,B] Q:=Spec.cX (H':=[A++B]) (by simp) h
theorem MY{A:List (ByteArray×bJ)}{a ps:List GP}(b:eX A a)(d:(nz (eJ ps)).Perm A)(e:ps.Pairwise λp q=>cq q.2.text p.2.text=false):eJ ps=eJ a:=by
 refine tH (λt:bJ=>t.text) b.ga ?_ (by rw[eJ,ae1];exact e)
 have c:=(d.trans b.pm.symm).map (·.2)
 simpa[nz,fo,Function.comp_def]using c
theorem M0{A:List (ByteArray×Tok)}{b ps:List TP}(a:eY A b)(d:(kv (dr ps)).Perm A)(e:ps.Pairwise λp q=>cq q.2.text p.2.text=false):dr ps=dr b:=by
 refine tH (λt:Tok=>t.text) a.ga ?_ (by rw[dr,ae1];exact e)
 have c:=(d.trans a.pm.symm).map (·.2)
 simpa[kv,Function.comp_def]using c
theorem MZ{C:List (cw×List ByteArray)}{f ps:List NP}(g:fW C f)(o:(ps.map (·.2)).Perm C)(r:ps.Pairwise λp q=>ay dw q p=false):ps.map (·.2)=f.map (·.2):=by
 have m:=o.trans g.pm.symm
 have d:(f.map (·.2)).Pairwise λa b=>mQ a.1 b.1<0:=by
  rw[ae1]
  exact g.ga.imp λ{a b} c=>by unfold ay dw at c;exact bq c
 refine List.Perm.eq_of_pairwise (le:=λa b:cw×List ByteArray=>¬mQ b.1 a.1<0) (λa b e n s t=>?_) ?_ (d.imp λ{a b} c=>by have:=mR.sw a.1 b.1;omega) m
 ·have h:a.1=b.1:=yw.1 (by have:=mR.sw a.1 b.1;have:=mR.sw b.1 a.1;omega)
  have e:=m.mem_iff.1 e
  obtain⟨i,k,rfl⟩:=List.mem_iff_getElem.1 e
  obtain⟨j,l,rfl⟩:=List.mem_iff_getElem.1 n
  rw[List.pairwise_iff_getElem]at d
  rcases Nat.lt_trichotomy i j with hij|hij|hij
  ·have:=d i j k l hij
   rw[h,mR.refl]at this;omega
  ·subst hij;rfl
  ·have:=d j i l k hij
   rw[h,mR.refl]at this;omega
 ·rw[ae1]
  exact r.imp λ{a b} c=>by unfold ay dw at c;exact bi c
section
variable{RD R:au}{xb k:Nat}{s:cm}{H:aV}
structure yD(rs:List CP)(ns:List NP)(gs:List GP)(ts:List TP):Prop where
 r:rs.length<=64
 n:ns.length<=60
 g:gs.length<=60
 t:ts.length<=180
theorem DM.len{rs:List CP}{c:List NP}{b:List GP}{d:List TP}(h:DM RD s rs c b d)(a:OB s k)(j:k<=60):yD rs c b d:=by
 have f:=h.bn.len
 have g:=h.bg.len
 have i:=h.bt.len
 have e:=h.bc.pm.length_eq
 have:=a.A;have:=a.V;have:=a.C;have:=a.cs
 simp only[cM,List.length_map]at e
 exact⟨by omega,by omega,by omega,by omega⟩
theorem DM.find{rs:List CP}{d:List NP}{a:List GP}{f:List TP}(h:DM RD s rs d a f){id:ByteArray}{z:Int}(b:pV id (cM rs) z):(cu id s.cs).isSome=decide (¬z<0):=by
 rw[h.bc.get]
 rcases b with⟨rfl,e⟩|⟨i,c,rfl,_,_,e⟩
 ·rw[e];decide
 ·rw[e]
  have:¬((i:Nat):Int)<0:=by omega
  simp[this]
theorem tY{rs:List CP}{c:List NP}{b:List GP}{d:List TP}(h:DM RD s rs c b d)(id a:ByteArray):jw id a s.cs=if(cu id (cM rs)).map (·.cy)=some a then 0 else 17:=by
 unfold jw
 rw[h.bc.get]
theorem z3{rs:List CP}{c:List NP}{b:List GP}{d:List TP}(h:DM RD s rs c b d)(id a:ByteArray):kj id a s.cs=kj id a (cM rs):=by
 unfold kj
 rw[h.bc.get]
theorem tW{rs:List CP}{b:List NP}{a:List GP}{c:List TP}(h:DM RD s rs b a c)(id:ByteArray)(l:List ByteArray):eG id l s.cs=eG id l (cM rs):=by
 unfold eG
 rw[h.bc.get]
theorem Mi(h:DS RD xb s H)(K:OB s k)(T:k<=60)(n:Int)(R:au):
    Spec prog 30 [pT xb,.int .i64 n] R H λu H'=>u=.int .i64 (eQ s n).1/\DS RD xb (eQ s n).2 H':=by
  have l:=h
  obtain⟨d,c,Q,v,g,f,M,y,J,I,S,U,rfl,D,C,N,O,m⟩:=h
  obtain⟨l1,l2,l3,l4⟩:=m.len K T
  have a0:=K.n0
  have a1:=K.n1
  have i1:=D.av
  have i2:=C.av
  have i3:=N.av
  have i4:=O.av
  refine Spec.body func30 rfl results30 ntmps30 rfl ?_
  refine .sr<|.ag rfl<|.zs<|.sr<|.mo rfl<|.q .lss<|.mo rfl ?_
  refine .split (t:=7) rfl (λb=>?_) (λb=>?_)
  refine .gF b<|.gF b<|.q (.aW b) ?_
  refine .zn<|.dn<|.sr<|.az rfl ?_
  refine .ret (aI (aN _ (.one (.tmp rfl)) rH ?_))
  ·first
      |(have e:eQ s n=(2,s):=by
           have a:ej n s.now=2:=by
             unfold ej
             rw[aeL (by first|exact .inl (by simpa using b)|exact .inr (by simpa using p))]
           unfold eQ;rw[a];rfl
        rw[e]
        exact⟨rfl,l⟩)
      |(have e:eQ s n=(8,s):=by
           have a:ej n s.now=8:=by unfold ej;rw[aeK (by omega),aeL (by have F:=bq r;omega)]
           unfold eQ;rw[a];rfl
        rw[e]
        exact⟨rfl,l⟩)
      |(have e:eQ s n=(0,{s with now:=s.now+n,A:=s.A.filter λx=>decide (s.now+n<x.2.cb),V:=s.V.filter λx=>decide (s.now+n<x.2.cb)}):=by
           have a:ej n s.now=0:=by unfold ej;rw[aeK (by omega),aeK G]
           unfold eQ;rw[a];rfl
        rw[e]
        exact⟨rfl,d,c,i,w,g,f,j,o,J,I,_,_,rfl,D,C,B,E,m.qL (s.now+n)⟩)
  refine .gT b<|.mo rfl<|.gT b<|.q .gtr<|.q (.aQ b) ?_
  refine .zn ?_
  refine .cond rfl (λp=>?_) λp=>?_
  refine .sr<|.az rfl ?_
  refine .ret (aI (aN _ (.one (.tmp rfl)) rH ?_))
  ·first
      |(have e:eQ s n=(2,s):=by
           have a:ej n s.now=2:=by
             unfold ej
             rw[aeL (by first|exact .inl (by simpa using b)|exact .inr (by simpa using p))]
           unfold eQ;rw[a];rfl
        rw[e]
        exact⟨rfl,l⟩)
      |(have e:eQ s n=(8,s):=by
           have a:ej n s.now=8:=by unfold ej;rw[aeK (by omega),aeL (by have F:=bq r;omega)]
           unfold eQ;rw[a];rfl
        rw[e]
        exact⟨rfl,l⟩)
      |(have e:eQ s n=(0,{s with now:=s.now+n,A:=s.A.filter λx=>decide (s.now+n<x.2.cb),V:=s.V.filter λx=>decide (s.now+n<x.2.cb)}):=by
           have a:ej n s.now=0:=by unfold ej;rw[aeK (by omega),aeK G]
           unfold eQ;rw[a];rfl
        rw[e]
        exact⟨rfl,d,c,i,w,g,f,j,o,J,I,_,_,rfl,D,C,B,E,m.qL (s.now+n)⟩)
  have Y:0<=n/\n<=1073741824:=by simp at b p;omega
  refine .kn<|.seq<|.sr<|.mo rfl<|.mo rfl<|.nc rfl<|.fa rfl<|.lo rfl ?_
  refine .q (.i64 (1125899906842624-s.now) .sub ⟨by omega,by omega,by omega⟩) ?_
  refine .q .gtr<|.zn ?_
  refine .cond rfl (λr=>?_) λr=>?_
  refine .sr<|.az rfl ?_
  refine .ret (aI (aN _ (.one (.tmp rfl)) rH ?_))
  ·first
      |(have e:eQ s n=(2,s):=by
           have a:ej n s.now=2:=by
             unfold ej
             rw[aeL (by first|exact .inl (by simpa using b)|exact .inr (by simpa using p))]
           unfold eQ;rw[a];rfl
        rw[e]
        exact⟨rfl,l⟩)
      |(have e:eQ s n=(8,s):=by
           have a:ej n s.now=8:=by unfold ej;rw[aeK (by omega),aeL (by have F:=bq r;omega)]
           unfold eQ;rw[a];rfl
        rw[e]
        exact⟨rfl,l⟩)
      |(have e:eQ s n=(0,{s with now:=s.now+n,A:=s.A.filter λx=>decide (s.now+n<x.2.cb),V:=s.V.filter λx=>decide (s.now+n<x.2.cb)}):=by
           have a:ej n s.now=0:=by unfold ej;rw[aeK (by omega),aeK G]
           unfold eQ;rw[a];rfl
        rw[e]
        exact⟨rfl,d,c,i,w,g,f,j,o,J,I,_,_,rfl,D,C,B,E,m.qL (s.now+n)⟩)
  have G:¬s.now>1125899906842624-n:=by have F:=bi r;omega
  refine .kn<|.sr<|.mo rfl<|.mo rfl<|.nc rfl<|.fa rfl<|.lo rfl<|.mo rfl ?_
  refine .q (.i64 (s.now+n) .add ⟨by omega,by omega,by omega⟩) ?_
  refine .nc rfl<|.fa rfl<|.cH rfl rfl<|.zs ?_
  refine .dc 7 mixed (by kernel_rfl) ?_
  conv=>arg 6;dsimp only[List.take]
  refine .mo rfl<|.nc rfl<|.fa rfl<|.mo rfl<|.nc rfl<|.fa rfl<|.lo rfl<|.nil ?_
  refine .sub (H':=[(xb,.cells [d,c,Q,v,.int .i64 s.last,.int .i64 (s.now+n)].toArray 44 (0,0))::M,g,f,y]) ((aH [0,2,0,0,0]).trans (aU.bu (by simp[take,aY,bZ]))) ?_
  refine .bT (L9 xb d c v s.last (s.now+n) S _ ⟨Q,M,rfl,N,by omega⟩ (s.now+n) R m.gr) (λu W L=>?_)
  obtain⟨rfl,i,j,rfl,B,Z⟩:=L
  have i6:=B.av
  refine .sub (H':=[bl xb [d,c,i,v,.int .i64 s.last,.int .i64 (s.now+n)] 44,g,f,j,y]) ((aU.bu (H':=[bl xb [d,c,i,v,.int .i64 s.last,.int .i64 (s.now+n)] 44,j,g,f,y]) (by simp)).trans (aH [0,1,1,0,0])) ?_
  refine .zs ?_
  refine .dc 7 mixed (by kernel_rfl) ?_
  conv=>arg 6;dsimp only[List.take]
  refine .mo rfl<|.nc rfl<|.fa rfl<|.mo rfl<|.nc rfl<|.fa rfl<|.lo rfl<|.nil ?_
  refine .sub (H':=[(xb,.cells [d,c,i,v,.int .i64 s.last,.int .i64 (s.now+n)].toArray 44 (0,0))::y,g,f,j]) ((aH [0,3,0,0,0]).trans (aU.bu (by simp[take,aY]))) ?_
  refine .bT (Mk xb d c i (s.now+n) U s.last _ ⟨v,y,rfl,O,by omega⟩ (s.now+n) R m.tr) (λu X L=>?_)
  obtain⟨rfl,w,o,rfl,E,a2⟩:=L
  have i7:=E.av
  refine .sub (H':=[bl xb [d,c,i,w,.int .i64 s.last,.int .i64 (s.now+n)] 44,g,f,j,o]) ((aU.bu (H':=[bl xb [d,c,i,w,.int .i64 s.last,.int .i64 (s.now+n)] 44,o,g,f,j]) (by simp)).trans (aH [0,1,1,1,0])) ?_
  refine .z<|.az rfl ?_
  refine .ret (aN _ (.one (.tmp rfl)) rH ?_)
  ·first
      |(have e:eQ s n=(2,s):=by
           have a:ej n s.now=2:=by
             unfold ej
             rw[aeL (by first|exact .inl (by simpa using b)|exact .inr (by simpa using p))]
           unfold eQ;rw[a];rfl
        rw[e]
        exact⟨rfl,l⟩)
      |(have e:eQ s n=(8,s):=by
           have a:ej n s.now=8:=by unfold ej;rw[aeK (by omega),aeL (by have F:=bq r;omega)]
           unfold eQ;rw[a];rfl
        rw[e]
        exact⟨rfl,l⟩)
      |(have e:eQ s n=(0,{s with now:=s.now+n,A:=s.A.filter λx=>decide (s.now+n<x.2.cb),V:=s.V.filter λx=>decide (s.now+n<x.2.cb)}):=by
           have a:ej n s.now=0:=by unfold ej;rw[aeK (by omega),aeK G]
           unfold eQ;rw[a];rfl
        rw[e]
        exact⟨rfl,d,c,i,w,g,f,j,o,J,I,_,_,rfl,D,C,B,E,m.qL (s.now+n)⟩)
theorem Mg(h:DS RD xb s H)(Y:OB s k)(Z:k<=60)(id:ByteArray)(R:au)(a0:∀b o,RD b o->R b o):
    Spec prog 32 [pT xb,.string id] R H λu H'=>u=.int .i64 (gJ s id).1/\DS RD xb (gJ s id).2 H':=by
  have h0:=h
  obtain⟨X,w,v,i,V,y,x,j,g,T,K,U,rfl,W,F,E,G,a⟩:=h
  obtain⟨l1,l2,l3,l4⟩:=a.len Y Z
  have i1:=W.av
  have i2:=F.av
  have i3:=E.av
  have i4:=G.av
  have N:=a.bc.get id
  refine Spec.body func32 rfl results32 ntmps32 rfl ?_
  refine .sr<|.ag rfl<|.z<|.mo rfl<|.nc rfl<|.fa rfl<|.mo rfl ?_
  refine .sub (H':=[(xb,.cells [X,w,v,i,.int .i64 s.last,.int .i64 s.now].toArray 44 (0,0))::V,y,x,j]) (aU.bu (by simp)) ?_
  refine .bT (LY xb w v i s.last s.now g _ ⟨X,V,rfl,W,l1⟩ id R (a.cr.mono a0) a.bc.nd) (λu T1 C=>?_)
  obtain⟨rfl,d,f,rfl,l,a1⟩:=C
  have i6:=l.av
  rw[<-N]
  refine .sub (H':=[bl xb [d,w,v,i,.int .i64 s.last,.int .i64 s.now] 44,f,y,x,j]) (aU.bu (by simp)) ?_
  refine .ag rfl<|.zs<|.sr<|.mo rfl<|.q .bR<|.zn ?_
  refine .cond rfl (λA=>?_) λA=>?_
  have c:(cu id s.cs).isSome=true:=by
    cases e:(cu id s.cs).isSome with
    |true=>rfl
    |false=>rw[e]at A;simp at A
  refine .sr<|.mo rfl<|.nc rfl<|.fa rfl<|.mo rfl ?_
  refine .call [0,1,1] (xg xb d w v i s.last s.now T K y x F E (by omega) (by omega) id ⟨#[]⟩ _ a.nr a.gr) (λu H' C=>?_)
  obtain⟨n,m,t,r,rfl,rfl,O,M⟩:=C
  have i7:=O.av
  have i8:=M.av
  conv=>arg 8;simp only[rest,aY,afq,afe]
  refine .sub (H':=[bl xb [d,n,m,i,.int .i64 s.last,.int .i64 s.now] 44,f,t,r,j]) (aH [0,2,0,0,0]) ?_
  refine .zn<|.region<|.mo rfl<|.nc rfl<|.fa rfl<|.mo rfl ?_
  refine .sub (H':=[(xb,.cells [d,n,m,i,.int .i64 s.last,.int .i64 s.now].toArray 44 (0,0))::j,f,t,r]) ((aH [0,3,0,0,0]).trans (aU.bu (by simp[take,aY]))) ?_
  refine .bT (xv xb d n m s.now U s.last _ ⟨i,j,rfl,G,by omega⟩ id ⟨#[]⟩ R a.tr) (λu T4 C=>?_)
  obtain⟨rfl,I,D,rfl,S,a2⟩:=C
  have i9:=S.av
  refine .sub (H':=[bl xb [d,n,m,I,.int .i64 s.last,.int .i64 s.now] 44,f,t,r,D]) ((aU.bu (H':=[bl xb [d,n,m,I,.int .i64 s.last,.int .i64 s.now] 44,D,f,t,r]) (by simp)).trans (aH [0,1,1,1,0])) ?_
  refine .z<|.mo rfl<|.az rfl ?_
  refine .ret (aN _ (.one (.tmp rfl)) rH ?_)
  ·first
      |(have e:gJ s id=(0,({s with cs:=iR id s.cs}:cm).drop id e0):=by unfold gJ;rw[c];rfl
        rw[e]
        exact⟨by rw[c];rfl,d,n,m,I,f,t,r,D,_,_,_,_,rfl,l,O,M,S,(a.uC id).drop id e0⟩)
      |(have e:gJ s id=(11,s):=by unfold gJ;rw[c];rfl
        rw[e]
        have J:lJ id g=g:=ae3.2 λp Q=>aeS λL=>by
          have B:cu id (cM g)=none:=by rw[<-N];exact afi.1 c|>afj.1
          unfold cu at B
          exact absurd L (by simpa using afm.1 B p.2 (aeO.2 ⟨p,Q,rfl⟩))
        rw[J]at l
        exact⟨by rw[c];rfl,d,w,v,i,f,y,x,j,g,T,K,U,rfl,l,F,E,G,a⟩)
  have c:(cu id s.cs).isSome=false:=by
    cases e:(cu id s.cs).isSome with
    |false=>rfl
    |true=>rw[e]at A;simp at A
  refine .kn<|.sr<|.mo rfl<|.az rfl ?_
  refine .ret (aN _ (.one (.tmp rfl)) rH ?_)
  ·first
      |(have e:gJ s id=(0,({s with cs:=iR id s.cs}:cm).drop id e0):=by unfold gJ;rw[c];rfl
        rw[e]
        exact⟨by rw[c];rfl,d,n,m,I,f,t,r,D,_,_,_,_,rfl,l,O,M,S,(a.uC id).drop id e0⟩)
      |(have e:gJ s id=(11,s):=by unfold gJ;rw[c];rfl
        rw[e]
        have J:lJ id g=g:=ae3.2 λp Q=>aeS λL=>by
          have B:cu id (cM g)=none:=by rw[<-N];exact afi.1 c|>afj.1
          unfold cu at B
          exact absurd L (by simpa using afm.1 B p.2 (aeO.2 ⟨p,Q,rfl⟩))
        rw[J]at l
        exact⟨by rw[c];rfl,d,w,v,i,f,y,x,j,g,T,K,U,rfl,l,F,E,G,a⟩)
theorem Ml(h:DS RD xb s H)(W:OB s k)(X:k<=60)(user id:ByteArray)(R:au):
    Spec prog 34 [pT xb,.string user,.string id] R H λu H'=>u=.int .i64 (gL s user id).1/\DS RD xb (gL s user id).2 H':=by
  have h0:=h
  obtain⟨a,V,j,f,c,S,n,g,U,d,G,Q,rfl,w,T,B,D,b⟩:=h
  obtain⟨l1,Y,l3,l4⟩:=b.len W X
  have i1:=w.av
  have i2:=T.av
  have i3:=B.av
  have i4:=D.av
  have a0:(d.filter λp=>decide (p.2.1≠(user,id))).length<=60:=aeQ (aeR _ _) Y
  refine Spec.body func34 rfl results34 ntmps34 rfl ?_
  refine .sr<|.ag rfl<|.zs<|.sr<|.mo rfl<|.nc rfl<|.fa rfl<|.mo rfl<|.mo rfl ?_
  refine .sub (H':=[(xb,.cells [a,V,j,f,.int .i64 s.last,.int .i64 s.now].toArray 44 (0,0))::S,c,n,g]) ((aH [0,1,0,0,0]).trans (aU.bu (by simp[take,aY]))) ?_
  refine .bT (xq xb a j f s.last s.now d _ ⟨V,S,rfl,T,by omega⟩ s.C b.bn user id R b.nr) (λu Z x=>?_)
  obtain⟨rfl,y,v,rfl,t,a1⟩:=x
  have i6:=t.av
  refine .sub (H':=[bl xb [a,y,j,f,.int .i64 s.last,.int .i64 s.now] 44,c,v,n,g]) ((aU.bu (H':=[bl xb [a,y,j,f,.int .i64 s.last,.int .i64 s.now] 44,v,c,n,g]) (by simp)).trans (aH [0,1,0,0,0])) ?_
  refine .q .not<|.zn ?_
  refine .cond rfl (λI=>?_) λI=>?_
  have i:(aS (user,id) s.C).isSome=false:=by simpa using I
  refine .sr<|.az rfl ?_
  refine .ret (aI (aN _ (.one (.tmp rfl)) rH ?_))
  ·first
      |(have e:gL s user id=(11,s):=by unfold gL;rw[i];rfl
        rw[e]
        have F:(d.filter λp=>decide (p.2.1≠(user,id)))=d:=ae3.2 λp N=>aeS λK=>by
          have J:aS (user,id) (d.map (·.2))=none:=by rw[b.bn.get];exact afi.1 i|>afj.1
          exact ig.1 J (aeO.2 ⟨p.2,aeO.2 ⟨p,N,rfl⟩,K⟩)
        rw[F]at t
        exact⟨rfl,a,y,j,f,c,v,n,g,U,d,G,Q,rfl,w,t,B,D,b⟩)
      |(have e:gL s user id=(0,({s with C:=dK (user,id) s.C}:cm).drop id user):=by unfold gL;rw[i];rfl
        rw[e]
        exact⟨rfl,a,m,l,E,c,r,o,A,_,_,_,_,rfl,w,M,L,O,(b.rA user id).drop id user⟩)
  have i:(aS (user,id) s.C).isSome=true:=by simpa using I
  refine .kn<|.sr<|.mo rfl<|.nc rfl<|.fa rfl<|.mo rfl<|.mo rfl ?_
  refine .call [0,1,1] (xg xb a y j f s.last s.now _ G v n t B (by omega) (by omega) id user _ (b.rA user id).nr b.gr) (λu H' x=>?_)
  obtain⟨m,l,r,o,rfl,rfl,M,L⟩:=x
  have i7:=M.av
  have i8:=L.av
  conv=>arg 8;simp only[rest,aY,afq,afe]
  refine .sub (H':=[bl xb [a,m,l,f,.int .i64 s.last,.int .i64 s.now] 44,c,r,o,g]) (aH [0,2,0,0,0]) ?_
  refine .z<|.mo rfl<|.nc rfl<|.fa rfl<|.mo rfl<|.mo rfl ?_
  refine .sub (H':=[(xb,.cells [a,m,l,f,.int .i64 s.last,.int .i64 s.now].toArray 44 (0,0))::g,c,r,o]) ((aH [0,3,0,0,0]).trans (aU.bu (by simp[take,aY]))) ?_
  refine .bT (xv xb a m l s.now Q s.last _ ⟨f,g,rfl,D,by omega⟩ id user R b.tr) (λu T4 x=>?_)
  obtain⟨rfl,E,A,rfl,O,a2⟩:=x
  have i9:=O.av
  refine .sub (H':=[bl xb [a,m,l,E,.int .i64 s.last,.int .i64 s.now] 44,c,r,o,A]) ((aU.bu (H':=[bl xb [a,m,l,E,.int .i64 s.last,.int .i64 s.now] 44,A,c,r,o]) (by simp)).trans (aH [0,1,1,1,0])) ?_
  refine .z<|.az rfl ?_
  refine .ret (aN _ (.one (.tmp rfl)) rH ?_)
  ·first
      |(have e:gL s user id=(11,s):=by unfold gL;rw[i];rfl
        rw[e]
        have F:(d.filter λp=>decide (p.2.1≠(user,id)))=d:=ae3.2 λp N=>aeS λK=>by
          have J:aS (user,id) (d.map (·.2))=none:=by rw[b.bn.get];exact afi.1 i|>afj.1
          exact ig.1 J (aeO.2 ⟨p.2,aeO.2 ⟨p,N,rfl⟩,K⟩)
        rw[F]at t
        exact⟨rfl,a,y,j,f,c,v,n,g,U,d,G,Q,rfl,w,t,B,D,b⟩)
      |(have e:gL s user id=(0,({s with C:=dK (user,id) s.C}:cm).drop id user):=by unfold gL;rw[i];rfl
        rw[e]
        exact⟨rfl,a,m,l,E,c,r,o,A,_,_,_,_,rfl,w,M,L,O,(b.rA user id).drop id user⟩)
end
section
variable{RD R:au}{xb k:Nat}{s:cm}{H:aV}
theorem DS.mono(h:DS RD xb s H){R':au}(i:∀b o,RD b o->R' b o):DS R' xb s H:=by
 obtain⟨v,u,t,w,d,c,a,f,q,p,g,r,e,m,l,j,n,k⟩:=h
 exact⟨v,u,t,w,d,c,a,f,q,p,g,r,e,m,l,j,n,k.mono i⟩
theorem qa{id:ByteArray}{l:List ByteArray}{cs:List bx}(h:eG id l cs=true):l≠[]:=λe=>by
 subst e
 unfold eG at h
 simp at h
theorem LW(h:DS RD xb s H)(d:OB s k)(hk:k<=60)(user id:ByteArray)(B:user.size<=9223372036854775807)(vs:Value)(c:List ByteArray)(a0:RS RD 1 bz vs c)(a3:c.length<=6)(R:au)(W:∀b o,RD b o->R b o):
    Spec prog 33 [pT xb,.string user,.string id,vs] R H λu H'=>u=.int .i64 (ec s user id c).1/\∃Hs Td,H'=Hs++[Td]/\DS (λb o=>RD b o\/sg Td b o) xb (ec s user id c).2 Hs:=by
  have v:=h
  obtain⟨n,K,m,r,t,Z,D,E,N,ns,U,Y,rfl,J,hn,Q,T,y⟩:=h
  obtain⟨l1,l2,l3,l4⟩:=y.len d hk
  have i1:=J.av
  have i2:=hn.av
  have i3:=Q.av
  have i4:=T.av
  have a4:=a0.av
  have a1:(dB s.C user id).length<=1000:=by
    unfold dB
    cases e:aS (user,id) s.C with
    |none=>simp
    |some l=>
     have:=d.cl _ (fG e)
     simp only[afl]
     simp only at this
     omega
  refine Spec.cX (H':=[bl xb [n,K,m,r,.int .i64 s.last,.int .i64 s.now] 44,t,Z,D,E,[]]) (by simp) ?_
  refine Spec.body func33 rfl results33 ntmps33 rfl ?_
  refine .sr<|.ag rfl<|.zs<|.sr<|.mo rfl ?_
  refine .aL (sA user B _) (λu B=>?_)
  subst B
  refine .q .not<|.zn ?_
  refine .cond rfl (λi=>?_) λi=>?_
  refine .sr<|.az rfl ?_
  refine .ret (aI (aN _ (.one (.tmp rfl)) rH ?_))
  ·first
      |(have e:ec s user id c=(9,s):=by
           have f:dH s.cs user id c=9:=by unfold dH;rw[aeL (by simpa using i)]
           unfold ec;rw[f];rfl
        rw[e]
        exact⟨rfl,[_,_,_,_,_],[],rfl,v.mono λb o d=>.inl d⟩)
      |(have e:ec s user id c=(17,s):=by
           have f:dH s.cs user id c=17:=by
             unfold dH
             rw[aeK (by simpa using i),aeL (by rw[w];have g:=bq j;simp;omega)]
           unfold ec;rw[f];rfl
        rw[e]
        exact⟨rfl,[_,_,_,_,_],[],rfl,v.mono λb o d=>.inl d⟩)
      |(have e:ec s user id c=(19,s):=by
           have f:dH s.cs user id c=19:=by
             unfold dH
             rw[aeK (by simpa using i),aeK (by rw[w];have g:=bi j;simp;omega),aeL (by simpa using A)]
           unfold ec;rw[f];rfl
        rw[e]
        exact⟨rfl,[_,_,_,_,_],[],rfl,v.mono λb o d=>.inl d⟩)
      |(have x:eG id c s.cs=true:=by simpa using A
        have e:ec s user id c=(0,{s with C:=cO (user,id) (jk (dB s.C user id) c) s.C}):=by
          have f:dH s.cs user id c=0:=by
            unfold dH
            rw[aeK (by simpa using i),aeK (by rw[w];have g:=bi j;simp;omega),aeK (by simp[x])]
          unfold ec;rw[f];rfl
        rw[e]
        have I:c.foldl eM (dB s.C user id)≠[]:=λG=>by
          cases c with
          |nil=>exact qa x rfl
          |cons a l9=>
           have g:a∈(a::l9).foldl eM (dB s.C user id):=nI.2 (.inr (by simp))
           rw[G]at g
           cases g
        rw[aeK I]at F
        exact⟨rfl,[_,_,_,_,_],L,rfl,n,O,m,r,t,M,D,E,N,X,U,Y,rfl,J,S,Q,T,y.mV (λb o d=>.inl d) F V⟩)
  refine .kn<|.seq<|.sr<|.mo rfl<|.nc rfl<|.fa rfl<|.mo rfl ?_
  refine .aL (m8 xb K m r s.last s.now N ((xb,.cells [n,K,m,r,.int .i64 s.last,.int .i64 s.now].toArray 44 (0,0))::t) ⟨n,t,rfl,J,l1⟩ id _ (y.cr.mono λb o d=>.inl (W b o d)) (λp hp=>.inr (by
    rcases aeM.1 hp with rfl|hp
    ·simp
    ·simp[hp]))) (λu B=>?_)
  obtain⟨z,rfl,hz⟩:=B
  have w:=y.find hz
  refine .q .lss<|.zn ?_
  refine .cond rfl (λj=>?_) λj=>?_
  refine .sr<|.az rfl ?_
  refine .ret (aI (aN _ (.one (.tmp rfl)) rH ?_))
  ·first
      |(have e:ec s user id c=(9,s):=by
           have f:dH s.cs user id c=9:=by unfold dH;rw[aeL (by simpa using i)]
           unfold ec;rw[f];rfl
        rw[e]
        exact⟨rfl,[_,_,_,_,_],[],rfl,v.mono λb o d=>.inl d⟩)
      |(have e:ec s user id c=(17,s):=by
           have f:dH s.cs user id c=17:=by
             unfold dH
             rw[aeK (by simpa using i),aeL (by rw[w];have g:=bq j;simp;omega)]
           unfold ec;rw[f];rfl
        rw[e]
        exact⟨rfl,[_,_,_,_,_],[],rfl,v.mono λb o d=>.inl d⟩)
      |(have e:ec s user id c=(19,s):=by
           have f:dH s.cs user id c=19:=by
             unfold dH
             rw[aeK (by simpa using i),aeK (by rw[w];have g:=bi j;simp;omega),aeL (by simpa using A)]
           unfold ec;rw[f];rfl
        rw[e]
        exact⟨rfl,[_,_,_,_,_],[],rfl,v.mono λb o d=>.inl d⟩)
      |(have x:eG id c s.cs=true:=by simpa using A
        have e:ec s user id c=(0,{s with C:=cO (user,id) (jk (dB s.C user id) c) s.C}):=by
          have f:dH s.cs user id c=0:=by
            unfold dH
            rw[aeK (by simpa using i),aeK (by rw[w];have g:=bi j;simp;omega),aeK (by simp[x])]
          unfold ec;rw[f];rfl
        rw[e]
        have I:c.foldl eM (dB s.C user id)≠[]:=λG=>by
          cases c with
          |nil=>exact qa x rfl
          |cons a l9=>
           have g:a∈(a::l9).foldl eM (dB s.C user id):=nI.2 (.inr (by simp))
           rw[G]at g
           cases g
        rw[aeK I]at F
        exact⟨rfl,[_,_,_,_,_],L,rfl,n,O,m,r,t,M,D,E,N,X,U,Y,rfl,J,S,Q,T,y.mV (λb o d=>.inl d) F V⟩)
  refine .kn<|.seq<|.sr<|.mo rfl<|.nc rfl<|.fa rfl<|.mo rfl<|.mo rfl ?_
  refine .aL (xi xb K m r s.last s.now N ((xb,.cells [n,K,m,r,.int .i64 s.last,.int .i64 s.now].toArray 44 (0,0))::t) ⟨n,t,rfl,J,l1⟩ id vs c _ (y.cr.mono λb o d=>.inl (W b o d)) (λp hp=>.inr (by
    rcases aeM.1 hp with rfl|hp
    ·simp
    ·simp[hp])) (a0.mono λb o d=>.inl (W b o d))) (λu B=>?_)
  subst B
  rw[<-tW y]
  refine .q .not<|.zn ?_
  refine .cond rfl (λA=>?_) λA=>?_
  refine .sr<|.az rfl ?_
  refine .ret (aI (aN _ (.one (.tmp rfl)) rH ?_))
  ·first
      |(have e:ec s user id c=(9,s):=by
           have f:dH s.cs user id c=9:=by unfold dH;rw[aeL (by simpa using i)]
           unfold ec;rw[f];rfl
        rw[e]
        exact⟨rfl,[_,_,_,_,_],[],rfl,v.mono λb o d=>.inl d⟩)
      |(have e:ec s user id c=(17,s):=by
           have f:dH s.cs user id c=17:=by
             unfold dH
             rw[aeK (by simpa using i),aeL (by rw[w];have g:=bq j;simp;omega)]
           unfold ec;rw[f];rfl
        rw[e]
        exact⟨rfl,[_,_,_,_,_],[],rfl,v.mono λb o d=>.inl d⟩)
      |(have e:ec s user id c=(19,s):=by
           have f:dH s.cs user id c=19:=by
             unfold dH
             rw[aeK (by simpa using i),aeK (by rw[w];have g:=bi j;simp;omega),aeL (by simpa using A)]
           unfold ec;rw[f];rfl
        rw[e]
        exact⟨rfl,[_,_,_,_,_],[],rfl,v.mono λb o d=>.inl d⟩)
      |(have x:eG id c s.cs=true:=by simpa using A
        have e:ec s user id c=(0,{s with C:=cO (user,id) (jk (dB s.C user id) c) s.C}):=by
          have f:dH s.cs user id c=0:=by
            unfold dH
            rw[aeK (by simpa using i),aeK (by rw[w];have g:=bi j;simp;omega),aeK (by simp[x])]
          unfold ec;rw[f];rfl
        rw[e]
        have I:c.foldl eM (dB s.C user id)≠[]:=λG=>by
          cases c with
          |nil=>exact qa x rfl
          |cons a l9=>
           have g:a∈(a::l9).foldl eM (dB s.C user id):=nI.2 (.inr (by simp))
           rw[G]at g
           cases g
        rw[aeK I]at F
        exact⟨rfl,[_,_,_,_,_],L,rfl,n,O,m,r,t,M,D,E,N,X,U,Y,rfl,J,S,Q,T,y.mV (λb o d=>.inl d) F V⟩)
  refine .kn<|.sr<|.mo rfl<|.nc rfl<|.fa rfl<|.mo rfl<|.mo rfl<|.mo rfl ?_
  refine .sub (H':=[(xb,.cells [n,K,m,r,.int .i64 s.last,.int .i64 s.now].toArray 44 (0,0))::Z,t,D,E,[]]) ((aH [0,1,0,0,0,0]).trans (aU.bu (by simp[take,aY]))) ?_
  refine .call [0] (Md xb n m r s.last s.now ns _ ⟨K,Z,rfl,hn,by omega⟩ (by omega) s.C y.bn user id vs c _ a0 y.nr (λb o d=>.inl (W b o d)) a1 (by omega)) (λu H' B=>?_)
  obtain⟨T1,L,rfl,rfl,X,⟨O,M,rfl,S,a2⟩,F,V⟩:=B
  have i6:=S.av
  conv=>arg 8;simp only[rest,aY,afq,afe]
  refine .sub (H':=[bl xb [n,O,m,r,.int .i64 s.last,.int .i64 s.now] 44,t,M,D,E,L]) ((aU.bu (H':=[bl xb [n,O,m,r,.int .i64 s.last,.int .i64 s.now] 44,M,L,t,D,E]) (by simp)).trans (aH [0,2,0,1,1,0])) ?_
  refine .z<|.az rfl ?_
  refine .ret (aN _ (.one (.tmp rfl)) rH ?_)
  ·first
      |(have e:ec s user id c=(9,s):=by
           have f:dH s.cs user id c=9:=by unfold dH;rw[aeL (by simpa using i)]
           unfold ec;rw[f];rfl
        rw[e]
        exact⟨rfl,[_,_,_,_,_],[],rfl,v.mono λb o d=>.inl d⟩)
      |(have e:ec s user id c=(17,s):=by
           have f:dH s.cs user id c=17:=by
             unfold dH
             rw[aeK (by simpa using i),aeL (by rw[w];have g:=bq j;simp;omega)]
           unfold ec;rw[f];rfl
        rw[e]
        exact⟨rfl,[_,_,_,_,_],[],rfl,v.mono λb o d=>.inl d⟩)
      |(have e:ec s user id c=(19,s):=by
           have f:dH s.cs user id c=19:=by
             unfold dH
             rw[aeK (by simpa using i),aeK (by rw[w];have g:=bi j;simp;omega),aeL (by simpa using A)]
           unfold ec;rw[f];rfl
        rw[e]
        exact⟨rfl,[_,_,_,_,_],[],rfl,v.mono λb o d=>.inl d⟩)
      |(have x:eG id c s.cs=true:=by simpa using A
        have e:ec s user id c=(0,{s with C:=cO (user,id) (jk (dB s.C user id) c) s.C}):=by
          have f:dH s.cs user id c=0:=by
            unfold dH
            rw[aeK (by simpa using i),aeK (by rw[w];have g:=bi j;simp;omega),aeK (by simp[x])]
          unfold ec;rw[f];rfl
        rw[e]
        have I:c.foldl eM (dB s.C user id)≠[]:=λG=>by
          cases c with
          |nil=>exact qa x rfl
          |cons a l9=>
           have g:a∈(a::l9).foldl eM (dB s.C user id):=nI.2 (.inr (by simp))
           rw[G]at g
           cases g
        rw[aeK I]at F
        exact⟨rfl,[_,_,_,_,_],L,rfl,n,O,m,r,t,M,D,E,N,X,U,Y,rfl,J,S,Q,T,y.mV (λb o d=>.inl d) F V⟩)
theorem o3(h:DS RD xb s H)(I:OB s k)(J:k<=60)(a r:ByteArray)(R:au)(X:∀b o,RD b o->R b o)(F:∀b o,(b,o)∈H.flatten->R b o):
    Spec prog 111 [pT xb,.string a,.string r] R [] λu H'=>u=.int .i64 (dD s a r)/\H'=[]:=by
  obtain⟨D,C,B,x,O,N,M,Q,rs,ns,S,A,rfl,W,U,f,G,d⟩:=h
  obtain⟨Z,l2,l3,l4⟩:=d.len I J
  have Y:=G.av
  have L:PC R (pT xb) [D,C,B,x,.int .i64 s.last,.int .i64 s.now]:=PC.of (E:=44) (fr:=(0,0)) (F _ _ (by simp))
  have a0:PC R (cI (pT xb) 3) [x,.int .i64 s.last,.int .i64 s.now]:=L.add 3
  have y:RS R 9 bA x A:=G.rs λp K=>F _ _ (by simp[K])
  have T:=d.bt.len
  refine Spec.body func111 rfl results111 ntmps111 rfl ?_
  refine .sr<|.ag rfl<|.zs<|.sr<|.mo rfl<|.nc rfl<|.fa rfl<|.mo rfl ?_
  refine .aL (nQ xb D C B s.now x s.last A a _ y.rx d.tr) (λu z=>?_)
  obtain⟨z1,rfl,m⟩:=z
  refine .q .geq<|.mo rfl ?_
  refine .split (t:=13) rfl (λe=>?_) (λe=>?_)
  refine .gF e<|.gF e<|.gF e<|.gF e<|.gF e<|.gF e<|.q (.aW e) ?_
  refine .zn<|.dn<|.sr<|.az rfl ?_
  refine .ret (aI (aO rfl ?_))
  ·first
      |(have c:=bq e
        obtain⟨i,w,t,_,_,_,f⟩:=m.at d.bt (by omega)
        exact⟨by unfold dD;rw[aeL (.inl (by rw[f];rfl))],rfl⟩)
      |(have c:=bq l
        obtain⟨i,w,t,_,_,_,f⟩:=n.at d.bt (by omega)
        exact⟨by unfold dD;rw[aeL (.inr (by rw[f];rfl))],rfl⟩)
      |(have g:aS a s.V=none:=by rw[<-d.bt.get];exact m.neg (by have c:=bi e;omega)
        have j:aS r s.V=none:=by rw[<-d.bt.get];exact n.neg (by have c:=bi l;omega)
        have c:=bq v
        exact⟨by unfold dD;rw[aeK (by rw[g,j];simp),aeL (by omega)],rfl⟩)
      |(have g:aS a s.V=none:=by rw[<-d.bt.get];exact m.neg (by have c:=bi e;omega)
        have j:aS r s.V=none:=by rw[<-d.bt.get];exact n.neg (by have c:=bi l;omega)
        have c:=bi v
        exact⟨by unfold dD;rw[aeK (by rw[g,j];simp),aeK (by omega)],rfl⟩)
  refine .gT e<|.mo rfl<|.gT e<|.nc rfl<|.gT e<|.fa rfl<|.gT e<|.mo rfl<|.gT e ?_
  refine .aL (nQ xb D C B s.now x s.last A r _ y.rx d.tr) (λu z=>?_)
  obtain⟨z2,rfl,n⟩:=z
  refine .gT e<|.q .geq<|.q (.aQ e) ?_
  refine .zn ?_
  refine .cond rfl (λl=>?_) λl=>?_
  refine .sr<|.az rfl ?_
  refine .ret (aI (aO rfl ?_))
  ·first
      |(have c:=bq e
        obtain⟨i,w,t,_,_,_,f⟩:=m.at d.bt (by omega)
        exact⟨by unfold dD;rw[aeL (.inl (by rw[f];rfl))],rfl⟩)
      |(have c:=bq l
        obtain⟨i,w,t,_,_,_,f⟩:=n.at d.bt (by omega)
        exact⟨by unfold dD;rw[aeL (.inr (by rw[f];rfl))],rfl⟩)
      |(have g:aS a s.V=none:=by rw[<-d.bt.get];exact m.neg (by have c:=bi e;omega)
        have j:aS r s.V=none:=by rw[<-d.bt.get];exact n.neg (by have c:=bi l;omega)
        have c:=bq v
        exact⟨by unfold dD;rw[aeK (by rw[g,j];simp),aeL (by omega)],rfl⟩)
      |(have g:aS a s.V=none:=by rw[<-d.bt.get];exact m.neg (by have c:=bi e;omega)
        have j:aS r s.V=none:=by rw[<-d.bt.get];exact n.neg (by have c:=bi l;omega)
        have c:=bi v
        exact⟨by unfold dD;rw[aeK (by rw[g,j];simp),aeK (by omega)],rfl⟩)
  refine .kn<|.seq<|.sr<|.mo rfl<|.nc rfl<|.fa rfl<|.fa rfl<|.lo rfl<|.q (.di y) ?_
  refine .q .gtr<|.zn ?_
  refine .cond rfl (λv=>?_) λv=>?_
  refine .sr<|.az rfl ?_
  refine .ret (aI (aO rfl ?_))
  ·first
      |(have c:=bq e
        obtain⟨i,w,t,_,_,_,f⟩:=m.at d.bt (by omega)
        exact⟨by unfold dD;rw[aeL (.inl (by rw[f];rfl))],rfl⟩)
      |(have c:=bq l
        obtain⟨i,w,t,_,_,_,f⟩:=n.at d.bt (by omega)
        exact⟨by unfold dD;rw[aeL (.inr (by rw[f];rfl))],rfl⟩)
      |(have g:aS a s.V=none:=by rw[<-d.bt.get];exact m.neg (by have c:=bi e;omega)
        have j:aS r s.V=none:=by rw[<-d.bt.get];exact n.neg (by have c:=bi l;omega)
        have c:=bq v
        exact⟨by unfold dD;rw[aeK (by rw[g,j];simp),aeL (by omega)],rfl⟩)
      |(have g:aS a s.V=none:=by rw[<-d.bt.get];exact m.neg (by have c:=bi e;omega)
        have j:aS r s.V=none:=by rw[<-d.bt.get];exact n.neg (by have c:=bi l;omega)
        have c:=bi v
        exact⟨by unfold dD;rw[aeK (by rw[g,j];simp),aeK (by omega)],rfl⟩)
  refine .kn<|.sr<|.az rfl ?_
  refine .ret (aO rfl ?_)
  ·first
      |(have c:=bq e
        obtain⟨i,w,t,_,_,_,f⟩:=m.at d.bt (by omega)
        exact⟨by unfold dD;rw[aeL (.inl (by rw[f];rfl))],rfl⟩)
      |(have c:=bq l
        obtain⟨i,w,t,_,_,_,f⟩:=n.at d.bt (by omega)
        exact⟨by unfold dD;rw[aeL (.inr (by rw[f];rfl))],rfl⟩)
      |(have g:aS a s.V=none:=by rw[<-d.bt.get];exact m.neg (by have c:=bi e;omega)
        have j:aS r s.V=none:=by rw[<-d.bt.get];exact n.neg (by have c:=bi l;omega)
        have c:=bq v
        exact⟨by unfold dD;rw[aeK (by rw[g,j];simp),aeL (by omega)],rfl⟩)
      |(have g:aS a s.V=none:=by rw[<-d.bt.get];exact m.neg (by have c:=bi e;omega)
        have j:aS r s.V=none:=by rw[<-d.bt.get];exact n.neg (by have c:=bi l;omega)
        have c:=bi v
        exact⟨by unfold dD;rw[aeK (by rw[g,j];simp),aeK (by omega)],rfl⟩)
theorem xh(h:DS RD xb s H)(i:OB s k)(C:k<=60)(id d:ByteArray)(va B:Value)(a r:List UInt8)(R:au)(z:RS R 1 cK va a)(A:RS R 1 cK B r)(F:∀b o,RD b o->R b o)(y:∀b o,(b,o)∈H.flatten->R b o):
    Spec prog 108 [pT xb,.string id,.string d,va,B] R [] λu H'=>u=.int .i64 (ew s id d a r)/\H'=[]:=by
  obtain⟨n,m,l,v,w,L,K,M,J,Y,N,ts,rfl,D,Q,O,S,j⟩:=h
  obtain⟨I,V,W,X⟩:=j.len i C
  have T:=z.av
  have U:=A.av
  have Z:PC R (pT xb) [n,m,l,v,.int .i64 s.last,.int .i64 s.now]:=PC.of (E:=44) (fr:=(0,0)) (y _ _ (by simp))
  refine Spec.body func108 rfl results108 ntmps108 rfl ?_
  refine .sr<|.ag rfl<|.zs<|.sr<|.mo rfl<|.q (.di z) ?_
  refine .q .dF<|.mo rfl ?_
  refine .split (t:=14) rfl (λc=>?_) (λc=>?_)
  refine .gF c<|.gF c<|.gF c<|.q (.aW c) ?_
  refine .zn<|.dn<|.sr<|.az rfl ?_
  refine .ret (aI (aO rfl ?_))
  ·first
      |(have e:ew s id d a r=2:=by
           unfold ew
           rw[aeL (by
             first
               |(have f:¬((a.length:Nat):Int)=24:=by simpa using c
                 exact .inl (by omega))
               |(have f:¬((r.length:Nat):Int)=24:=by simpa using g
                 exact .inr (by omega)))]
        rw[e]
        exact⟨rfl,rfl⟩)
      |(have e:ew s id d a r=jw id d s.cs:=by
           unfold ew
           rw[aeK (by
             have f:((a.length:Nat):Int)=24:=by simpa using c
             have x:((r.length:Nat):Int)=24:=by simpa using g
             omega)]
        rw[e]
        exact⟨rfl,rfl⟩)
  refine .gT c<|.mo rfl<|.gT c<|.q (.di A) ?_
  refine .gT c<|.q .dF<|.q (.aQ c) ?_
  refine .zn ?_
  refine .cond rfl (λg=>?_) λg=>?_
  refine .sr<|.az rfl ?_
  refine .ret (aI (aO rfl ?_))
  ·first
      |(have e:ew s id d a r=2:=by
           unfold ew
           rw[aeL (by
             first
               |(have f:¬((a.length:Nat):Int)=24:=by simpa using c
                 exact .inl (by omega))
               |(have f:¬((r.length:Nat):Int)=24:=by simpa using g
                 exact .inr (by omega)))]
        rw[e]
        exact⟨rfl,rfl⟩)
      |(have e:ew s id d a r=jw id d s.cs:=by
           unfold ew
           rw[aeK (by
             have f:((a.length:Nat):Int)=24:=by simpa using c
             have x:((r.length:Nat):Int)=24:=by simpa using g
             omega)]
        rw[e]
        exact⟨rfl,rfl⟩)
  refine .kn<|.sr<|.mo rfl<|.nc rfl<|.fa rfl<|.mo rfl<|.mo rfl ?_
  refine .aL (xj xb m l v s.last s.now J ((xb,.cells [n,m,l,v,.int .i64 s.last,.int .i64 s.now].toArray 44 (0,0))::w) ⟨n,w,rfl,D,I⟩ id d _ (j.cr.mono λb o i=>.inl (F b o i)) (λp hp=>.inl (y _ _ (by
    rcases aeM.1 hp with rfl|hp
    ·simp
    ·simp[hp])))) (λu G=>?_)
  subst G
  rw[<-tY j]
  refine .az rfl ?_
  refine .ret (aO rfl ?_)
  ·first
      |(have e:ew s id d a r=2:=by
           unfold ew
           rw[aeL (by
             first
               |(have f:¬((a.length:Nat):Int)=24:=by simpa using c
                 exact .inl (by omega))
               |(have f:¬((r.length:Nat):Int)=24:=by simpa using g
                 exact .inr (by omega)))]
        rw[e]
        exact⟨rfl,rfl⟩)
      |(have e:ew s id d a r=jw id d s.cs:=by
           unfold ew
           rw[aeK (by
             have f:((a.length:Nat):Int)=24:=by simpa using c
             have x:((r.length:Nat):Int)=24:=by simpa using g
             omega)]
        rw[e]
        exact⟨rfl,rfl⟩)
theorem qx(h:DS RD xb s H)(z:OB s k)(Y:k<=60)(a r:ByteArray)(w:Value)(t:Tok)(m:dh RD (w,t))(R:au):
  Spec prog 113 [pT xb,.string a,.string r,.agg (bA (w,t)).toArray] R H λu H'=>u=.tuple #[]/\DS RD xb {s with V:=gI s.V s.last s.now a r t} H':=by
 obtain⟨g,f,d,G,l,j,i,C,rs,ns,S,ts,rfl,M,L,K,N,n⟩:=h
 obtain⟨l1,l2,l3,l4⟩:=n.len z Y
 have a4:=z.n0
 have a5:=z.n1
 have i1:=M.av
 have i2:=L.av
 have i3:=K.av
 have i4:=N.av
 have it:bG (bA (w,t)):=⟨m.bD⟩
 have iw:One w:=RS.av m
 refine Spec.body func113 rfl results113 ntmps113 rfl ?_
 refine .sr ?_
 refine .dA rfl (λx=>?_)
 refine .zs ?_
 refine bO.lX [(0,_),(2,_),(7,_)] kE.c.c.c (X:=Unit) (λ_=>True) (λ_ E=>E) (λ_=>[bl x (bA (w,hE a 1 (s.now+600) t)) 58,bl xb [g,f,d,G,.int .i64 s.last,.int .i64 s.now] 44,l,j,i,C]) ?_ ?_
 refine .qy [0] [7,9,11] mixed ?_
 conv=>arg 3;simp only[take,rest,aY,afb,afc]
 conv=>arg 5;simp only[take,rest,aY,afb,afc]
 conv=>arg 9;simp only[take,rest,aY,afb,afc]
 refine .tO 0 rfl .move<|.tK 1 rfl .move ?_
 refine .tK 2 rfl (.mJ rfl) ?_
 refine .tK 3 rfl (.gm rfl) ?_
 refine .tK 4 rfl (.bK rfl) ?_
 refine .tK 5 rfl (.i64 (s.now+600) .add ⟨by omega,by omega,by omega⟩) ?_
 refine .tO 6 rfl (.fieldAddr rfl) ?_
 refine .sT 7 rfl ?_
 refine .cH rfl rfl ?_
 refine .nil (Next.mod rfl ?_)
 refine .tK 8 rfl (.gm rfl) ?_
 refine .sT 9 rfl ?_
 refine .cH rfl rfl ?_
 refine .nil (Next.mod rfl ?_)
 refine .tK 10 rfl (.gm rfl) ?_
 refine .sT 11 rfl ?_
 refine .cH rfl rfl ?_
 refine .nil (Next.mod rfl ?_)
 refine RA.nil (by kernel_rfl) ?_
 ·exact aA () trivial kE.c.c.c rH
 intro y Z
 refine aD<|.seq ?_
 refine .dc 4 mixed (by kernel_rfl) ?_
 conv=>arg 6;dsimp only[List.take]
 refine .mo rfl<|.nc rfl<|.fa rfl<|.q (.bI rfl)<|.nil ?_
 refine .sub (H':=[(xb,.cells [g,f,d,G,.int .i64 s.last,.int .i64 s.now].toArray 44 (0,0))::C,bl x (bA (w,hE a 1 (s.now+600) t)) 58,l,j,i]) ((aH [1,4,0,0,0,0]).trans (aU.bu (by simp[take,aY]))) ?_
 refine .bT (xw xb g f d s.now ts s.last _ ⟨G,C,rfl,N,by omega⟩ (by omega) s.V n.bt w (hE a 1 (s.now+600) t) R m n.tr) (λu T2 F=>?_)
 obtain⟨rfl,a0,⟨B,v,rfl,O,a6⟩,T,J,a2⟩:=F
 have i6:=O.av
 refine .sub (H':=[bl x (bA (w,hE a 1 (s.now+600) t)) 58,bl xb [g,f,d,B,.int .i64 s.last,.int .i64 s.now] 44,l,j,i,v]) ((aU.bu (H':=[bl xb [g,f,d,B,.int .i64 s.last,.int .i64 s.now] 44,v,bl x (bA (w,hE a 1 (s.now+600) t)) 58,l,j,i]) (by simp)).trans (aH [2,0,1,1,1,0])) ?_
 refine .zs ?_
 refine bO.lX [(0,_),(7,_)] kE.c.c (X:=Unit) (λ_=>True) (λ_ E=>E) (λ_=>[bl x (bA (w,hE r 2 (s.now+100000) t)) 58,bl xb [g,f,d,B,.int .i64 s.last,.int .i64 s.now] 44,l,j,i,v]) ?_ ?_
 refine .qy [0] [7,9,11] mixed ?_
 conv=>arg 3;simp only[take,rest,aY,afb,afc]
 conv=>arg 5;simp only[take,rest,aY,afb,afc]
 conv=>arg 9;simp only[take,rest,aY,afb,afc]
 refine .tO 0 rfl .move<|.tK 1 rfl .move ?_
 refine .tK 2 rfl (.mJ rfl) ?_
 refine .tK 3 rfl (.gm rfl) ?_
 refine .tK 4 rfl (.bK rfl) ?_
 refine .tK 5 rfl (.i64 (s.now+100000) .add ⟨by omega,by omega,by omega⟩) ?_
 refine .tO 6 rfl (.fieldAddr rfl) ?_
 refine .sT 7 rfl ?_
 refine .cH rfl rfl ?_
 refine .nil (Next.mod rfl ?_)
 refine .tK 8 rfl (.gm rfl) ?_
 refine .sT 9 rfl ?_
 refine .cH rfl rfl ?_
 refine .nil (Next.mod rfl ?_)
 refine .tK 10 rfl (.gm rfl) ?_
 refine .sT 11 rfl ?_
 refine .cH rfl rfl ?_
 refine .nil (Next.mod rfl ?_)
 refine RA.nil (by kernel_rfl) ?_
 ·exact aA () trivial kE.c.c rH
 intro y Z
 refine aD ?_
 refine .dc 4 mixed (by kernel_rfl) ?_
 conv=>arg 6;dsimp only[List.take]
 refine .mo rfl<|.nc rfl<|.fa rfl<|.q (.bI rfl)<|.nil ?_
 refine .sub (H':=[(xb,.cells [g,f,d,B,.int .i64 s.last,.int .i64 s.now].toArray 44 (0,0))::v,l,j,i]) ((aH [1,4,1,1,1]).trans (aU.bu (by simp[take,aY]))) ?_
 refine .bT (xw xb g f d s.now a0 s.last _ ⟨B,v,rfl,O,by omega⟩ (by omega) _ T w (hE r 2 (s.now+100000) t) R m (λp A=>(J p A).elim (n.tr p) λe=>e▸m)) (λu T4 F=>?_)
 obtain⟨rfl,a1,⟨I,D,rfl,Q,a7⟩,U,W,a3⟩:=F
 have i7:=Q.av
 refine .sub (H':=[bl xb [g,f,d,I,.int .i64 s.last,.int .i64 s.now] 44,l,j,i,D]) ((aU.bu (H':=[bl xb [g,f,d,I,.int .i64 s.last,.int .i64 s.now] 44,D,l,j,i]) (by simp)).trans (aH [0,1,1,1,0])) ?_
 refine .nil<|ed _ .none rH ?_
 ·exact⟨rfl,g,f,d,I,l,j,i,D,rs,ns,S,a1,rfl,M,L,K,Q,n.dr (λb o z=>z) U (λp A=>(W p A).elim (λA=>(J p A).elim (n.tr p) λe=>e▸m) λe=>e▸m)⟩
end
section
variable{RD R:au}{xb k:Nat}{s:cm}{H:aV}
theorem Mh(h:DS RD xb s H)(j:OB s k)(Q:k<=60)(id a c:ByteArray)(R:au)(S:∀b o,RD b o->R b o):
    Spec prog 38 [pT xb,.string id,.string a,.string c] R H λu H'=>u=.int .i64 (gK s id a c).1/\DS RD xb (gK s id a c).2 H':=by
  have G:=h
  obtain⟨g,f,d,v,i,n,m,E,D,N,F,U,rfl,t,A,y,M,l⟩:=h
  obtain⟨T,l2,l3,l4⟩:=l.len j Q
  have Z:=t.av
  have i2:=A.av
  have i3:=y.av
  have i4:=M.av
  refine Spec.body func38 rfl results38 ntmps38 rfl ?_
  refine .sr<|.ag rfl<|.z<|.mo rfl<|.nc rfl<|.fa rfl<|.mo rfl<|.mo rfl ?_
  refine .aL (xj xb f d v s.last s.now D ((xb,.cells [g,f,d,v,.int .i64 s.last,.int .i64 s.now].toArray 44 (0,0))::i) ⟨g,i,rfl,t,T⟩ id a _ (l.cr.mono λb o j=>.inl (S b o j)) (λp hp=>.inr (by
    rcases aeM.1 hp with rfl|hp
    ·simp
    ·simp[hp]))) (λu B=>?_)
  subst B
  rw[<-tY l]
  refine .ag rfl<|.zs<|.sr<|.mo rfl<|.q .dF<|.zn ?_
  refine .cond rfl (λx=>?_) λx=>?_
  have L:jw id a s.cs≠0:=by simpa using x
  refine .sr<|.mo rfl<|.az rfl ?_
  refine .ret (aI (aN _ (.one (.tmp rfl)) rH ?_))
  ·first
      |(have e:gK s id a c=(jw id a s.cs,s):=by unfold gK;rw[aeL L]
        rw[e]
        exact⟨rfl,G⟩)
      |(have e:gK s id a c=((fj s.V c id).1,{s with V:=(fj s.V c id).2}):=by unfold gK;rw[aeK (by simp[K])]
        rw[e]
        exact⟨rfl,g,f,d,w,i,n,m,r,D,N,F,O,rfl,t,A,y,C,l.dr (λb o j=>j) I J⟩)
  have K:jw id a s.cs=0:=by simpa using x
  refine .kn<|.sr<|.mo rfl<|.nc rfl<|.fa rfl<|.mo rfl<|.mo rfl ?_
  refine .sub (H':=[(xb,.cells [g,f,d,v,.int .i64 s.last,.int .i64 s.now].toArray 44 (0,0))::E,i,n,m]) ((aH [0,3,0,0,0]).trans (aU.bu (by simp[take,aY]))) ?_
  refine .bT (Mj xb g f d s.now U s.last _ ⟨v,E,rfl,M,by omega⟩ s.V l.bt c id R l.tr) (λu W B=>?_)
  obtain⟨rfl,O,⟨w,r,rfl,C,Y⟩,I,J,X⟩:=B
  have i9:=C.av
  refine .sub (H':=[bl xb [g,f,d,w,.int .i64 s.last,.int .i64 s.now] 44,i,n,m,r]) ((aU.bu (H':=[bl xb [g,f,d,w,.int .i64 s.last,.int .i64 s.now] 44,r,i,n,m]) (by simp)).trans (aH [0,1,1,1,0])) ?_
  refine .az rfl ?_
  refine .ret (aN _ (.one (.tmp rfl)) rH ?_)
  ·first
      |(have e:gK s id a c=(jw id a s.cs,s):=by unfold gK;rw[aeL L]
        rw[e]
        exact⟨rfl,G⟩)
      |(have e:gK s id a c=((fj s.V c id).1,{s with V:=(fj s.V c id).2}):=by unfold gK;rw[aeK (by simp[K])]
        rw[e]
        exact⟨rfl,g,f,d,w,i,n,m,r,D,N,F,O,rfl,t,A,y,C,l.dr (λb o j=>j) I J⟩)
theorem Ma(h:DS RD xb s H)(I:OB s k)(J:k<=60)(d:ByteArray)(R:au)(Z:∀b o,RD b o->R b o)(A:∀b o,(b,o)∈H.flatten->R b o):
    Spec prog 17 [pT xb,.string d] R [] λu H'=>(∃w,u=.tuple [.agg (bA (w,(eD s d).getD Tok.zero)).toArray,.bool (eD s d).isSome].toArray/\dh RD (w,(eD s d).getD Tok.zero))/\H'=[]:=by
  obtain⟨G,F,D,y,Q,O,N,S,rs,ns,U,C,rfl,Y,X,W,B,m⟩:=h
  obtain⟨l1,l2,l3,l4⟩:=m.len I J
  have i4:=B.av
  have M:PC R (pT xb) [G,F,D,y,.int .i64 s.last,.int .i64 s.now]:=PC.of (E:=44) (fr:=(0,0)) (A _ _ (by simp))
  have a3:PC R (cI (pT xb) 3) [y,.int .i64 s.last,.int .i64 s.now]:=M.add 3
  have v:RS R 9 bA y C:=B.rs λp K=>A _ _ (by simp[K])
  refine Spec.body func17 rfl results17 ntmps17 rfl ?_
  refine .sr ?_
  refine .cG (λT=>?_)
  refine .ag rfl<|.z<|.mo rfl<|.nc rfl<|.fa rfl<|.mo rfl ?_
  refine .aL (nQ xb G F D s.now y s.last C d _ v.rx m.tr) (λu L=>?_)
  obtain⟨z,rfl,x⟩:=L
  refine .ag rfl<|.zs<|.seq ?_
  refine .iA mixed (by kernel_rfl) ?_
  refine .mo rfl<|.q .lss<|.mo rfl ?_
  refine .split (t:=14) rfl (λc=>?_) (λc=>?_)
  refine .gF c<|.gF c<|.gF c<|.gF c<|.gF c<|.gF c<|.gF c<|.gF c<|.gF c<|.gF c<|.q (.aW c) ?_
  refine .mo rfl<|.gX<|.gX<|.gX<|.gX<|.gX<|.gX<|.gX<|.gX<|.gX<|.gX<|.gX<|.gX<|.gX<|.gX<|.q .bY<|.zn<|.dn<|.sr ?_
  refine .q .du ?_
  refine .cc rfl rfl<|.az rfl ?_
  refine .ret (aI (aN _ (.two (.dO rfl rfl) (.tmp rfl)) (aH []) ?_))
  ·first
      |(have g:aS d s.V=none:=by rw[<-m.bt.get];exact x.neg (bq c)
        have e:eD s d=none:=by unfold eD eW;rw[g];rfl
        rw[e]
        exact⟨⟨sZ,rfl,dh.zero _⟩,rfl⟩)
      |(have e:eD s d=none:=by
           unfold eD eW;rw[g]
           first
             |(have f:¬t.kind=1:=by simpa using a
               by_cases j:s.now<t.cb<;>simp[Option.filter,f,j])
             |(have f:t.cb<=s.now:=bq l
               simp only[Option.filter]
               rw[aeK (by simp;omega)];done)
        rw[e]
        exact⟨⟨sZ,rfl,dh.zero _⟩,rfl⟩)
      |(have e:eD s d=some t:=by
           have f:t.kind=1:=by simpa using a
           have j:¬t.cb<=s.now:=bi l
           unfold eD eW;rw[g]
           simp only[Option.filter]
           rw[aeL (by simp;omega)]
           simp[f]
        rw[e]
        exact⟨⟨w,rfl,n⟩,rfl⟩)
  obtain⟨i,w,t,rfl,r,a0,g⟩:=x.at m.bt (bi c)
  have n:=m.tr _ (bU r)
  have ii:bG (bA (w,t)):=⟨n.bD⟩
  have pi:PC R (eK y (i*9)) (bA (w,t)):=v.pc r
  refine .gT c<|.mo rfl<|.gT c<|.nc rfl<|.gT c<|.fa rfl<|.gT c<|.fa rfl<|.gT c<|.lo rfl<|.gT c<|.mo rfl<|.gT c<|.q (.ct (R':=R) i v r rfl rfl rfl) ?_
  refine .gT c<|.fa rfl<|.gT c<|.lo rfl<|.gT c<|.q .dF<|.q (.aQ c) ?_
  refine .mo rfl ?_
  refine .split (t:=26) rfl (λa=>?_) (λa=>?_)
  refine .gF a<|.gF a<|.gF a<|.gF a<|.gF a<|.gF a<|.gF a<|.gF a<|.gF a<|.gF a<|.gF a<|.gF a<|.gF a<|.gF a<|.q (.aW a) ?_
  refine .zn<|.dn<|.sr ?_
  refine .q .du ?_
  refine .cc rfl rfl<|.az rfl ?_
  refine .ret (aI (aN _ (.two (.dO rfl rfl) (.tmp rfl)) (aH []) ?_))
  ·first
      |(have g:aS d s.V=none:=by rw[<-m.bt.get];exact x.neg (bq c)
        have e:eD s d=none:=by unfold eD eW;rw[g];rfl
        rw[e]
        exact⟨⟨sZ,rfl,dh.zero _⟩,rfl⟩)
      |(have e:eD s d=none:=by
           unfold eD eW;rw[g]
           first
             |(have f:¬t.kind=1:=by simpa using a
               by_cases j:s.now<t.cb<;>simp[Option.filter,f,j])
             |(have f:t.cb<=s.now:=bq l
               simp only[Option.filter]
               rw[aeK (by simp;omega)];done)
        rw[e]
        exact⟨⟨sZ,rfl,dh.zero _⟩,rfl⟩)
      |(have e:eD s d=some t:=by
           have f:t.kind=1:=by simpa using a
           have j:¬t.cb<=s.now:=bi l
           unfold eD eW;rw[g]
           simp only[Option.filter]
           rw[aeL (by simp;omega)]
           simp[f]
        rw[e]
        exact⟨⟨w,rfl,n⟩,rfl⟩)
  refine .gT a<|.mo rfl<|.gT a<|.nc rfl<|.gT a<|.fa rfl<|.gT a<|.fa rfl<|.gT a<|.lo rfl<|.gT a<|.mo rfl<|.gT a<|.q (.ct (R':=R) i v r rfl rfl rfl) ?_
  refine .gT a<|.fa rfl<|.gT a<|.lo rfl<|.gT a<|.mo rfl<|.gT a ?_
  refine .nc rfl<|.gT a<|.fa rfl<|.gT a<|.lo rfl<|.gT a<|.q .leq<|.q (.aQ a) ?_
  refine .zn ?_
  refine .cond rfl (λl=>?_) λl=>?_
  refine .sr ?_
  refine .q .du ?_
  refine .cc rfl rfl<|.az rfl ?_
  refine .ret (aI (aN _ (.two (.dO rfl rfl) (.tmp rfl)) (aH []) ?_))
  ·first
      |(have g:aS d s.V=none:=by rw[<-m.bt.get];exact x.neg (bq c)
        have e:eD s d=none:=by unfold eD eW;rw[g];rfl
        rw[e]
        exact⟨⟨sZ,rfl,dh.zero _⟩,rfl⟩)
      |(have e:eD s d=none:=by
           unfold eD eW;rw[g]
           first
             |(have f:¬t.kind=1:=by simpa using a
               by_cases j:s.now<t.cb<;>simp[Option.filter,f,j])
             |(have f:t.cb<=s.now:=bq l
               simp only[Option.filter]
               rw[aeK (by simp;omega)];done)
        rw[e]
        exact⟨⟨sZ,rfl,dh.zero _⟩,rfl⟩)
      |(have e:eD s d=some t:=by
           have f:t.kind=1:=by simpa using a
           have j:¬t.cb<=s.now:=bi l
           unfold eD eW;rw[g]
           simp only[Option.filter]
           rw[aeL (by simp;omega)]
           simp[f]
        rw[e]
        exact⟨⟨w,rfl,n⟩,rfl⟩)
  refine .kn<|.sr<|.mo rfl<|.nc rfl<|.fa rfl<|.fa rfl<|.lo rfl<|.mo rfl<|.q (.ct (R':=R) i v r rfl rfl rfl) ?_
  refine .q (.bI rfl)<|.cc rfl rfl<|.az rfl ?_
  refine .ret (aN _ (.two (.dO rfl rfl) (.tmp rfl)) (aH []) ?_)
  ·first
      |(have g:aS d s.V=none:=by rw[<-m.bt.get];exact x.neg (bq c)
        have e:eD s d=none:=by unfold eD eW;rw[g];rfl
        rw[e]
        exact⟨⟨sZ,rfl,dh.zero _⟩,rfl⟩)
      |(have e:eD s d=none:=by
           unfold eD eW;rw[g]
           first
             |(have f:¬t.kind=1:=by simpa using a
               by_cases j:s.now<t.cb<;>simp[Option.filter,f,j])
             |(have f:t.cb<=s.now:=bq l
               simp only[Option.filter]
               rw[aeK (by simp;omega)];done)
        rw[e]
        exact⟨⟨sZ,rfl,dh.zero _⟩,rfl⟩)
      |(have e:eD s d=some t:=by
           have f:t.kind=1:=by simpa using a
           have j:¬t.cb<=s.now:=bi l
           unfold eD eW;rw[g]
           simp only[Option.filter]
           rw[aeL (by simp;omega)]
           simp[f]
        rw[e]
        exact⟨⟨w,rfl,n⟩,rfl⟩)
end
end Go.Proofs.YtkkmbiojicgobaaGreatDoor
