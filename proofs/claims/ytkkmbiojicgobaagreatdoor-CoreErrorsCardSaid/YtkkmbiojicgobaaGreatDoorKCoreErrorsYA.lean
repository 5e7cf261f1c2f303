/- What the law 'CoreErrors' uses. No condition. -/
import Derived.Test.YtkkmbiojicgobaaGreatDoorKCoreErrorsH
import Derived.Test.YtkkmbiojicgobaaGreatDoorKCoreErrorsN
import Derived.Test.YtkkmbiojicgobaaGreatDoorKCoreErrorsP
import Derived.Test.YtkkmbiojicgobaaGreatDoorKCoreErrorsQ
import Derived.Test.YtkkmbiojicgobaaGreatDoorKCoreErrorsS
import Derived.Test.YtkkmbiojicgobaaGreatDoorKCoreErrorsV
import Derived.Test.YtkkmbiojicgobaaGreatDoorKCoreErrorsW
set_option linter.unusedSimpArgs false
set_option linter.unusedVariables false
namespace Go.Proofs.YtkkmbiojicgobaaGreatDoor
set_option linter.defProp false
def aeJ:=@if_neg
def aeK:=@if_pos
def aeL:=@List.mem_cons
def aeM:=@List.take_length
def aeN:=@List.mem_map
def aeO:=@List.mem_filter
def aeP:=@Nat.le_trans
def aeQ:=@List.length_filter_le
def aeR:=@decide_eq_true
def aeS:=@Bool.not_eq_true'
def aeT:=@Bool.not_eq_false'
def aeU:=@Bool.false_eq_true
def aeV:=@if_false
def aeW:=@beq_iff_eq
def aeX:=@if_true
def aeY:=@List.append_nil
def aeZ:=@Nat.le_refl
def ae0:=@List.pairwise_map
def ae1:=@List.take_add_one
def ae2:=@List.filter_eq_self
def ae3:=@Nat.zero_le
def ae4:=@Bool.and_false
def ae5:=@Option.map_some
def ae6:=@decide_eq_false
def ae7:=@Bool.false_and
def ae8:=@Bool.eq_iff_iff
def ae9:=@List.length_take
def afa:=@List.getD_cons_zero
def afb:=@List.getD_cons_succ
def afc:=@List.getElem?_eq_some_iff
def afd:=@List.nil_append
def afe:=@List.take_append_drop
def aff:=@Nat.min_eq_left
def afg:=@List.take_of_length_le
def afh:=@Option.isSome_eq_false_iff
def afi:=@Option.isNone_iff_eq_none
def afj:=@decide_eq_true_eq
def afk:=@Option.getD_some
def afl:=@List.find?_eq_none
def afm:=@List.filter_append
def afn:=@Option.toList_some
def afo:=@List.filter_cons
def afp:=@List.cons_append
open Tryz
set_option linter.unusedVariables false
set_option maxRecDepth 4000
theorem LO(q:Nat)(s:cd)(T:ax)(h:fe q s T)(f:0<=s.now)(g:s.now<=1125899906842624)(n:Int)(R:av):
  Spec prog 21 [pT q,.int .i64 n] R [T] λv H'=>∃T',H'=[T']/\v=.int .i64 (eH s n).1/\fe q (eH s n).2 T':=
 (wY q s.cs s.C s.A s.V s.last s.now T h f g n R).mono λv H' ⟨T',b,a,c,d⟩=>by
  refine⟨T',b,?_⟩
  unfold eH
  by_cases e:er n s.now=0
  ·rw[aeJ (by simp[e])]
   exact⟨by rw[a,e],(d e).2⟩
  ·rw[aeK e]
   exact⟨a,c e⟩
theorem LJ(q:Nat)(s:cd)(T:ax)(h:fe q s T)(user id:ByteArray)(z:user.size<=9223372036854775807)(vs:Value)(a:List ByteArray)(R:av)(w:RS R 1 bB vs a)(y:a.length<=100000)(o:∀p∈s.C,p.2.length<=1000000):
  Spec prog 24 [pT q,.string user,.string id,vs] R [T] λv H'=>∃T',H'=[T']/\v=.int .i64 (dV s user id a).1/\fe q (dV s user id a).2 T':=
 (wH q s.cs s.C s.A s.V s.last s.now T h user id z vs a R w y o).mono λv H' ⟨T',i,d,D,j,k,b⟩=>by
  refine⟨T',i,?_⟩
  unfold dV
  by_cases e:dJ s.cs user id a=0
  ·rw[aeJ (by simp[e])]
   obtain⟨l,t,f,E,g⟩:=k e
   have r:l=jo (dD s.C user id) a:=yA t f
   have u:l≠[]:=λm=>by
    obtain⟨_,_,c⟩:=wG e
    have n:0<a.length:=by unfold eL at c;simp only[Bool.and_eq_true,afj]at c;exact c.2.1
    obtain⟨x,B⟩:=List.exists_mem_of_length_pos n
    have:=(f x).2 (.inr B)
    rw[m]at this;cases this
   rw[aeJ u,r]at g
   subst g
   exact⟨by rw[d,e],b⟩
  ·rw[aeK e]
   rw[j e]at b
   exact⟨d,b⟩
theorem pt(s:ByteArray)(n:Nat):(short s n).size<=n:=by
 unfold short
 split
 ·simp;omega
 ·omega
theorem w6{s:cd}{x:OC}(h:x.kind=0):eB s x=(e0,e0,eH s x.n):=by
 unfold eB
 rw[aeK h]
theorem w7{s:cd}{x:OC}(h:x.kind=1):eB s x=(e0,e0,mq s x.cl):=by
 unfold eB
 rw[aeJ (by omega),aeK h]
theorem xa{s:cd}{x:OC}(h:x.kind=2):eB s x=(e0,e0,fY s x.id):=by
 unfold eB
 rw[aeJ (by omega),aeJ (by omega),aeK h]
theorem xc{s:cd}{x:OC}(h:x.kind=3):eB s x=(e0,e0,dV s x.user x.id x.scopes):=by
 unfold eB
 rw[aeJ (by omega),aeJ (by omega),aeJ (by omega),aeK h]
theorem xd{s:cd}{x:OC}(h:x.kind=4):eB s x=(e0,e0,ga s x.user x.id):=by
 unfold eB
 rw[aeJ (by omega),aeJ (by omega),aeJ (by omega),aeJ (by omega),aeK h]
theorem xe{s:cd}{x:OC}(h:x.kind=5):eB s x=((bp s x.user x.id x.uri x.scopes x.word x.a).1,e0,(bp s x.user x.id x.uri x.scopes x.word x.a).2):=by
 unfold eB
 rw[aeJ (by omega),aeJ (by omega),aeJ (by omega),aeJ (by omega),aeJ (by omega),aeK h]
theorem xf{s:cd}{x:OC}(h:x.kind=6):eB s x=bM s x.id x.cD x.text x.uri x.word x.a x.r x.rev:=by
 unfold eB
 rw[aeJ (by omega),aeJ (by omega),aeJ (by omega),aeJ (by omega),aeJ (by omega),aeJ (by omega),aeK h]
theorem xg{s:cd}{x:OC}(h:x.kind=7):eB s x=dC s x.id x.cD x.text x.scopes x.a x.r x.rev:=by
 unfold eB
 rw[aeJ (by omega),aeJ (by omega),aeJ (by omega),aeJ (by omega),aeJ (by omega),aeJ (by omega),aeJ (by omega),aeK h]
theorem xh{s:cd}{x:OC}(h:x.kind=8):eB s x=(e0,e0,fZ s x.id x.cD x.text):=by
 unfold eB
 rw[aeJ (by omega),aeJ (by omega),aeJ (by omega),aeJ (by omega),aeJ (by omega),aeJ (by omega),aeJ (by omega),aeJ (by omega),aeK h]
theorem xi{s:cd}{x:OC}(h:x.kind<0\/8<x.kind):eB s x=(e0,e0,0,s):=by
 unfold eB
 rw[aeJ (by omega),aeJ (by omega),aeJ (by omega),aeJ (by omega),aeJ (by omega),aeJ (by omega),aeJ (by omega),aeJ (by omega),aeJ (by omega)]
theorem wI(q:Nat)(s:cd)(T:ax)(h:fe q s T)(k:Nat)(e:OB s k)(G:k<=1000)(w:OV)(x:OC)(R:av)(J:OR R w x)(L:PC R (pT 1) (wv ks)):
  Spec prog 6 [pT q,.agg (fW w x).toArray] R [T] λv H'=>∃T',H'=[T']/\v=.tuple [.string (eB s x.bT).1,.string (eB s x.bT).2.1,.int .i64 (eB s x.bT).2.2.1].toArray/\fe q (eB s x.bT).2.2.2 T':=by
 have U:bJ (fW w x):=⟨J.bG⟩
 have K:∀p∈s.C,p.2.length<=1000000:=λp O=>by have:=e.cl p O;omega
 have X:x.bT.user.size<=40:=pt _ _
 have Y:x.bT.word.size<=140:=pt _ _
 have Z:x.bT.scopes.length<=6:=by show(texts x.scopes 6 40).length<=6;simp[texts];omega
 have z4:x.bT.a.length<=30:=by show(x.a.take 30).length<=30;simp;omega
 have z5:x.bT.r.length<=30:=by show(x.r.take 30).length<=30;simp;omega
 refine Spec.body func6 rfl results6 ntmps6 rfl ?_
 refine .sr ?_
 refine .dv rfl (λS=>?_)
 refine .ag rfl<|.ag rfl<|.ag rfl<|.z<|.q (.bK rfl) ?_
 refine .da (wX w x _ (J.mono λb o e=>.inl e)) (λu I Q=>?_)
 obtain⟨g,rfl,f⟩:=Q
 have W:bJ (fW g x.bT):=⟨f.bG⟩
 have j:∀(H:av) (H':aV),I∈H'->∀b o,sg I b o->Rx H H' b o:=λH H' N b o e=>.inr (List.mem_flatten.2 ⟨_,N,e⟩)
 refine .ct rfl rfl<|.zs<|.sr<|.fa rfl<|.lo rfl<|.zn<|.block<|.sr<|.q .bS<|.az rfl ?_
 refine .cond rfl (λl=>?_) λl=>?_
 refine .sr<|.mo rfl<|.fa rfl<|.lo rfl ?_
 refine .bW (LO q s T h e.n0 e.n1 x.bT.n R) (λv i c=>?_)
 obtain⟨rfl,c⟩:=c
 refine .ag rfl<|.ag rfl<|.az rfl ?_
 refine .ret (br (aL (aR _ (.three (.tmp rfl) (.tmp rfl) (.tmp rfl)) (.one [2] _) ?_)))
 ·rw[w6 (x:=x.bT) (by have d:=l;simp only[aeW]at d;exact d)]
  exact⟨_,rfl,rfl,by simpa[take,aZ]using c⟩
 refine .sr<|.q .bS<|.az rfl ?_
 refine .cond rfl (λm=>?_) λm=>?_
 refine .sr<|.mo rfl<|.fa rfl<|.q (.loadT rfl) ?_
 refine .jO (wD q s.cs s.C s.A s.V s.last s.now T h g.cr x.bT.cl _ (f.1.mono (j _ _ (by simp))) (bA.ya x.cl) (bA.sO x.cl)) (λv i c=>?_)
 obtain⟨rfl,c⟩:=c
 have c:fe q (mq s x.bT.cl).2 i:=c
 refine .ag rfl<|.ag rfl<|.az rfl ?_
 refine .ret (br (aL (aR _ (.three (.tmp rfl) (.tmp rfl) (.tmp rfl)) (.one [2] _) ?_)))
 ·rw[w7 (x:=x.bT) (by have d:=m;simp only[aeW]at d;exact d)]
  exact⟨_,rfl,rfl,by simpa[take,aZ]using c⟩
 refine .sr<|.q .bS<|.az rfl ?_
 refine .cond rfl (λt=>?_) λt=>?_
 refine .sr<|.mo rfl<|.fa rfl<|.lo rfl ?_
 refine .bW (Lu q s T h x.bT.id R) (λv i c=>?_)
 obtain⟨rfl,c⟩:=c
 refine .ag rfl<|.ag rfl<|.az rfl ?_
 refine .ret (br (aL (aR _ (.three (.tmp rfl) (.tmp rfl) (.tmp rfl)) (.one [2] _) ?_)))
 ·rw[xa (x:=x.bT) (by have d:=t;simp only[aeW]at d;exact d)]
  exact⟨_,rfl,rfl,by simpa[take,aZ]using c⟩
 refine .sr<|.q .bS<|.az rfl ?_
 refine .cond rfl (λy=>?_) λy=>?_
 refine .sr<|.mo rfl<|.fa rfl<|.lo rfl<|.fa rfl<|.lo rfl<|.fa rfl<|.lo rfl ?_
 refine .jO (LJ q s T h x.bT.user x.bT.id (by omega) g.vs x.bT.scopes _ (f.2.1.mono (j _ _ (by simp))) (by omega) K) (λv i c=>?_)
 obtain⟨rfl,c⟩:=c
 refine .ag rfl<|.ag rfl<|.az rfl ?_
 refine .ret (br (aL (aR _ (.three (.tmp rfl) (.tmp rfl) (.tmp rfl)) (.one [2] _) ?_)))
 ·rw[xc (x:=x.bT) (by have d:=y;simp only[aeW]at d;exact d)]
  exact⟨_,rfl,rfl,by simpa[take,aZ]using c⟩
 refine .sr<|.q .bS<|.az rfl ?_
 refine .cond rfl (λB=>?_) λB=>?_
 refine .sr<|.mo rfl<|.fa rfl<|.lo rfl<|.fa rfl<|.lo rfl ?_
 refine .bW (LG q s T h x.bT.user x.bT.id R) (λv i c=>?_)
 obtain⟨rfl,c⟩:=c
 refine .ag rfl<|.ag rfl<|.az rfl ?_
 refine .ret (br (aL (aR _ (.three (.tmp rfl) (.tmp rfl) (.tmp rfl)) (.one [2] _) ?_)))
 ·rw[xd (x:=x.bT) (by have d:=B;simp only[aeW]at d;exact d)]
  exact⟨_,rfl,rfl,by simpa[take,aZ]using c⟩
 refine .sr<|.q .bS<|.az rfl ?_
 refine .cond rfl (λD=>?_) λD=>?_
 refine .sr<|.mo rfl<|.fa rfl<|.lo rfl<|.fa rfl<|.lo rfl<|.fa rfl<|.lo rfl<|.fa rfl<|.lo rfl<|.fa rfl<|.lo rfl<|.fa rfl<|.lo rfl ?_
 refine .jO (Li q s T h k e G x.bT.user x.bT.id x.bT.uri g.vs x.bT.scopes x.bT.word g.va x.bT.a (by omega) (by omega) (by omega) (by omega) _ (f.2.1.mono (j _ _ (by simp))) (f.2.2.1.mono (j _ _ (by simp)))) (λv i c=>?_)
 obtain⟨rfl,c⟩:=c
 refine .mo rfl<|.q .extract<|.q .extract<|.ag rfl<|.ag rfl<|.z<|.mo rfl<|.mo rfl<|.ag rfl<|.ag rfl<|.az rfl ?_
 refine .ret (br (aL (aR _ (.three (.tmp rfl) (.tmp rfl) (.tmp rfl)) (.one [2] _) ?_)))
 ·rw[xe (x:=x.bT) (by have d:=D;simp only[aeW]at d;exact d)]
  exact⟨_,rfl,rfl,by simpa[take,aZ]using c⟩
 refine .sr<|.q .bS<|.az rfl ?_
 refine .cond rfl (λE=>?_) λE=>?_
 refine .sr<|.mo rfl<|.fa rfl<|.lo rfl<|.fa rfl<|.lo rfl<|.fa rfl<|.lo rfl<|.fa rfl<|.lo rfl<|.fa rfl<|.lo rfl<|.fa rfl<|.lo rfl<|.fa rfl<|.lo rfl<|.fa rfl<|.lo rfl ?_
 refine .jO (Lp q s T h k e G x.bT.id x.bT.cD x.bT.text x.bT.uri x.bT.word g.va g.vr x.bT.a x.bT.r x.bT.rev (by omega) (by omega) (by omega) _ (f.2.2.1.mono (j _ _ (by simp))) (f.2.2.2.mono (j _ _ (by simp))) (L.mono λb o e=>.inl e)) (λv i c=>?_)
 obtain⟨rfl,c⟩:=c
 refine .q .extract<|.q .extract<|.q .extract<|.ag rfl<|.ag rfl<|.az rfl ?_
 refine .ret (br (aL (aR _ (.three (.tmp rfl) (.tmp rfl) (.tmp rfl)) (.one [2] _) ?_)))
 ·rw[xf (x:=x.bT) (by have d:=E;simp only[aeW]at d;exact d)]
  exact⟨_,rfl,rfl,by simpa[take,aZ]using c⟩
 refine .sr<|.q .bS<|.az rfl ?_
 refine .cond rfl (λF=>?_) λF=>?_
 refine .sr<|.mo rfl<|.fa rfl<|.lo rfl<|.fa rfl<|.lo rfl<|.fa rfl<|.lo rfl<|.fa rfl<|.lo rfl<|.fa rfl<|.lo rfl<|.fa rfl<|.lo rfl<|.fa rfl<|.lo rfl ?_
 refine .jO (Lt q s T h k e G x.bT.id x.bT.cD x.bT.text g.vs x.bT.scopes g.va g.vr x.bT.a x.bT.r x.bT.rev (by omega) (by omega) (by omega) _ (f.2.1.mono (j _ _ (by simp))) (f.2.2.1.mono (j _ _ (by simp))) (f.2.2.2.mono (j _ _ (by simp)))) (λv i c=>?_)
 obtain⟨rfl,c⟩:=c
 refine .q .extract<|.q .extract<|.q .extract<|.ag rfl<|.ag rfl<|.az rfl ?_
 refine .ret (br (aL (aR _ (.three (.tmp rfl) (.tmp rfl) (.tmp rfl)) (.one [2] _) ?_)))
 ·rw[xg (x:=x.bT) (by have d:=F;simp only[aeW]at d;exact d)]
  exact⟨_,rfl,rfl,by simpa[take,aZ]using c⟩
 refine .sr<|.q .bS<|.az rfl ?_
 refine .cond rfl (λd=>?_) λd=>?_
 refine .sr<|.mo rfl<|.fa rfl<|.lo rfl<|.fa rfl<|.lo rfl<|.fa rfl<|.lo rfl ?_
 refine .bW (Lv q s T h x.bT.id x.bT.cD x.bT.text R) (λv i c=>?_)
 obtain⟨rfl,c⟩:=c
 refine .ag rfl<|.ag rfl<|.az rfl ?_
 refine .ret (br (aL (aR _ (.three (.tmp rfl) (.tmp rfl) (.tmp rfl)) (.one [2] _) ?_)))
 ·rw[xh (x:=x.bT) (by have d:=d;simp only[aeW]at d;exact d)]
  exact⟨_,rfl,rfl,by simpa[take,aZ]using c⟩
 refine .skip<|bz<|aD<|.sr<|.ag rfl<|.ag rfl<|.az rfl ?_
 refine .ret (aR _ (.three (.tmp rfl) (.tmp rfl) (.tmp rfl)) (.one [2] _) ?_)
 ·have M:x.bT.kind<0\/8<x.bT.kind:=by
   simp only[beq_eq_false_iff_ne,ne_eq]at l m t y B D E F d
   omega
  rw[xi (x:=x.bT) M]
  exact⟨_,rfl,rfl,by simpa[take,aZ]using h⟩
theorem Ll(q a:Nat)(b c d:Value)(R:av) [pc:PC R (pT q) [pT a,b,c,d]]:Spec prog 57 [pT q] R [] λv H'=>v=pT a/\H'=[]:=by
 refine Spec.body func57 rfl results57 ntmps57 rfl ?_
 refine .sr<|.ag rfl<|.zs<|.sr<|.mo rfl ?_
 refine .aM (kQ q a b c d _) (λv e=>?_)
 subst e
 refine .q .not<|.zn<|.bZ<|.kn<|.sr<|.mo rfl<|.nc rfl<|.fa rfl<|.lo rfl<|.az rfl ?_
 refine .ret (aO rfl ?_)
 ·exact⟨rfl,rfl⟩
theorem qD(q a g:Nat)(b d:Value)(R:av) [pc:PC R (pT q) [pT a,b,pT g,d]]:Spec prog 9 [pT q] R [] λv H'=>v=pT g/\H'=[]:=by
 refine Spec.body func9 rfl results9 ntmps9 rfl ?_
 refine .sr<|.ag rfl<|.zs<|.sr<|.mo rfl ?_
 refine .aM (kQ q a b _ d _) (λv c=>?_)
 subst c
 refine .q .not<|.zn<|.bZ<|.kn<|.sr<|.mo rfl<|.nc rfl<|.fa rfl<|.lo rfl<|.az rfl ?_
 refine .ret (aO rfl ?_)
 ·exact⟨rfl,rfl⟩
theorem Lw(v w:Value)(l m:List ByteArray)(R:av)(h:RS R 1 bB v l)(j:RS R 1 bB w m):Spec prog 104 [v,w] R [] λu H'=>u=.bool (jH l m)/\H'=[]:=by
 have t:=h.aw
 have y:=j.aw
 have s:=h.le
 refine Spec.body func104 rfl results104 ntmps104 rfl ?_
 refine .sr<|.ag rfl<|.zs<|.sr<|.az rfl<|.block ?_
 refine .loop (X:=Nat) (λi=>i<=l.length/\jH (l.take i) m=true) (λi=>[(0,v),(1,w),(5,iN i)]) (λ_=>[]) (λi=>l.length-i) 0 ⟨ae3 _,by simp[jH]⟩ kE.c.c.c rH ?_
 rintro i ⟨r,a⟩
 refine .seq<|.sr<|.mo rfl<|.mo rfl<|.q (.dl h) ?_
 refine .q .lss<|.zn ?_
 refine .cond rfl (λb=>?_) λb=>?_
 have n:i<l.length:=by simp at b;omega
 obtain⟨z,g⟩:=dN n
 refine .kn<|.seq<|.block<|.sr<|.mo rfl<|.mo rfl<|.mo rfl ?_
 refine .cu i h g (λA=>?_)
 refine .lo rfl ?_
 refine .aM (nG w m z _ j.rx) (λu o=>?_)
 subst o
 refine .q .not<|.zn ?_
 refine .cond rfl (λd=>?_) λd=>?_
 refine .sr<|.az rfl ?_
 refine .ret (br (aL (dn (br (aL (aO rfl ?_))))))
 ·refine⟨congrArg Value.bool ?_,rfl⟩
  have f:¬z∈m:=by simpa using d
  exact(Bool.eq_false_iff.2 λe=>f (nT.1 e z (bU g))).symm
 refine .skip<|bz<|aD<|.region<|.mo rfl ?_
 refine .ia (i+1) .add ?_
 refine .ag rfl<|.nil ?_
 ·refine bf (i+1) ⟨by omega,?_⟩ (by omega) kE.c.c.c rH
  have f:z∈m:=by simpa using d
  rw[nT]at a⊢
  intro x p
  rcases(o1 g x).1 p with h8|rfl
  ·exact a x h8
  ·exact f
 refine .exit<|bD<|bH<|bF<|aD<|.sr<|.az rfl ?_
 refine .ret (aO rfl ?_)
 ·have k:i=l.length:=by simp at b;omega
  rw[k,aeM]at a
  exact⟨by rw[a],rfl⟩
abbrev OD:Type:=OV×OC
def uP(d:OD):List Value:=fW d.1 d.2
def fp(L:List bL):List (ByteArray×bL):=L.map λt=>(t.text,t)
structure eZ(A:List (ByteArray×bL))(ps:List GP):Prop where
 pm:(fp (eP ps)).Perm A
 fU:(eP ps).Pairwise λc d=>cp c.text d.text=true
theorem vS{L:List bL}(h:L.Pairwise λc d=>cp c.text d.text=true):((fp L).map (·.1)).Nodup:=by
 unfold fp;rw[List.map_map];exact rl (λt:bL=>t.text) h
theorem eZ.get{A:List (ByteArray×bL)}{ps:List GP}(h:eZ A ps)(k:ByteArray):aU k (fp (eP ps))=aU k A:=nP h.pm (vS h.fU)
theorem eZ.len{A:List (ByteArray×bL)}{ps:List GP}(h:eZ A ps):A.length=ps.length:=by have:=h.pm.length_eq;simpa[fp]using this.symm
theorem KX{L:List bL}{q:bL->Bool}:(fp L).filter (λx=>q x.2)=fp (L.filter q):=by unfold fp;rw[List.filter_map];rfl
theorem uB{ps:List GP}{q:bL->Bool}:eP (ps.filter λp=>q p.2)=(eP ps).filter q:=by unfold eP;rw[List.filter_map];rfl
theorem eZ.filter{A:List (ByteArray×bL)}{ps:List GP}(h:eZ A ps)(q:bL->Bool):eZ (A.filter λx=>q x.2) (ps.filter λp=>q p.2):=by
 refine⟨?_,?_⟩
 ·rw[uB, <-KX];exact h.pm.filter _
 ·rw[uB];exact h.fU.filter _
theorem eZ.add{A:List (ByteArray×bL)}{ps:List GP}(h:eZ A ps){w:Value}{t:bL}(f:aU t.text A=none):eZ (cT t.text t A) (dh (aA dU) (w,t) ps):=by
 refine⟨?_,?_⟩
 ·have d:(dh (aA dU) ((w,t):GP) ps).Perm ((w,t)::ps):=eT
  have e:(fp (eP (dh (aA dU) ((w,t):GP) ps))).Perm ((t.text,t)::fp (eP ps)):=(d.map (λp:GP=>p.2)).map λu:bL=>(u.text,u)
  refine e.trans ?_
  unfold cT
  rw[m8 (iA.1 f)]
  exact(h.pm.cons _).trans (List.perm_append_singleton _ _).symm
 ·have g:(dh (aA dU) ((w,t):GP) ps).Pairwise λp q=>aA dU p q=true:=by
   refine nE vC.tr ?_ λq j=>?_
   ·have:=h.fU
    rw[eP,ae0]at this
    exact this.imp λ{a b} c=>by rw[lp];exact c
   ·rw[lp,lp]
    simp only
    cases d:cp t.text q.2.text with
    |true=>exact .inl rfl
    |false=>
     right
     cases e:cp q.2.text t.text with
     |true=>rfl
     |false=>
      have i:=lx d e
      have:(t.text,q.2)∈A:=h.pm.mem_iff.1 (by rw[i];exact aeN.2 ⟨q.2,aeN.2 ⟨q,j,rfl⟩,rfl⟩)
      exact absurd (aeN.2 ⟨_,this,rfl⟩) (iA.1 f)
  rw[eP,ae0]
  exact g.imp λ{a b} c=>by rw[lp]at c;exact c
theorem eZ.set{A:List (ByteArray×bL)}{ps:List GP}(h:eZ A ps){i:Nat}{w w':Value}{t u:bL}(g:ps[i]? =some (w,t))(c:u.text=t.text):eZ (cT t.text u A) (ps.set i (w',u)):=by
 obtain⟨X,Y,e,f⟩:=x9 g
 rw[f]
 clear f g
 subst e
 refine⟨?_,?_⟩
 ·have j:=vS h.fU
  refine List.Perm.trans ?_ (mL h.pm)
  have n:fp (eP (X++(w,t)::Y))=fp (eP X)++(t.text,t)::fp (eP Y):=by simp[fp]
  have o:fp (eP (X++(w',u)::Y))=fp (eP X)++(t.text,u)::fp (eP Y):=by simp[fp,c]
  rw[n]at j⊢
  rw[o]
  exact r6 j
 ·have b:=h.fU
  rw[eP,ae0]at b⊢
  rw[List.pairwise_append,List.pairwise_cons]at b⊢
  obtain⟨k,⟨l,m⟩,d⟩:=b
  refine⟨k,⟨λp a=>by simp only[c];exact l p a,m⟩,λp a q hq=>?_⟩
  rcases aeL.1 hq with rfl|hq
  ·simp only[c];exact d p a (w,t) (by simp)
  ·exact d p a q (List.mem_cons_of_mem _ hq)
structure gh(C:List (cB×List ByteArray))(ps:List NP):Prop where
 pm:(ps.map (·.2)).Perm C
 fU:ps.Pairwise λp q=>aA dx p q=true
theorem gh.nil:gh [] []:=⟨.refl _,.nil⟩
theorem gh.nd{C:List (cB×List ByteArray)}{ps:List NP}(h:gh C ps):((ps.map (·.2)).map (·.1)).Nodup:=by
 rw[List.map_map,List.Nodup,ae0]
 refine h.fU.imp λ{a b} c d=>?_
 unfold aA dx at c
 have e:a.2.1=b.2.1:=d
 rw[e,mX.refl]at c
 simp at c
theorem gh.get{C:List (cB×List ByteArray)}{ps:List NP}(h:gh C ps)(k:cB):aU k (ps.map (·.2))=aU k C:=nP h.pm h.nd
theorem gh.len{C:List (cB×List ByteArray)}{ps:List NP}(h:gh C ps):C.length=ps.length:=by have:=h.pm.length_eq;simpa using this.symm
theorem gh.filter{C:List (cB×List ByteArray)}{ps:List NP}(h:gh C ps)(q:cB->Bool):gh (C.filter λx=>q x.1) (ps.filter λp=>q p.2.1):=by
 refine⟨?_,h.fU.filter _⟩
 have e:(ps.filter λp=>q p.2.1).map (·.2)=(ps.map (·.2)).filter λx=>q x.1:=by rw[List.filter_map];rfl
 rw[e]
 exact h.pm.filter _
theorem gh.put{C:List (cB×List ByteArray)}{ps:List NP}(h:gh C ps)(w:Value)(k:cB)(l:List ByteArray):gh (cT k l C) (dh (aA dx) (w,(k,l)) (ps.filter λp=>decide (p.2.1≠k))):=by
 have b:=h.filter λx=>decide (x≠k)
 refine⟨?_,?_⟩
 ·have a:(dh (aA dx) ((w,(k,l)):NP) (ps.filter λp=>decide (p.2.1≠k))).Perm ((w,(k,l))::ps.filter λp=>decide (p.2.1≠k)):=eT
  refine(a.map (λp:NP=>p.2)).trans ?_
  unfold cT dO
  exact(b.pm.cons _).trans (List.perm_append_singleton _ _).symm
 ·refine nE qy.so.tr b.fU λq d=>?_
  have c:q.2.1≠k:=by simpa using(aeO.1 d).2
  have f:dx ((w,(k,l)):NP) q≠0:=λe=>c (yG.1 e).symm
  have a:=qy.sw ((w,(k,l)):NP) q
  have g:=qy.sw q ((w,(k,l)):NP)
  unfold aA
  simp only[afj]
  omega
def eS(l:List ByteArray)(s:ByteArray):List ByteArray:=if s∈l then l else dh cp s l
theorem K8{l:List ByteArray}{s x:ByteArray}:x∈eS l s↔x∈l\/x=s:=by
 unfold eS
 split
 ·rename_i h
  exact⟨.inl,λa=>a.elim id λe=>e▸h⟩
 ·rw[eT.mem_iff,aeL]
  exact Or.comm
theorem MK{l:List ByteArray}{s:ByteArray}(h:gR l):gR (eS l s):=by
 unfold eS
 split
 ·exact h
 ·rename_i a
  refine nE (lt:=cp) (λx y z=>nk) h λy b=>?_
  cases h1:cp s y with
  |true=>exact .inl rfl
  |false=>
   right
   cases h2:cp y s with
   |true=>rfl
   |false=>exact absurd (lx h1 h2▸b) a
theorem nO{x:ByteArray}:∀{b a:List ByteArray},x∈b.foldl eS a↔x∈a\/x∈b
 |[],a=>by simp
 |s::b,a=>by
  rw[List.foldl_cons,nO (b:=b),K8,aeL,or_assoc]
theorem xH:∀{b a:List ByteArray},gR a->gR (b.foldl eS a)
 |[],_,h=>h
 |s::b,a,h=>by rw[List.foldl_cons];exact xH (MK h)
theorem Ar{a b:List ByteArray}(h:gR a):b.foldl eS a=jo a b:=yA (xH h) λs=>nO
theorem As{l:List ByteArray}{s:ByteArray}:(eS l s).length<=l.length+1:=by
 unfold eS
 split
 ·omega
 ·have:=(eT (lt:=cp) (p:=s) (L:=l)).length_eq
  rw[this];simp
set_option linter.unusedSimpArgs false
def lC(xb:Nat)(vr vn vg:Value)(tm:Int)(ps:List TP)(last:Int)(T:ax):Prop:=∃vt Tt,T=(xb,.cells [vr,vn,vg,vt,.int .i64 last,.int .i64 tm].toArray 44 (0,0))::Tt/\OS 58 9 bE vt ps Tt/\ps.length<=1000
theorem Ma{xb:Nat}{vr vn vg a l t:Value}{T:ax}(h:(xb,Obj.cells [vr,vn,vg,a,l,t].toArray 44 (0,0))∈T):PS T (cK (pT xb) 3) [a,l,t]:=
 ⟨((PS.of (E:=44) (fr:=(0,0)) h).h).add 3⟩
theorem o9(xb:Nat)(vr vn vg:Value)(x:Int)(l:Value)(last:Int)(ps:List TP)(k:ByteArray)(R:av){RD:av} [E:PC R (cK (pT xb) 3) [l,.int .i64 last,.int .i64 x]](b:RS R 9 bE l ps)(r:∀p∈ps,dS RD p):
  Spec prog 62 [cK (pT xb) 3,.string k] R [] λu H'=>(∃z,u=.int .i64 z/\mB k ps z)/\H'=[]:=by
 have B:=b.aw
 have A:=b.le
 refine Spec.body func62 rfl results62 ntmps62 rfl ?_
 refine .sr<|.ag rfl<|.zs<|.sr<|.az rfl<|.block ?_
 refine .loop (X:=Nat) (λi=>i<=ps.length/\aU k (kv (db (ps.take i)))=none) (λi=>[(0,cK (pT xb) 3),(1,.string k),(5,iN i)]) (λ_=>[]) (λi=>ps.length-i) 0 ⟨by omega,rfl⟩ kE.c.c.c rH ?_
 rintro i ⟨y,a⟩
 refine .seq<|.sr<|.mo rfl<|.mo rfl<|.nc rfl<|.fa rfl<|.lo rfl<|.q (.dl b) ?_
 refine .q .lss<|.zn ?_
 refine .cond rfl (λf=>?_) λf=>?_
 have v:i<ps.length:=dQ f
 obtain⟨⟨w,t⟩,d⟩:=dN v
 have m:=r _ (bU d)
 have C:bJ (bE (w,t)):=⟨m.bG⟩
 have j:kv (db (ps.take (i+1)))=kv (db (ps.take i))++[(t.text,t)]:=by rw[ae1,d];simp[kv]
 refine .kn<|.seq<|.block<|.sr<|.mo rfl<|.nc rfl<|.fa rfl<|.lo rfl<|.mo rfl ?_
 refine .cu i b d (λD=>?_)
 refine .fa rfl<|.lo rfl<|.mo rfl<|.q .ek<|.zn ?_
 refine .cond rfl (λg=>?_) λg=>?_
 refine .sr<|.mo rfl<|.az rfl ?_
 refine .ret (br (aL (dn (br (aL (aO rfl ?_))))))
 ·have h:t.text=k:=bx g
  refine⟨⟨_,rfl,.inr ⟨i,w,t,rfl,d,h,?_⟩⟩,rfl⟩
  have e:ps=ps.take (i+1)++ps.drop (i+1):=(afe _ _).symm
  have n:kv (db ps)=kv (db (ps.take (i+1)))++kv (db (ps.drop (i+1))):=by
   conv=>lhs;rw[e]
   simp[kv]
  rw[n,lr,j,lr,a]
  simp[aU,h]
 refine .skip<|bz<|aD<|.region<|.mo rfl ?_
 refine .ia (i+1) .add ?_
 refine .ag rfl<|.nil ?_
 ·exact bf (i+1) ⟨by omega,by
   have o:¬t.text=k:=bo g
   rw[j,lr,a]
   simp only[aU,aeJ (λe:k=t.text=>o e.symm)];rfl⟩ (by omega) kE.c.c.c rH
 refine .exit<|bD<|bH<|bF<|aD<|.sr<|.az rfl ?_
 refine .ret (aO rfl ?_)
 ·have s:i=ps.length:=by have:=bo f;omega
  rw[s,aeM]at a
  exact⟨⟨_,rfl,.inl ⟨rfl,a⟩⟩,rfl⟩
theorem sE(xb:Nat)(vr vn vg:Value)(f:Int)(ps:List TP)(last:Int)(T:ax)(h:lC xb vr vn vg f ps last T)(A:List (ByteArray×Tok))(C:eQ A ps)(a:Int)(R:av){RD:av}(D:∀p∈ps,dS RD p):
  Spec prog 110 [cK (pT xb) 3,.int .i64 a] R [T] λu H'=>∃T',H'=[T']/\u=.int .i64 ((A.filter λy=>y.2.family==a).length:Nat)/\lC xb vr vn vg f (ps.filter λp=> !(p.2.family==a)) last T':=by
 obtain⟨B,s,rfl,d,M⟩:=h
 have O:=d.aw
 have N:=d.le
 refine Spec.dg (H':=[bl xb [vr,vn,vg,B,.int .i64 last,.int .i64 f] 44,s,[]]) (by simp) ?_
 refine Spec.body func110 rfl results110 ntmps110 rfl ?_
 refine .sr<|.ag rfl<|.z<|.ag rfl<|.zs<|.sr<|.az rfl<|.block ?_
 refine .loop (X:=Nat×Value×ax) (λy=>y.1<=ps.length/\OS 58 9 bE y.2.1 ((ps.take y.1).filter λp=> !(p.2.family==a)) y.2.2) (λy=>[(0,cK (pT xb) 3),(1,.int .i64 a),(5,y.2.1),(6,iN y.1)]) (λy=>[bl xb [vr,vn,vg,B,.int .i64 last,.int .i64 f] 44,s,y.2.2]) (λy=>ps.length-y.1) (0,sZ,[]) ⟨by omega,OS.nil⟩ kE.c.c.c.c rH ?_
 rintro⟨i,k,g⟩ ⟨E,b⟩
 simp only at E b⊢
 have Q:=b.aw
 have H:((ps.take i).filter λp=> !(p.2.family==a)).length<=i:=aeP (aeQ _ _) (by simp;omega)
 refine .seq<|.sr<|.mo rfl<|.mo rfl<|.nc rfl<|.fa rfl<|.lo rfl<|.q (.ec d) ?_
 refine .q .lss<|.zn ?_
 refine .cond rfl (λl=>?_) λl=>?_
 have G:i<ps.length:=dQ l
 obtain⟨⟨w,t⟩,j⟩:=dN G
 have v:=D _ (bU j)
 have S:bJ (bE (w,t)):=⟨v.bG⟩
 have e:=rU (λu:Tok=> !(u.family==a)) j
 refine .kn<|.seq<|.block<|.sr<|.mo rfl<|.nc rfl<|.fa rfl<|.lo rfl<|.mo rfl ?_
 refine .bb i d j (λU=>?_)
 refine .fa rfl<|.lo rfl<|.mo rfl<|.q .dL<|.zn ?_
 refine .cond rfl (λm=>?_) λm=>?_
 have n:(!(t.family==a))=true:=m
 simp only[n,aeX]at e
 refine .region<|.mo rfl<|.mo rfl<|.nc rfl<|.fa rfl<|.lo rfl<|.mo rfl ?_
 refine .bb i d j (λV=>?_)
 refine .q (.bK rfl) ?_
 refine .fP (λI=>?_)
 refine .append b (RS.lits (xs:=[((w,t):TP)]) rfl (by simp[bE]) (by have:=v.bG;simpa using this)) (by simp;omega) (λx r o=>?_)
 rw[<-e]at o
 refine .ag rfl<|.nil<|bz<|aD<|.region<|.mo rfl ?_
 refine .ia (i+1) .add ?_
 refine .ag rfl<|.nil ?_
 ·first
   |exact bf (i+1,x,r) ⟨by simp only;omega,o⟩ (by simp only;omega) kE.c.c.c.c (aI [1,1,1])
   |exact bf (i+1,k,g) ⟨by simp only;omega,by simp only;rw[e];exact b⟩ (by simp only;omega) kE.c.c.c.c rH
 have n:(!(t.family==a))=false:=m
 simp only[n,aeU,aeV,aeY]at e
 refine .skip<|bz<|aD<|.region<|.mo rfl ?_
 refine .ia (i+1) .add ?_
 refine .ag rfl<|.nil ?_
 ·first
   |exact bf (i+1,x,r) ⟨by simp only;omega,o⟩ (by simp only;omega) kE.c.c.c.c (aI [1,1,1])
   |exact bf (i+1,k,g) ⟨by simp only;omega,by simp only;rw[e];exact b⟩ (by simp only;omega) kE.c.c.c.c rH
 have F:i=ps.length:=by have:=bo l;omega
 rw[F,aeM]at b H
 have L:(A.filter λy=>y.2.family==a).length+(ps.filter λp=> !(p.2.family==a)).length=ps.length:=by
  have J:=(C.filter λu=>u.family==a).len
  have K:=rT (λp:TP=>p.2.family==a) ps
  omega
 refine .exit<|bD<|bH<|bF<|aD<|.sr<|.mo rfl<|.nc rfl<|.fa rfl<|.lo rfl<|.q (.ec d) ?_
 refine .mo rfl<|.q (.ec b) ?_
 refine .ia ((A.filter λy=>y.2.family==a).length) .sub ?_
 refine .ag rfl<|.z<|.mo rfl<|.mo rfl<|.nc rfl<|.fa rfl<|.cJ rfl rfl<|.z<|.mo rfl<|.az rfl ?_
 refine .ret (aR _ (.one (.tmp rfl)) ((aI [0,1]).trans (aT.bu (H':=[(xb,.cells [vr,vn,vg,k,.int .i64 last,.int .i64 f].toArray 44 (0,0))::g]) (by simp[take,aZ,cc]))) ?_)
 ·exact⟨_,rfl,rfl,k,g,rfl,b,by omega⟩
theorem xC(xb:Nat)(vr vn vg:Value)(s:Int)(ps:List TP)(last:Int)(T:ax)(h:lC xb vr vn vg s ps last T)(aE user:ByteArray)(R:av){RD:av}(G:∀p∈ps,dS RD p):
    Spec prog 97 [cK (pT xb) 3,.string aE,.string user] R [T] λu H'=>∃T',H'=[T']/\u=.tuple #[]/\lC xb vr vn vg s (ps.filter λp=> !gD aE user p.2) last T':=by
  obtain⟨E,D,rfl,x,M⟩:=h
  have O:=x.aw
  have N:=x.le
  refine Spec.dg (H':=[bl xb [vr,vn,vg,E,.int .i64 last,.int .i64 s] 44,D,[]]) (by simp) ?_
  refine Spec.body func97 rfl results97 ntmps97 rfl ?_
  refine .sr<|.ag rfl<|.zs<|.sr<|.az rfl<|.block ?_
  refine .loop (X:=Nat×Value×ax) (λy=>y.1<=ps.length/\OS 58 9 bE y.2.1 ((ps.take y.1).filter λp=> !gD aE user p.2) y.2.2) (λy=>[(0,cK (pT xb) 3),(1,.string aE),(2,.string user),(6,y.2.1),(7,iN y.1)]) (λy=>[bl xb [vr,vn,vg,E,.int .i64 last,.int .i64 s] 44,D,y.2.2]) (λy=>ps.length-y.1) (0,sZ,[]) ⟨by omega,OS.nil⟩ kE.c.c.c.c.c rH ?_
  rintro⟨i,n,m⟩ ⟨H,f⟩
  simp only at H f⊢
  have Q:=f.aw
  have K:((ps.take i).filter λp=> !gD aE user p.2).length<=i:=aeP (aeQ _ _) (by simp;omega)
  refine .seq<|.sr<|.mo rfl<|.mo rfl<|.nc rfl<|.fa rfl<|.lo rfl<|.q (.ec x) ?_
  refine .q .lss<|.zn ?_
  refine .cond rfl (λB=>?_) λB=>?_
  have J:i<ps.length:=dQ B
  obtain⟨⟨w,t⟩,C⟩:=dN J
  have A:=G _ (bU C)
  have S:bJ (bE (w,t)):=⟨A.bG⟩
  have g:=rU (λu:Tok=> !gD aE user u) C
  refine .kn<|.seq<|.block<|.sr<|.mo rfl<|.nc rfl<|.fa rfl<|.lo rfl<|.mo rfl ?_
  refine .bb i x C (λU=>?_)
  refine .q (.bK rfl) ?_
  refine .cN (λL=>?_)
  refine .ct rfl rfl<|.z<|.fa rfl<|.lo rfl<|.mo rfl<|.q .fj<|.mo rfl ?_
  refine .split (t:=29) rfl (λa=>?_) (λa=>?_)
  refine .gF a<|.gF a<|.gF a<|.cX rfl ?_
  refine .cX rfl ?_
  refine .cX rfl ?_
  refine .cX rfl ?_
  refine .gF a<|.q (.aY a) ?_
  refine .zn<|.dF ?_
  have j:(!gD aE user t)=true:=by
    unfold gD
    first
      |(have d:¬t.aE=aE:=by simpa using a
        simp[d];done)
      |(have d:¬user=⟨#[]⟩:=by simpa using b
        have a2:¬user=t.user:=λe=>by
          have k:¬t.user=user:=by simpa using r
          exact k e.symm
        simp[d,a2])
  simp only[j,aeX]at g
  refine .region<|.mo rfl<|.q (.bK rfl) ?_
  refine .fP (λF=>?_)
  refine .append f (RS.lits (xs:=[((w,t):TP)]) rfl (by simp[bE]) (by have:=A.bG;simpa using this)) (by simp;omega) (λv o l=>?_)
  rw[<-g]at l
  refine .ag rfl<|.nil<|bz<|aD<|.region<|.mo rfl ?_
  refine .ia (i+1) .add ?_
  refine .ag rfl<|.nil ?_
  ·first
      |exact bf (i+1,v,o) ⟨by simp only;omega,l⟩ (by simp only;omega) kE.c.c.c.c.c (aI [2,2,2])
      |exact bf (i+1,n,m) ⟨by simp only;omega,by simp only;rw[g];exact f⟩ (by simp only;omega) kE.c.c.c.c.c (aI [1,1,1])
  refine .gT a<|.mo rfl<|.gT a<|.q .fj<|.gT a<|.mo rfl ?_
  refine .split (t:=32) rfl (λb=>?_) (λb=>?_)
  refine .gT b<|.fa rfl<|.gT b<|.lo rfl<|.gT b<|.mo rfl<|.gT b<|.q .fj<|.gT a<|.q (.aY b) ?_
  refine .q (.aS a) ?_
  refine .zn ?_
  refine .cond rfl (λr=>?_) λr=>?_
  have j:(!gD aE user t)=true:=by
    unfold gD
    first
      |(have d:¬t.aE=aE:=by simpa using a
        simp[d];done)
      |(have d:¬user=⟨#[]⟩:=by simpa using b
        have a2:¬user=t.user:=λe=>by
          have k:¬t.user=user:=by simpa using r
          exact k e.symm
        simp[d,a2])
  simp only[j,aeX]at g
  refine .region<|.mo rfl<|.q (.bK rfl) ?_
  refine .fP (λF=>?_)
  refine .append f (RS.lits (xs:=[((w,t):TP)]) rfl (by simp[bE]) (by have:=A.bG;simpa using this)) (by simp;omega) (λv o l=>?_)
  rw[<-g]at l
  refine .ag rfl<|.nil<|bz<|aD<|.region<|.mo rfl ?_
  refine .ia (i+1) .add ?_
  refine .ag rfl<|.nil ?_
  ·first
      |exact bf (i+1,v,o) ⟨by simp only;omega,l⟩ (by simp only;omega) kE.c.c.c.c.c (aI [2,2,2])
      |exact bf (i+1,n,m) ⟨by simp only;omega,by simp only;rw[g];exact f⟩ (by simp only;omega) kE.c.c.c.c.c (aI [1,1,1])
  have j:(!gD aE user t)=false:=by
    have d:t.aE=aE:=by simpa using a
    have a2:user=⟨#[]⟩\/user=t.user:=by
      first
        |exact .inl (by simpa using b)
        |(have k:t.user=user:=by simpa using r
          exact .inr k.symm)
    unfold gD
    rcases a2 with a2|a2<;>simp[d,a2]
  simp only[j,aeU,aeV,aeY]at g
  refine .skip<|bz<|aD<|.region<|.mo rfl ?_
  refine .ia (i+1) .add ?_
  refine .ag rfl<|.nil ?_
  ·first
      |exact bf (i+1,v,o) ⟨by simp only;omega,l⟩ (by simp only;omega) kE.c.c.c.c.c (aI [2,2,2])
      |exact bf (i+1,n,m) ⟨by simp only;omega,by simp only;rw[g];exact f⟩ (by simp only;omega) kE.c.c.c.c.c (aI [1,1,1])
  refine .gF b<|.gF b<|.gF b<|.gF b<|.gT a<|.q (.aS b) ?_
  refine .q (.aS a) ?_
  refine .zn<|.bZ ?_
  have j:(!gD aE user t)=false:=by
    have d:t.aE=aE:=by simpa using a
    have a2:user=⟨#[]⟩\/user=t.user:=by
      first
        |exact .inl (by simpa using b)
        |(have k:t.user=user:=by simpa using r
          exact .inr k.symm)
    unfold gD
    rcases a2 with a2|a2<;>simp[d,a2]
  simp only[j,aeU,aeV,aeY]at g
  refine .skip<|bz<|aD<|.region<|.mo rfl ?_
  refine .ia (i+1) .add ?_
  refine .ag rfl<|.nil ?_
  ·first
      |exact bf (i+1,v,o) ⟨by simp only;omega,l⟩ (by simp only;omega) kE.c.c.c.c.c (aI [2,2,2])
      |exact bf (i+1,n,m) ⟨by simp only;omega,by simp only;rw[g];exact f⟩ (by simp only;omega) kE.c.c.c.c.c (aI [1,1,1])
  have I:i=ps.length:=by have:=bo B;omega
  rw[I,aeM]at f K
  refine .exit<|bD<|bH<|bF<|aD<|.region<|.mo rfl<|.mo rfl<|.nc rfl<|.fa rfl<|.cJ rfl rfl<|.nil ?_
  refine eh _ .none ((aI [0,1]).trans (aT.bu (H':=[(xb,.cells [vr,vn,vg,n,.int .i64 last,.int .i64 s].toArray 44 (0,0))::m]) (by simp[take,aZ,cc]))) ?_
  ·exact⟨_,rfl,rfl,n,m,rfl,f,by omega⟩
theorem My(xb:Nat)(vr vn vg:Value)(e:Int)(ps:List TP)(last:Int)(T:ax)(h:lC xb vr vn vg e ps last T)(now:Int)(R:av){RD:av}(z:∀p∈ps,dS RD p):
  Spec prog 92 [cK (pT xb) 3,.int .i64 now] R [T] λu H'=>∃T',H'=[T']/\u=.tuple #[]/\lC xb vr vn vg e (ps.filter λp=>decide (now<p.2.cq)) last T':=by
 obtain⟨x,r,rfl,b,F⟩:=h
 have H:=b.aw
 have G:=b.le
 refine Spec.dg (H':=[bl xb [vr,vn,vg,x,.int .i64 last,.int .i64 e] 44,r,[]]) (by simp) ?_
 refine Spec.body func92 rfl results92 ntmps92 rfl ?_
 refine .sr<|.ag rfl<|.zs<|.sr<|.az rfl<|.block ?_
 refine .loop (X:=Nat×Value×ax) (λy=>y.1<=ps.length/\OS 58 9 bE y.2.1 ((ps.take y.1).filter λp=>decide (now<p.2.cq)) y.2.2) (λy=>[(0,cK (pT xb) 3),(1,.int .i64 now),(4,y.2.1),(5,iN y.1)]) (λy=>[bl xb [vr,vn,vg,x,.int .i64 last,.int .i64 e] 44,r,y.2.2]) (λy=>ps.length-y.1) (0,sZ,[]) ⟨by omega,OS.nil⟩ kE.c.c.c.c rH ?_
 rintro⟨i,j,f⟩ ⟨A,a⟩
 simp only at A a⊢
 have I:=a.aw
 have D:((ps.take i).filter λp=>decide (now<p.2.cq)).length<=i:=aeP (aeQ _ _) (by simp;omega)
 refine .seq<|.sr<|.mo rfl<|.mo rfl<|.nc rfl<|.fa rfl<|.lo rfl<|.q (.ec b) ?_
 refine .q .lss<|.zn ?_
 refine .cond rfl (λk=>?_) λk=>?_
 have C:i<ps.length:=dQ k
 obtain⟨⟨w,t⟩,g⟩:=dN C
 have s:=z _ (bU g)
 have J:bJ (bE (w,t)):=⟨s.bG⟩
 have d:=rU (λu:Tok=>decide (now<u.cq)) g
 refine .kn<|.seq<|.block<|.sr<|.mo rfl<|.nc rfl<|.fa rfl<|.lo rfl<|.mo rfl ?_
 refine .bb i b g (λK=>?_)
 refine .fa rfl<|.lo rfl<|.mo rfl<|.q .gtr<|.zn ?_
 refine .cond rfl (λl=>?_) λl=>?_
 have m:decide (now<t.cq)=true:=l
 simp only[m,aeX]at d
 refine .region<|.mo rfl<|.mo rfl<|.nc rfl<|.fa rfl<|.lo rfl<|.mo rfl ?_
 refine .bb i b g (λL=>?_)
 refine .q (.bK rfl) ?_
 refine .fP (λE=>?_)
 refine .append a (RS.lits (xs:=[((w,t):TP)]) rfl (by simp[bE]) (by have:=s.bG;simpa using this)) (by simp;omega) (λv o n=>?_)
 rw[<-d]at n
 refine .ag rfl<|.nil<|bz<|aD<|.region<|.mo rfl ?_
 refine .ia (i+1) .add ?_
 refine .ag rfl<|.nil ?_
 ·first
   |exact bf (i+1,v,o) ⟨by simp only;omega,n⟩ (by simp only;omega) kE.c.c.c.c (aI [1,1,1])
   |exact bf (i+1,j,f) ⟨by simp only;omega,by simp only;rw[d];exact a⟩ (by simp only;omega) kE.c.c.c.c rH
 have m:decide (now<t.cq)=false:=l
 simp only[m,aeU,aeV,aeY]at d
 refine .skip<|bz<|aD<|.region<|.mo rfl ?_
 refine .ia (i+1) .add ?_
 refine .ag rfl<|.nil ?_
 ·first
   |exact bf (i+1,v,o) ⟨by simp only;omega,n⟩ (by simp only;omega) kE.c.c.c.c (aI [1,1,1])
   |exact bf (i+1,j,f) ⟨by simp only;omega,by simp only;rw[d];exact a⟩ (by simp only;omega) kE.c.c.c.c rH
 have B:i=ps.length:=by have:=bo k;omega
 rw[B,aeM]at a D
 refine .exit<|bD<|bH<|bF<|aD<|.region<|.mo rfl<|.mo rfl<|.nc rfl<|.fa rfl<|.cJ rfl rfl<|.nil ?_
 refine eh _ .none ((aI [0,1]).trans (aT.bu (H':=[(xb,.cells [vr,vn,vg,j,.int .i64 last,.int .i64 e].toArray 44 (0,0))::f]) (by simp[take,aZ,cc]))) ?_
 ·exact⟨_,rfl,rfl,j,f,rfl,a,by omega⟩
theorem xD(xb:Nat)(vr vn vg:Value)(d:Int)(ps:List TP)(last:Int)(T:ax)(h:lC xb vr vn vg d ps last T)(b2:ps.length<=900)(A:List (ByteArray×Tok))(f:eQ A ps)(w:Value)(t:Tok)(R:av){RD:av}(ht:dS RD (w,t))(hc:∀p∈ps,dS RD p):
    Spec prog 173 [cK (pT xb) 3,.agg (bE (w,t)).toArray] R [T] λu H'=>∃T',H'=[T']/\u=.int .i64 (fu A last t).1/\∃ps',lC xb vr vn vg d ps' last T'/\eQ (fu A last t).2 ps'/\(∀p∈ps',p∈ps\/p=(w,t.fresh))/\ps'.length<=ps.length+1:=by
  have I:=h
  obtain⟨K,L,rfl,V,hl⟩:=h
  have ir:bJ (bE (w,t)):=⟨ht.bG⟩
  have a7:bJ (bE (w,t.fresh)):=⟨dS.bG (R:=RD) (p:=(w,t.fresh)) ht⟩
  have i1:=V.aw
  have b4:=f.len
  refine Spec.dg (H':=[bl xb [vr,vn,vg,K,.int .i64 last,.int .i64 d] 44,L,[]]) (by simp) ?_
  refine Spec.body func173 rfl results173 ntmps173 rfl ?_
  refine .sr ?_
  refine .dv rfl (λU=>?_)
  refine .ag rfl<|.zs<|.seq ?_
  refine bQ.cut (X:=Unit) (λ_=>True) (λ_=>[(0,cK (pT xb) 3),(3,pT U),(29,.bool (!hU t last))]) (λ_=>[bl U (bE (w,t)) 58,bl xb [vr,vn,vg,K,.int .i64 last,.int .i64 d] 44,L,[]]) ?_ ?_
  refine .iQ mixed (by kernel_rfl) ?_
  refine .fa rfl<|.lo rfl<|.q .dL<|.mo rfl ?_
  refine .split (t:=11) rfl (λo=>?_) (λo=>?_)
  refine .gT o<|.fa rfl<|.gT o<|.lo rfl<|.gT o<|.q .dL<|.q (.aY o) ?_
  refine .mo rfl ?_
  refine .split (t:=16) rfl (λr=>?_) (λr=>?_)
  refine .gF r<|.gF r<|.gF r<|.q (.aY r) ?_
  refine .mo rfl<|.gX<|.gX<|.gX<|.gX<|.gX<|.gX<|.gX<|.q .ca<|.nil ?_
  ·refine aB () trivial ((((bh.nil _).m1 rfl ?_).cons rfl).cons rfl) rH
   unfold hU
   first
     |(have a1:(t.kind !=1)=true:=o
       have g:(t.kind !=2)=true:=r
       simp at a1 g
       simp[a1,g];done)
     |(have a1:=bx a
       simp only at a1
       rw[ae6 (p:=1<=t.family) (by omega),ae4,ae7];rfl)
     |(have a1:t.kind=1\/t.kind=2:=by
          first
            |(have a1:(t.kind !=1)=false:=o
              simp at a1;exact .inl a1)
            |(have a1:(t.kind !=2)=false:=r
              simp at a1;exact .inr a1)
       have g:=bo a
       simp only at g
       rw[aeR (p:=1<=t.family) (by omega),ae8]
       rcases a1 with a1|a1<;>simp[a1])
  refine .gT r<|.fa rfl<|.gT r<|.lo rfl<|.gT r<|.q .lss<|.q (.aS r) ?_
  refine .mo rfl ?_
  refine .split (t:=21) rfl (λa=>?_) (λa=>?_)
  refine .gF a<|.gF a<|.gF a<|.gF a<|.gF a<|.gF a<|.gF a<|.q (.aY a) ?_
  refine .nil ?_
  ·refine aB () trivial ((((bh.nil _).m1 rfl ?_).cons rfl).cons rfl) rH
   unfold hU
   first
     |(have a1:(t.kind !=1)=true:=o
       have g:(t.kind !=2)=true:=r
       simp at a1 g
       simp[a1,g];done)
     |(have a1:=bx a
       simp only at a1
       rw[ae6 (p:=1<=t.family) (by omega),ae4,ae7];rfl)
     |(have a1:t.kind=1\/t.kind=2:=by
          first
            |(have a1:(t.kind !=1)=false:=o
              simp at a1;exact .inl a1)
            |(have a1:(t.kind !=2)=false:=r
              simp at a1;exact .inr a1)
       have g:=bo a
       simp only at g
       rw[aeR (p:=1<=t.family) (by omega),ae8]
       rcases a1 with a1|a1<;>simp[a1])
  refine .gT a<|.fa rfl<|.gT a<|.lo rfl<|.gT a<|.mo rfl<|.gT a ?_
  refine .nc rfl<|.gT a<|.fa rfl<|.gT a<|.lo rfl<|.gT a<|.q .gtr<|.q (.aS a) ?_
  refine .nil ?_
  ·refine aB () trivial ((((bh.nil _).m1 rfl ?_).cons rfl).cons rfl) rH
   unfold hU
   first
     |(have a1:(t.kind !=1)=true:=o
       have g:(t.kind !=2)=true:=r
       simp at a1 g
       simp[a1,g];done)
     |(have a1:=bx a
       simp only at a1
       rw[ae6 (p:=1<=t.family) (by omega),ae4,ae7];rfl)
     |(have a1:t.kind=1\/t.kind=2:=by
          first
            |(have a1:(t.kind !=1)=false:=o
              simp at a1;exact .inl a1)
            |(have a1:(t.kind !=2)=false:=r
              simp at a1;exact .inr a1)
       have g:=bo a
       simp only at g
       rw[aeR (p:=1<=t.family) (by omega),ae8]
       rcases a1 with a1|a1<;>simp[a1])
  refine .gF o<|.gF o<|.gF o<|.q (.aS o) ?_
  refine .mo rfl<|.gt rfl ?_
  refine .fa rfl<|.gt rfl ?_
  refine .lo rfl<|.gt rfl ?_
  refine .q .lss<|.q .bY<|.mo rfl ?_
  refine .split (t:=21) rfl (λa=>?_) (λa=>?_)
  refine .gF a<|.gF a<|.gF a<|.gF a<|.gF a<|.gF a<|.gF a<|.q (.aY a) ?_
  refine .nil ?_
  ·refine aB () trivial ((((bh.nil _).m1 rfl ?_).cons rfl).cons rfl) rH
   unfold hU
   first
     |(have a1:(t.kind !=1)=true:=o
       have g:(t.kind !=2)=true:=r
       simp at a1 g
       simp[a1,g];done)
     |(have a1:=bx a
       simp only at a1
       rw[ae6 (p:=1<=t.family) (by omega),ae4,ae7];rfl)
     |(have a1:t.kind=1\/t.kind=2:=by
          first
            |(have a1:(t.kind !=1)=false:=o
              simp at a1;exact .inl a1)
            |(have a1:(t.kind !=2)=false:=r
              simp at a1;exact .inr a1)
       have g:=bo a
       simp only at g
       rw[aeR (p:=1<=t.family) (by omega),ae8]
       rcases a1 with a1|a1<;>simp[a1])
  refine .gT a<|.fa rfl<|.gT a<|.lo rfl<|.gT a<|.mo rfl<|.gT a ?_
  refine .nc rfl<|.gT a<|.fa rfl<|.gT a<|.lo rfl<|.gT a<|.q .gtr<|.q (.aS a) ?_
  refine .nil ?_
  ·refine aB () trivial ((((bh.nil _).m1 rfl ?_).cons rfl).cons rfl) rH
   unfold hU
   first
     |(have a1:(t.kind !=1)=true:=o
       have g:(t.kind !=2)=true:=r
       simp at a1 g
       simp[a1,g];done)
     |(have a1:=bx a
       simp only at a1
       rw[ae6 (p:=1<=t.family) (by omega),ae4,ae7];rfl)
     |(have a1:t.kind=1\/t.kind=2:=by
          first
            |(have a1:(t.kind !=1)=false:=o
              simp at a1;exact .inl a1)
            |(have a1:(t.kind !=2)=false:=r
              simp at a1;exact .inr a1)
       have g:=bo a
       simp only at g
       rw[aeR (p:=1<=t.family) (by omega),ae8]
       rcases a1 with a1|a1<;>simp[a1])
  intro y hy
  refine aD ?_
  refine .cond rfl (λh1=>?_) λh1=>?_
  have E:hU t last=false:=by simpa using h1
  refine .sr<|.az rfl ?_
  refine .ret (aL (aR _ (.one (.tmp rfl)) (by first|(refine(aI [1,1]).trans (aT.bu (H':=[(xb,.cells [vr,vn,vg,K,.int .i64 last,.int .i64 d].toArray 44 (0,0))::L]) ?_);simp[take,aZ]<;>fail)|(refine(aI [1,2]).trans (aT.bu (H':=[(xb,.cells [vr,vn,vg,B,.int .i64 last,.int .i64 d].toArray 44 (0,0))::v]) ?_);simp[take,aZ,cc]<;>fail)|(refine(aI [2,2]).trans (aT.bu (H':=[(xb,.cells [vr,vn,vg,B,.int .i64 last,.int .i64 d].toArray 44 (0,0))::v]) ?_);simp[take,aZ,cc]<;>fail)|(refine(aI [1,2]).trans (aT.bu (H':=[(xb,.cells [vr,vn,vg,s,.int .i64 last,.int .i64 d].toArray 44 (0,0))::m]) ?_);simp[take,aZ,cc]<;>fail)|(refine(aI [2,3]).trans (aT.bu (H':=[(xb,.cells [vr,vn,vg,s,.int .i64 last,.int .i64 d].toArray 44 (0,0))::m]) ?_);simp[take,aZ,cc]<;>fail)) ?_))
  ·skip
   first
     |(rw[pD E]
       exact⟨_,rfl,rfl,ps,I,f,λp b=>.inl b,by omega⟩)
     |(obtain⟨i,w9,t9,_,_,_,D⟩:=W.pos (by have:=bx N;omega)
       rw[f.get]at D
       rw[pE E D]
       exact⟨_,rfl,rfl,ps,I,f,λp b=>.inl b,by omega⟩)
     |(have h9:=bx O
       exfalso;omega)
     |(rw[J]
       have j:ps.any (aA ed (w,t.fresh))=false:=by rw[aeS]at l;exact l
       have n:cU (aA ed) (w,t.fresh) ps=ps:=by unfold cU;rw[j];rfl
       rw[n, <-jR j]at C
       exact⟨_,rfl,rfl,lT (w,t.fresh) ps,⟨s,m,rfl,C,by rw[dX];omega⟩,eQ.add (t:=t.fresh) f H,λp b=>(aeL.1 (eT.mem_iff.1 b)).symm,by rw[dX];omega⟩)
     |(rw[J]
       have j:ps.any (aA ed (w,t.fresh))=true:=by rw[aeT]at l;exact l
       have n:cU (aA ed) (w,t.fresh) ps=dh (aA ed) (w,t.fresh) ps:=by unfold cU;rw[j];rfl
       rw[n]at x
       exact⟨_,rfl,rfl,lT (w,t.fresh) ps,⟨B,v,rfl,x,by rw[dX];omega⟩,eQ.add (t:=t.fresh) f H,λp b=>(aeL.1 (eT.mem_iff.1 b)).symm,by rw[dX];omega⟩)
  have E:hU t last=true:=by simpa using h1
  refine .kn<|.seq<|.sr<|.mo rfl<|.fa rfl<|.lo rfl ?_
  refine .aM (o9 xb vr vn vg d K last ps t.text _ V.rx hc) (λu hu=>?_)
  obtain⟨z,rfl,W⟩:=hu
  refine .q .geq<|.zn ?_
  refine .cond rfl (λN=>?_) λN=>?_
  refine .sr<|.az rfl ?_
  refine .ret (aL (aR _ (.one (.tmp rfl)) (by first|(refine(aI [1,1]).trans (aT.bu (H':=[(xb,.cells [vr,vn,vg,K,.int .i64 last,.int .i64 d].toArray 44 (0,0))::L]) ?_);simp[take,aZ]<;>fail)|(refine(aI [1,2]).trans (aT.bu (H':=[(xb,.cells [vr,vn,vg,B,.int .i64 last,.int .i64 d].toArray 44 (0,0))::v]) ?_);simp[take,aZ,cc]<;>fail)|(refine(aI [2,2]).trans (aT.bu (H':=[(xb,.cells [vr,vn,vg,B,.int .i64 last,.int .i64 d].toArray 44 (0,0))::v]) ?_);simp[take,aZ,cc]<;>fail)|(refine(aI [1,2]).trans (aT.bu (H':=[(xb,.cells [vr,vn,vg,s,.int .i64 last,.int .i64 d].toArray 44 (0,0))::m]) ?_);simp[take,aZ,cc]<;>fail)|(refine(aI [2,3]).trans (aT.bu (H':=[(xb,.cells [vr,vn,vg,s,.int .i64 last,.int .i64 d].toArray 44 (0,0))::m]) ?_);simp[take,aZ,cc]<;>fail)) ?_))
  ·skip
   first
     |(rw[pD E]
       exact⟨_,rfl,rfl,ps,I,f,λp b=>.inl b,by omega⟩)
     |(obtain⟨i,w9,t9,_,_,_,D⟩:=W.pos (by have:=bx N;omega)
       rw[f.get]at D
       rw[pE E D]
       exact⟨_,rfl,rfl,ps,I,f,λp b=>.inl b,by omega⟩)
     |(have h9:=bx O
       exfalso;omega)
     |(rw[J]
       have j:ps.any (aA ed (w,t.fresh))=false:=by rw[aeS]at l;exact l
       have n:cU (aA ed) (w,t.fresh) ps=ps:=by unfold cU;rw[j];rfl
       rw[n, <-jR j]at C
       exact⟨_,rfl,rfl,lT (w,t.fresh) ps,⟨s,m,rfl,C,by rw[dX];omega⟩,eQ.add (t:=t.fresh) f H,λp b=>(aeL.1 (eT.mem_iff.1 b)).symm,by rw[dX];omega⟩)
     |(rw[J]
       have j:ps.any (aA ed (w,t.fresh))=true:=by rw[aeT]at l;exact l
       have n:cU (aA ed) (w,t.fresh) ps=dh (aA ed) (w,t.fresh) ps:=by unfold cU;rw[j];rfl
       rw[n]at x
       exact⟨_,rfl,rfl,lT (w,t.fresh) ps,⟨B,v,rfl,x,by rw[dX];omega⟩,eQ.add (t:=t.fresh) f H,λp b=>(aeL.1 (eT.mem_iff.1 b)).symm,by rw[dX];omega⟩)
  have H:aU t.text A=none:=by rw[<-f.get];exact W.neg (by have:=bo N;omega)
  refine .kn<|.seq<|.sr<|.mo rfl<|.nc rfl<|.fa rfl<|.lo rfl<|.q (.ec V) ?_
  refine .q .geq<|.zn ?_
  refine .cond rfl (λO=>?_) λO=>?_
  refine .sr<|.az rfl ?_
  refine .ret (aL (aR _ (.one (.tmp rfl)) (by first|(refine(aI [1,1]).trans (aT.bu (H':=[(xb,.cells [vr,vn,vg,K,.int .i64 last,.int .i64 d].toArray 44 (0,0))::L]) ?_);simp[take,aZ]<;>fail)|(refine(aI [1,2]).trans (aT.bu (H':=[(xb,.cells [vr,vn,vg,B,.int .i64 last,.int .i64 d].toArray 44 (0,0))::v]) ?_);simp[take,aZ,cc]<;>fail)|(refine(aI [2,2]).trans (aT.bu (H':=[(xb,.cells [vr,vn,vg,B,.int .i64 last,.int .i64 d].toArray 44 (0,0))::v]) ?_);simp[take,aZ,cc]<;>fail)|(refine(aI [1,2]).trans (aT.bu (H':=[(xb,.cells [vr,vn,vg,s,.int .i64 last,.int .i64 d].toArray 44 (0,0))::m]) ?_);simp[take,aZ,cc]<;>fail)|(refine(aI [2,3]).trans (aT.bu (H':=[(xb,.cells [vr,vn,vg,s,.int .i64 last,.int .i64 d].toArray 44 (0,0))::m]) ?_);simp[take,aZ,cc]<;>fail)) ?_))
  ·skip
   first
     |(rw[pD E]
       exact⟨_,rfl,rfl,ps,I,f,λp b=>.inl b,by omega⟩)
     |(obtain⟨i,w9,t9,_,_,_,D⟩:=W.pos (by have:=bx N;omega)
       rw[f.get]at D
       rw[pE E D]
       exact⟨_,rfl,rfl,ps,I,f,λp b=>.inl b,by omega⟩)
     |(have h9:=bx O
       exfalso;omega)
     |(rw[J]
       have j:ps.any (aA ed (w,t.fresh))=false:=by rw[aeS]at l;exact l
       have n:cU (aA ed) (w,t.fresh) ps=ps:=by unfold cU;rw[j];rfl
       rw[n, <-jR j]at C
       exact⟨_,rfl,rfl,lT (w,t.fresh) ps,⟨s,m,rfl,C,by rw[dX];omega⟩,eQ.add (t:=t.fresh) f H,λp b=>(aeL.1 (eT.mem_iff.1 b)).symm,by rw[dX];omega⟩)
     |(rw[J]
       have j:ps.any (aA ed (w,t.fresh))=true:=by rw[aeT]at l;exact l
       have n:cU (aA ed) (w,t.fresh) ps=dh (aA ed) (w,t.fresh) ps:=by unfold cU;rw[j];rfl
       rw[n]at x
       exact⟨_,rfl,rfl,lT (w,t.fresh) ps,⟨B,v,rfl,x,by rw[dX];omega⟩,eQ.add (t:=t.fresh) f H,λp b=>(aeL.1 (eT.mem_iff.1 b)).symm,by rw[dX];omega⟩)
  have b5:ps.length<4096:=by have:=bo O;omega
  have J:=Oe E H (by omega)
  refine .kn<|.sr<|.fa rfl<|.cJ rfl rfl<|.z<|.ag rfl<|.z<|.ag rfl<|.zs<|.sr<|.az rfl<|.block ?_
  refine .loop (X:=Nat×Value×ax) (λy=>y.1<=ps.length/\OS 58 9 bE y.2.1 (cU (aA ed) (w,t.fresh) (ps.take y.1)) y.2.2) (λy=>[(0,cK (pT xb) 3),(3,pT U),(5,y.2.1),(6,.bool ((ps.take y.1).any (aA ed (w,t.fresh)))),(7,iN y.1)]) (λy=>[bl U (bE (w,t.fresh)) 58,bl xb [vr,vn,vg,K,.int .i64 last,.int .i64 d] 44,L,y.2.2]) (λy=>ps.length-y.1) (0,sZ,[]) ⟨ae3 _,OS.nil⟩ kE.c.c.c.c.c rH ?_
  rintro⟨k,B,v⟩ ⟨hk,x⟩
  simp only at hk x⊢
  have i4:=x.aw
  have a6:=lK (lt:=aA ed) (p:=((w,t.fresh):TP)) (X:=ps.take k)
  rw[ae9,aff hk]at a6
  refine .seq<|.sr<|.mo rfl<|.mo rfl<|.nc rfl<|.fa rfl<|.lo rfl<|.q (.ec V) ?_
  refine .q .lss<|.zn ?_
  refine .cond rfl (λh4=>?_) λh4=>?_
  have a5:k<ps.length:=dQ h4
  obtain⟨⟨S,Q⟩,M⟩:=dN a5
  have cx:=hc _ (bU M)
  have ix:bJ (bE (S,Q)):=⟨cx.bG⟩
  have e4:=oT (lt:=aA ed) (p:=((w,t.fresh):TP)) M
  refine .kn<|.seq<|.block<|.seq ?_
  refine bQ.cut (X:=Value×ax) (λz=>OS 58 9 bE z.1 (jh (aA ed) (w,t.fresh) (ps.take k) (S,Q)) z.2) (λz=>[(0,cK (pT xb) 3),(3,pT U),(5,z.1),(6,.bool ((ps.take (k+1)).any (aA ed (w,t.fresh)))),(7,iN k)]) (λz=>[bl U (bE (w,t.fresh)) 58,bl xb [vr,vn,vg,K,.int .i64 last,.int .i64 d] 44,L,z.2]) ?_ ?_
  refine .seq ?_
  refine .iQ mixed (by kernel_rfl) ?_
  refine .mo rfl<|.q .not<|.mo rfl ?_
  refine .split (t:=53) rfl (λe=>?_) (λe=>?_)
  refine .gT e<|.fa rfl<|.gT e<|.lo rfl<|.gT e<|.mo rfl<|.gT e ?_
  refine .nc rfl<|.gT e<|.fa rfl<|.gT e<|.lo rfl<|.gT e<|.mo rfl<|.gT e ?_
  refine .bb k V M (λb6=>?_)
  refine .gT e<|.fa rfl<|.gT e<|.lo rfl<|.gT e<|.q .m9<|.q (.aY e) ?_
  refine .zn ?_
  refine .cond rfl (λZ=>?_) λZ=>?_
  first|have a0:=mI M e ((lq (w,t.fresh) (S,Q)).trans Z)|skip
  refine .sr<|.mo rfl<|.q (.bK rfl) ?_
  refine .fP (λa9=>?_)
  refine .append x (RS.lits (xs:=[((w,t.fresh):TP)]) rfl (by simp[bE]) (by have:=a7.h;simpa using this)) (by simp;omega) (λs m C=>?_)
  refine .az rfl<|.region<|.ag rfl<|.nil ?_
  ·first
      |(obtain⟨G,F⟩:=a0
        exact aB (s,m) (by simp only;rw[G];exact C) (by simp only;rw[F];exact kE.c.c.c.c.c) (aI [1,1,1,1]))
      |(obtain⟨G,F⟩:=Y
        exact aB (B,v) (by simp only;rw[G];simpa using x) (by simp only;rw[F];exact kE.c.c.c.c.c) rH)
  first|have Y:=im (p:=((w,t.fresh):TP)) M (.inr ((lq (w,t.fresh) (S,Q)).trans Z))|skip
  refine .skip ?_
  ·first
      |(obtain⟨G,F⟩:=a0
        exact aB (s,m) (by simp only;rw[G];exact C) (by simp only;rw[F];exact kE.c.c.c.c.c) (aI [1,1,1,1]))
      |(obtain⟨G,F⟩:=Y
        exact aB (B,v) (by simp only;rw[G];simpa using x) (by simp only;rw[F];exact kE.c.c.c.c.c) rH)
  have Y:=im (p:=((w,t.fresh):TP)) M (.inl e)
  refine .gF e<|.gF e<|.gF e<|.gF e<|.gF e<|.gF e<|.gF e<|.gF e<|.gF e<|.gF e<|.gF e<|.q (.aS e) ?_
  refine .zn<|.bZ ?_
  first|have Y:=im (p:=((w,t.fresh):TP)) M (.inr ((lq (w,t.fresh) (S,Q)).trans Z))|skip
  refine .skip ?_
  ·first
      |(obtain⟨G,F⟩:=a0
        exact aB (s,m) (by simp only;rw[G];exact C) (by simp only;rw[F];exact kE.c.c.c.c.c) (aI [1,1,1,1]))
      |(obtain⟨G,F⟩:=Y
        exact aB (B,v) (by simp only;rw[G];simpa using x) (by simp only;rw[F];exact kE.c.c.c.c.c) rH)
  intro y hy
  obtain⟨vm,Tm⟩:=y
  have a3:OS 58 9 bE vm (jh (aA ed) (w,t.fresh) (ps.take k) (S,Q)) Tm:=hy
  have i6:=a3.aw
  simp only
  refine aD<|.region<|.mo rfl<|.mo rfl<|.nc rfl<|.fa rfl<|.lo rfl<|.mo rfl ?_
  refine .bb k V M (λb7=>?_)
  refine .q (.bK rfl) ?_
  refine .fP (λb0=>?_)
  refine .append a3 (RS.lits (xs:=[((S,Q):TP)]) rfl (by simp[bE]) (by have:=cx.bG;simpa using this)) (by have:=lK (lt:=aA ed) (p:=((w,t.fresh):TP)) (X:=ps.take (k+1));rw[<-e4]at this;simp at this⊢;omega) (λv7 T7 a4=>?_)
  rw[e4]at a4
  refine .ag rfl<|.nil<|bz<|aD<|.region<|.mo rfl ?_
  refine .ia (k+1) .add ?_
  refine .ag rfl<|.nil ?_
  ·exact bf (k+1,v7,T7) ⟨a5,a4⟩ (by simp only;omega) kE.c.c.c.c.c (aI [1,1,1,1])
  have a8:k=ps.length:=by have:=bo h4;omega
  subst a8
  rw[aeM]at x a6⊢
  refine .exit<|bD<|bH<|bF<|aD<|.seq<|.sr<|.mo rfl<|.q .not<|.zn ?_
  refine .cond rfl (λl=>?_) λl=>?_
  refine .region<|.mo rfl<|.q (.bK rfl) ?_
  refine .fP (λb1=>?_)
  refine .append x (RS.lits (xs:=[((w,t.fresh):TP)]) rfl (by simp[bE]) (by have:=a7.h;simpa using this)) (by simp;omega) (λs m C=>?_)
  have i5:=C.aw
  refine .ag rfl<|.z<|.mo rfl<|.mo rfl<|.nc rfl<|.fa rfl<|.cJ rfl rfl<|.z<|.az rfl ?_
  refine .ret (aR _ (.one (.tmp rfl)) (by first|(refine(aI [1,1]).trans (aT.bu (H':=[(xb,.cells [vr,vn,vg,K,.int .i64 last,.int .i64 d].toArray 44 (0,0))::L]) ?_);simp[take,aZ]<;>fail)|(refine(aI [1,2]).trans (aT.bu (H':=[(xb,.cells [vr,vn,vg,B,.int .i64 last,.int .i64 d].toArray 44 (0,0))::v]) ?_);simp[take,aZ,cc]<;>fail)|(refine(aI [2,2]).trans (aT.bu (H':=[(xb,.cells [vr,vn,vg,B,.int .i64 last,.int .i64 d].toArray 44 (0,0))::v]) ?_);simp[take,aZ,cc]<;>fail)|(refine(aI [1,2]).trans (aT.bu (H':=[(xb,.cells [vr,vn,vg,s,.int .i64 last,.int .i64 d].toArray 44 (0,0))::m]) ?_);simp[take,aZ,cc]<;>fail)|(refine(aI [2,3]).trans (aT.bu (H':=[(xb,.cells [vr,vn,vg,s,.int .i64 last,.int .i64 d].toArray 44 (0,0))::m]) ?_);simp[take,aZ,cc]<;>fail)) ?_)
  ·skip
   first
     |(rw[pD E]
       exact⟨_,rfl,rfl,ps,I,f,λp b=>.inl b,by omega⟩)
     |(obtain⟨i,w9,t9,_,_,_,D⟩:=W.pos (by have:=bx N;omega)
       rw[f.get]at D
       rw[pE E D]
       exact⟨_,rfl,rfl,ps,I,f,λp b=>.inl b,by omega⟩)
     |(have h9:=bx O
       exfalso;omega)
     |(rw[J]
       have j:ps.any (aA ed (w,t.fresh))=false:=by rw[aeS]at l;exact l
       have n:cU (aA ed) (w,t.fresh) ps=ps:=by unfold cU;rw[j];rfl
       rw[n, <-jR j]at C
       exact⟨_,rfl,rfl,lT (w,t.fresh) ps,⟨s,m,rfl,C,by rw[dX];omega⟩,eQ.add (t:=t.fresh) f H,λp b=>(aeL.1 (eT.mem_iff.1 b)).symm,by rw[dX];omega⟩)
     |(rw[J]
       have j:ps.any (aA ed (w,t.fresh))=true:=by rw[aeT]at l;exact l
       have n:cU (aA ed) (w,t.fresh) ps=dh (aA ed) (w,t.fresh) ps:=by unfold cU;rw[j];rfl
       rw[n]at x
       exact⟨_,rfl,rfl,lT (w,t.fresh) ps,⟨B,v,rfl,x,by rw[dX];omega⟩,eQ.add (t:=t.fresh) f H,λp b=>(aeL.1 (eT.mem_iff.1 b)).symm,by rw[dX];omega⟩)
  refine .kn<|.sr<|.mo rfl<|.mo rfl<|.nc rfl<|.fa rfl<|.cJ rfl rfl<|.z<|.az rfl ?_
  refine .ret (aR _ (.one (.tmp rfl)) (by first|(refine(aI [1,1]).trans (aT.bu (H':=[(xb,.cells [vr,vn,vg,K,.int .i64 last,.int .i64 d].toArray 44 (0,0))::L]) ?_);simp[take,aZ]<;>fail)|(refine(aI [1,2]).trans (aT.bu (H':=[(xb,.cells [vr,vn,vg,B,.int .i64 last,.int .i64 d].toArray 44 (0,0))::v]) ?_);simp[take,aZ,cc]<;>fail)|(refine(aI [2,2]).trans (aT.bu (H':=[(xb,.cells [vr,vn,vg,B,.int .i64 last,.int .i64 d].toArray 44 (0,0))::v]) ?_);simp[take,aZ,cc]<;>fail)|(refine(aI [1,2]).trans (aT.bu (H':=[(xb,.cells [vr,vn,vg,s,.int .i64 last,.int .i64 d].toArray 44 (0,0))::m]) ?_);simp[take,aZ,cc]<;>fail)|(refine(aI [2,3]).trans (aT.bu (H':=[(xb,.cells [vr,vn,vg,s,.int .i64 last,.int .i64 d].toArray 44 (0,0))::m]) ?_);simp[take,aZ,cc]<;>fail)) ?_)
  ·skip
   first
     |(rw[pD E]
       exact⟨_,rfl,rfl,ps,I,f,λp b=>.inl b,by omega⟩)
     |(obtain⟨i,w9,t9,_,_,_,D⟩:=W.pos (by have:=bx N;omega)
       rw[f.get]at D
       rw[pE E D]
       exact⟨_,rfl,rfl,ps,I,f,λp b=>.inl b,by omega⟩)
     |(have h9:=bx O
       exfalso;omega)
     |(rw[J]
       have j:ps.any (aA ed (w,t.fresh))=false:=by rw[aeS]at l;exact l
       have n:cU (aA ed) (w,t.fresh) ps=ps:=by unfold cU;rw[j];rfl
       rw[n, <-jR j]at C
       exact⟨_,rfl,rfl,lT (w,t.fresh) ps,⟨s,m,rfl,C,by rw[dX];omega⟩,eQ.add (t:=t.fresh) f H,λp b=>(aeL.1 (eT.mem_iff.1 b)).symm,by rw[dX];omega⟩)
     |(rw[J]
       have j:ps.any (aA ed (w,t.fresh))=true:=by rw[aeT]at l;exact l
       have n:cU (aA ed) (w,t.fresh) ps=dh (aA ed) (w,t.fresh) ps:=by unfold cU;rw[j];rfl
       rw[n]at x
       exact⟨_,rfl,rfl,lT (w,t.fresh) ps,⟨B,v,rfl,x,by rw[dX];omega⟩,eQ.add (t:=t.fresh) f H,λp b=>(aeL.1 (eT.mem_iff.1 b)).symm,by rw[dX];omega⟩)
theorem Mx(xb:Nat)(vr vn vg:Value)(d:Int)(ps:List TP)(last:Int)(T:ax)(h:lC xb vr vn vg d ps last T)(A:List (ByteArray×Tok))(a:eQ A ps)(k aE:ByteArray)(R:av){RD:av}(c:∀p∈ps,dS RD p):
  Spec prog 116 [cK (pT xb) 3,.string k,.string aE] R [T] λu H'=>∃T',H'=[T']/\u=.int .i64 (eU A k aE).1/\∃ps',lC xb vr vn vg d ps' last T'/\eQ (eU A k aE).2 ps'/\(∀p∈ps',dS RD p)/\ps'.length<=ps.length:=by
 have x:=h
 obtain⟨r,f,F,D,W⟩:=h
 have i1:=D.aw
 have px:PS T (cK (pT xb) 3) [r,.int .i64 last,.int .i64 d]:=Ma (vr:=vr) (vn:=vn) (vg:=vg) (by rw[F];simp)
 have G:RS (sg T) 9 bE r ps:=D.rs λp n=>by rw[F];simp[sg,n]
 refine Spec.body func116 rfl results116 ntmps116 rfl ?_
 refine .sr<|.ag rfl<|.z<|.mo rfl<|.mo rfl ?_
 refine .aM (o9 xb vr vn vg d r last ps k _ (G.mono λb o g=>.inr (by have j:(b,o)∈T:=g;simp[j])) c) (λu H=>?_)
 obtain⟨z,rfl,L⟩:=H
 refine .ag rfl<|.zs<|.sr<|.mo rfl<|.q .lss<|.zn ?_
 refine .cond rfl (λB=>?_) λB=>?_
 have m:aU k A=none:=by rw[<-a.get];exact L.neg (bx B)
 refine .sr<|.az rfl ?_
 refine .ret (aL (aR _ (.one (.tmp rfl)) rH ?_))
 ·have e:eU A k aE=(0,A):=by unfold eU;rw[m]
  rw[e];exact⟨_,rfl,rfl,ps,x,a,c,aeZ _⟩
 obtain⟨i,w,t,rfl,l,V,m⟩:=L.at a (bo B)
 have N:=c _ (bU l)
 have ii:bJ (bE (w,t)):=⟨N.bG⟩
 have pi:PS T (eK r (i*9)) (bE (w,t)):=⟨G.pc l⟩
 have a0:=(afc.1 l).1
 refine .kn<|.sr<|.mo rfl<|.nc rfl<|.fa rfl<|.lo rfl<|.mo rfl<|.q (.cu i G l rfl rfl rfl) ?_
 refine .q (.bK rfl) ?_
 refine .cN (λb8=>?_)
 refine .ct rfl rfl<|.zs<|.sr<|.fa rfl<|.lo rfl<|.mo rfl<|.q .fj<|.zn ?_
 refine .cond rfl (λs=>?_) λs=>?_
 refine .sr<|.az rfl ?_
 refine .ret (aL (aR _ (.one (.tmp rfl)) (aI [1]) ?_))
 ·have e:eU A k aE=(20,A):=by unfold eU;rw[m];simp only;rw[aeK (by simpa using s)]
  rw[e];exact⟨_,rfl,rfl,ps,x,a,c,aeZ _⟩
 refine .kn<|.seq<|.sr<|.fa rfl<|.lo rfl<|.q .bS<|.zn ?_
 refine .cond rfl (λC=>?_) λC=>?_
 refine .sr<|.mo rfl<|.fa rfl<|.lo rfl ?_
 refine .bW (sE xb vr vn vg d ps last T x A a t.family _ c) (λu Z H=>?_)
 obtain⟨rfl,S⟩:=H
 refine .z<|.az rfl ?_
 refine .ret (aL (aR _ (.one (.tmp rfl)) (aI [1]) ?_))
 ·have e:eU A k aE=(0,A.filter λy=> !(y.2.family==t.family)):=by unfold eU;rw[m];simp only;rw[aeJ (by simpa using s),aeK (by simpa using C)]
  rw[e];exact⟨_,rfl,rfl,_,S,a.filter λu=> !(u.family==t.family),λp n=>c p (aeO.1 n).1,aeQ _ _⟩
 refine .kn<|.sr<|.ag rfl<|.z ?_
 subst F
 have K:=D.sg
 refine .sub (H':=[bl xb [vr,vn,vg,r,.int .i64 last,.int .i64 d] 44,f,[]]) ((aI [1]).trans (aT.bu (by simp[take,aZ]))) ?_
 refine .mo rfl<|.mo rfl<|.nc rfl<|.fa rfl<|.lo rfl<|.mo rfl ?_
 refine .jW (R':=sg f) 0 i K rfl ⟨_,rfl⟩ (by omega) (by omega) (λv2 X=>?_)
 refine .append (OS.nil (E:=58) (sz:=9) (enc:=bE)) (X.mono λb o g=>.inr (by have j:(b,o)∈f:=g;simp[j])) (by simp;omega) (λv3 T3 J=>?_)
 have i3:=J.aw
 refine .ag rfl<|.z<|.mo rfl<|.mo rfl<|.mo rfl<|.nc rfl<|.fa rfl<|.lo rfl<|.mo rfl ?_
 refine .ia (i+1) .add ?_
 refine .jW (R':=sg f) (i+1) ps.length K ⟨_,rfl⟩ rfl (by omega) (by omega) (λv4 Y=>?_)
 refine .append J (Y.mono λb o g=>.inr (by have j:(b,o)∈f:=g;simp[j])) (by simp;omega) (λM I v=>?_)
 have i5:=v.aw
 refine .nc rfl<|.fa rfl<|.cJ rfl rfl<|.z<|.az rfl ?_
 refine .ret (aR _ (.one (.tmp rfl)) ((aI [0,1]).trans (aT.bu (H':=[(xb,.cells [vr,vn,vg,M,.int .i64 last,.int .i64 d].toArray 44 (0,0))::I]) (by simp[take,aZ,cc]))) ?_)
 ·have e:eU A k aE=(0,A.filter λy=> !decide (y.2.text=k)):=by unfold eU;rw[m];simp only;rw[aeJ (by simpa using s),aeJ (by simpa using C)]
  have O:(ps.drop 0).take (i-0)=ps.take i:=by simp
  have Q:(ps.drop (i+1)).take (ps.length-(i+1))=ps.drop (i+1):=afg (by simp)
  rw[O,Q]at v
  have U:=Ap a.fU l V
  rw[afd, <-U]at v
  rw[e]
  exact⟨_,rfl,rfl,_,⟨M,I,rfl,v,aeP (aeQ _ _) W⟩,a.filter λu=> !decide (u.text=k),λp n=>c p (aeO.1 n).1,aeQ _ _⟩
def mC(g:Nat)(vn vg vv:Value)(ls tm:Int)(ps:List CP)(T:ax):Prop:=∃vt Tt,T=(g,.cells [vt,vn,vg,vv,.int .i64 ls,.int .i64 tm].toArray 44 (0,0))::Tt/\OS 25 4 eb vt ps Tt/\ps.length<=64
theorem ni(g:Nat)(vn vg o:Value)(l m:Int)(ps:List CP)(T:ax)(h:mC g vn vg o l m ps T)(id:ByteArray)(R:av)(w:CL R ps)(s:∀p∈T,R p.1 p.2):
  Spec prog 94 [cK (pT g) 0,.string id] R [] λu H'=>(∃z,u=.int .i64 z/\pZ id (cQ ps) z)/\H'=[]:=by
 obtain⟨n,B,rfl,r,D⟩:=h
 have I:PC R (cK (pT g) 0) [n,vn,vg,o,.int .i64 l,.int .i64 m]:=(PC.of (E:=44) (fr:=(0,0)) (s (g,.cells [n,vn,vg,o,.int .i64 l,.int .i64 m].toArray 44 (0,0)) (by simp))).add 0
 have t:RS R 4 eb n ps:=r.rs λp A=>s p (by simp[A])
 have F:=r.aw
 refine Spec.body func94 rfl results94 ntmps94 rfl ?_
 refine .sr<|.ag rfl<|.zs<|.sr<|.az rfl<|.block ?_
 refine .loop (X:=Nat) (λi=>i<=ps.length/\cw id ((cQ ps).take i)=none) (λi=>[(0,cK (pT g) 0),(1,.string id),(5,iN i)]) (λ_=>[]) (λi=>ps.length-i) 0 ⟨by omega,rfl⟩ kE.c.c.c rH ?_
 rintro i ⟨C,a⟩
 refine .seq<|.sr<|.mo rfl<|.mo rfl<|.nc rfl<|.fa rfl<|.lo rfl<|.q (.dl t) ?_
 refine .q .lss<|.zn ?_
 refine .cond rfl (λd=>?_) λd=>?_
 have y:i<ps.length:=dQ d
 obtain⟨z,j⟩:=dN y
 have b:=w z (bU j)
 have G:bJ (eb z):=⟨b.bG⟩
 have k:(cQ ps)[i]? =some z.2:=by simp[cQ,j]
 refine .kn<|.seq<|.block<|.sr<|.mo rfl<|.nc rfl<|.fa rfl<|.lo rfl<|.mo rfl ?_
 refine .cu i t j (λH=>?_)
 refine .fa rfl<|.lo rfl<|.mo rfl<|.q .ek<|.zn ?_
 refine .cond rfl (λe=>?_) λe=>?_
 refine .sr<|.mo rfl<|.az rfl ?_
 refine .ret (br (aL (dn (br (aL (aO rfl ?_))))))
 ·have f:z.1.id=id:=bx e
  rw[b.id]at f
  exact⟨⟨_,rfl,.inr ⟨i,z.2,rfl,k,f,zY k a f⟩⟩,rfl⟩
 refine .skip<|bz<|aD<|.region<|.mo rfl ?_
 refine .ia (i+1) .add ?_
 refine .ag rfl<|.nil ?_
 ·exact bf (i+1) ⟨by omega,z3 k a (by
   have v:¬z.1.id=id:=bo e
   rw[<-b.id];exact v)⟩ (by omega) kE.c.c.c rH
 refine .exit<|bD<|bH<|bF<|aD<|.sr<|.az rfl ?_
 refine .ret (aO rfl ?_)
 ·have x:i=ps.length:=by have:=bo d;omega
  rw[x,afg (by simp[cQ])]at a
  exact⟨⟨_,rfl,.inl ⟨rfl,a⟩⟩,rfl⟩
theorem xr(g:Nat)(vn vg s:Value)(n r:Int)(ps:List CP)(T:ax)(h:mC g vn vg s n r ps T)(id e:ByteArray)(R:av)(B:CL R ps)(w:∀p∈T,R p.1 p.2):
    Spec prog 115 [cK (pT g) 0,.string id,.string e] R [] λu H'=>u=.int .i64 (if(cw id (cQ ps)).map (·.cD)=some e then 0 else 17)/\H'=[]:=by
  have F:=h
  obtain⟨x,J,rfl,A,L⟩:=h
  have Q:PC R (cK (pT g) 0) [x,vn,vg,s,.int .i64 n,.int .i64 r]:=(PC.of (E:=44) (fr:=(0,0)) (w (g,.cells [x,vn,vg,s,.int .i64 n,.int .i64 r].toArray 44 (0,0)) (by simp))).add 0
  have H:RS R 4 eb x ps:=A.rs λp l=>w p (by simp[l])
  have M:=A.aw
  refine Spec.body func115 rfl results115 ntmps115 rfl ?_
  refine .sr<|.ag rfl<|.z<|.mo rfl<|.mo rfl ?_
  refine .aM (ni g vn vg s n r ps _ F id _ (B.mono λb o G=>.inl G) λp l=>.inl (w p l)) (λu I=>?_)
  obtain⟨z,rfl,D⟩:=I
  refine .ag rfl<|.zs<|.sr<|.mo rfl<|.q .lss<|.mo rfl ?_
  refine .split (t:=13) rfl (λa=>?_) (λa=>?_)
  have v:cw id (cQ ps)=none:=by
    rcases D with⟨_,h1⟩|⟨i,c,h1,_⟩
    ·exact h1
    ·have:=bx a;omega
  refine .gF a<|.gF a<|.gF a<|.gF a<|.gF a<|.gF a<|.gF a<|.gF a<|.gF a<|.gF a<|.q (.aY a) ?_
  refine .zn<|.dF<|.sr<|.az rfl ?_
  refine .ret (aL (aO rfl ?_))
  ·refine⟨?_,rfl⟩
   first
     |(rw[v];rfl)
     |(rw[j, <-m,ae5]
       have d:¬y.1.cD=e:=by simpa using h1
       rw[f.cD]at d
       rw[aeJ (by simpa using d)]
       done)
     |(rw[j, <-m,ae5]
       have d:y.1.cD=e:=by simpa using h1
       rw[f.cD]at d
       rw[aeK (by simpa using d)])
  obtain⟨i,c,rfl,k,K,j⟩:∃(i:Nat) (c:bA),z=(i:Int)/\(cQ ps)[i]? =some c/\c.id=id/\cw id (cQ ps)=some c:=by
    rcases D with⟨h1,_⟩|h1
    ·have:=bo a;omega
    ·exact h1
  obtain⟨y,C,m⟩:∃y,ps[i]? =some y/\y.2=c:=by
    simp only[cQ,List.getElem?_map]at k
    cases l:ps[i]? with
    |none=>rw[l]at k;cases k
    |some y=>rw[l]at k;simp only[ae5,Option.some.injEq]at k;exact⟨y,rfl,k⟩
  have f:=B y (bU C)
  have N:bJ (eb y):=⟨f.bG⟩
  refine .gT a<|.mo rfl<|.gT a<|.nc rfl<|.gT a<|.fa rfl<|.gT a<|.lo rfl<|.gT a<|.mo rfl<|.gT a ?_
  refine .cu i H C (λO=>?_)
  refine .gT a<|.fa rfl<|.gT a<|.lo rfl<|.gT a<|.mo rfl<|.gT a<|.q .fj<|.q (.aS a) ?_
  refine .zn ?_
  refine .cond rfl (λh1=>?_) λh1=>?_
  refine .sr<|.az rfl ?_
  refine .ret (aL (aO rfl ?_))
  ·refine⟨?_,rfl⟩
   first
     |(rw[v];rfl)
     |(rw[j, <-m,ae5]
       have d:¬y.1.cD=e:=by simpa using h1
       rw[f.cD]at d
       rw[aeJ (by simpa using d)]
       done)
     |(rw[j, <-m,ae5]
       have d:y.1.cD=e:=by simpa using h1
       rw[f.cD]at d
       rw[aeK (by simpa using d)])
  refine .kn<|.sr<|.az rfl ?_
  refine .ret (aO rfl ?_)
  ·refine⟨?_,rfl⟩
   first
     |(rw[v];rfl)
     |(rw[j, <-m,ae5]
       have d:¬y.1.cD=e:=by simpa using h1
       rw[f.cD]at d
       rw[aeJ (by simpa using d)]
       done)
     |(rw[j, <-m,ae5]
       have d:y.1.cD=e:=by simpa using h1
       rw[f.cD]at d
       rw[aeK (by simpa using d)])
theorem Mg(g:Nat)(vn vg e:Value)(c d:Int)(ps:List CP)(T:ax)(h:mC g vn vg e c d ps T)(id l:ByteArray)(R:av)(s:CL R ps)(j:∀p∈T,R p.1 p.2):
  Spec prog 102 [cK (pT g) 0,.string id,.string l] R [] λu H'=>u=.bool (kp id l (cQ ps))/\H'=[]:=by
 have B:=h
 obtain⟨m,I,rfl,r,K⟩:=h
 have Q:PC R (cK (pT g) 0) [m,vn,vg,e,.int .i64 c,.int .i64 d]:=(PC.of (E:=44) (fr:=(0,0)) (j (g,.cells [m,vn,vg,e,.int .i64 c,.int .i64 d].toArray 44 (0,0)) (by simp))).add 0
 have D:RS R 4 eb m ps:=r.rs λp f=>j p (by simp[f])
 have L:=r.aw
 refine Spec.body func102 rfl results102 ntmps102 rfl ?_
 refine .sr<|.ag rfl<|.z<|.mo rfl<|.mo rfl ?_
 refine .aM (ni g vn vg e c d ps _ B id _ (s.mono λb o C=>.inl C) λp f=>.inl (j p f)) (λu k=>?_)
 obtain⟨z,rfl,A⟩:=k
 refine .ag rfl<|.z<|.mo rfl<|.q .geq<|.mo rfl ?_
 refine .split (t:=13) rfl (λa=>?_) (λa=>?_)
 obtain⟨i,y,rfl,F,n,J,v⟩:=qJ (g:=g) s A (by have:=bx a;omega)
 have N:bJ (eb y):=⟨n.bG⟩
 obtain⟨⟨S,V,H,U⟩,G⟩:=y
 have x:=n.u
 have M:=x.aw
 refine .gT a<|.mo rfl<|.gT a<|.nc rfl<|.gT a<|.fa rfl<|.gT a<|.lo rfl<|.gT a<|.mo rfl<|.gT a ?_
 refine .cu i D F (λO=>?_)
 refine .gT a<|.fa rfl<|.gT a<|.lo rfl<|.gT a<|.mo rfl<|.gT a ?_
 refine .aM (nG H G.cm l _ x.rx) (λu k=>?_)
 subst k
 refine .q (.aY a) ?_
 refine .az rfl ?_
 refine .ret (aO rfl ?_)
 ·refine⟨?_,rfl⟩
  first
   |(unfold kp;rw[v];rfl)
   |(unfold kp;rw[w];simp[bA.zero])
 have w:=qI A (by have:=bo a;omega)
 refine .gF a<|.gF a<|.gF a<|.gF a<|.gF a<|.gF a<|.gF a<|.gF a<|.gF a<|.gF a<|.q (.aS a) ?_
 refine .az rfl ?_
 refine .ret (aO rfl ?_)
 ·refine⟨?_,rfl⟩
  first
   |(unfold kp;rw[v];rfl)
   |(unfold kp;rw[w];simp[bA.zero])
theorem xq(g:Nat)(vn vg B:Value)(r v:Int)(ps:List CP)(T:ax)(h:mC g vn vg B r v ps T)(id:ByteArray)(w:Value)(l:List ByteArray)(R:av)(O:CL R ps)(K:∀p∈T,R p.1 p.2)(f:RS R 1 bB w l):
  Spec prog 99 [cK (pT g) 0,.string id,w] R [] λu H'=>u=.bool (eL id l (cQ ps))/\H'=[]:=by
 have D:=h
 have a6:=f.le
 obtain⟨M,Tt,rfl,N,hl⟩:=h
 have pq:PC R (cK (pT g) 0) [M,vn,vg,B,.int .i64 r,.int .i64 v]:=(PC.of (E:=44) (fr:=(0,0)) (K (g,.cells [M,vn,vg,B,.int .i64 r,.int .i64 v].toArray 44 (0,0)) (by simp))).add 0
 have hs:RS R 4 eb M ps:=N.rs λp J=>K p (by simp[J])
 have i1:=N.aw
 have i0:=f.aw
 refine Spec.body func99 rfl results99 ntmps99 rfl ?_
 refine .sr<|.ag rfl<|.z<|.mo rfl<|.mo rfl ?_
 refine .aM (ni g vn vg B r v ps _ D id _ (O.mono λb o W=>.inl W) λp J=>.inl (K p J)) (λu m=>?_)
 obtain⟨z,rfl,U⟩:=m
 refine .ag rfl<|.zs<|.sr<|.mo rfl<|.q .lss<|.mo rfl ?_
 refine .split (t:=14) rfl (λa=>?_) (λa=>?_)
 have d:eL id l (cQ ps)=false:=by
  have a3:=qI U (bx a)
  unfold eL;rw[a3];rfl
 refine .gF a<|.gF a<|.gF a<|.q (.aY a) ?_
 refine .mo rfl<|.gX<|.gX<|.q .ca<|.zn<|.dF ?_
 first|have d:=ru (id:=id) (A:=cQ ps) j|skip
 refine .sr<|.az rfl ?_
 refine .ret (aL (aO rfl ?_))
 ·exact⟨by rw[d],rfl⟩
 obtain⟨i,y,rfl,hy,C,a4,Q⟩:=qJ (g:=g) O U (bo a)
 have iy:bJ (eb y):=⟨C.bG⟩
 obtain⟨⟨a9,b0,yu,ys⟩,n⟩:=y
 have S:=C.s
 have i2:=S.aw
 have i3:=C.u.aw
 refine .gT a<|.mo rfl<|.gT a<|.q (.dl f) ?_
 refine .gT a<|.q .bS<|.q (.aS a) ?_
 refine .mo rfl ?_
 refine .split (t:=19) rfl (λe=>?_) (λe=>?_)
 have d:eL id l (cQ ps)=false:=by
  have a5:l.length=0:=by simpa using e
  have D:decide (0<l.length)=false:=ae6 (by omega)
  unfold eL
  rw[D,ae7,ae4]
 refine .gF e<|.gF e<|.q (.aY e) ?_
 refine .zn<|.dF ?_
 first|have d:=ru (id:=id) (A:=cQ ps) j|skip
 refine .sr<|.az rfl ?_
 refine .ret (aL (aO rfl ?_))
 ·exact⟨by rw[d],rfl⟩
 refine .gT e<|.mo rfl<|.gT e ?_
 refine .aM (td w l _ f.rx) (λu m=>?_)
 subst m
 refine .q (.aS e) ?_
 refine .zn ?_
 refine .cond rfl (λj=>?_) λj=>?_
 first|have d:=ru (id:=id) (A:=cQ ps) j|skip
 refine .sr<|.az rfl ?_
 refine .ret (aL (aO rfl ?_))
 ·exact⟨by rw[d],rfl⟩
 have a0:0<l.length:=by
  have:¬l.length=0:=by simpa using e
  omega
 have a2:decide l.Nodup=true:=by
  have V:(!decide l.Nodup)=false:=j
  simpa using V
 refine .kn<|.seq<|.sr<|.az rfl<|.block ?_
 refine .loop (X:=Nat) (λk=>k<=l.length/\(l.take k).all (λs=>decide (s∈n.scopes))=true) (λk=>[(0,cK (pT g) 0),(2,w),(7,iN i),(8,iN k)]) (λ_=>[]) (λk=>l.length-k) 0 ⟨by omega,rfl⟩ kE.c.c.c.c rH ?_
 rintro k ⟨hk,I⟩
 refine .seq<|.sr<|.mo rfl<|.mo rfl<|.q (.dl f) ?_
 refine .q .lss<|.zn ?_
 refine .cond rfl (λF=>?_) λF=>?_
 have a1:k<l.length:=dQ F
 obtain⟨x,L⟩:=dN a1
 refine .kn<|.seq<|.block<|.seq ?_
 refine .df 12 mixed (by kernel_rfl) ?_
 conv=>arg 6;dsimp only[List.take]
 refine .mo rfl<|.nc rfl<|.fa rfl<|.lo rfl<|.mo rfl ?_
 refine .cu i hs hy (λa7=>?_)
 refine .fa rfl<|.lo rfl<|.mo rfl<|.mo rfl ?_
 refine .cu k f L (λa8=>?_)
 refine .lo rfl<|.nil ?_
 refine .aM (nG ys n.scopes x _ S.rx) (λu m=>?_)
 subst m
 refine .q .not<|.zn ?_
 refine .cond rfl (λG=>?_) λG=>?_
 have d:eL id l (cQ ps)=false:=by
  have H:(!decide (x∈n.scopes))=true:=G
  have Y:l.all (λs=>decide (s∈n.scopes))=false:=List.all_eq_false.2 ⟨x,bU L,by simpa using H⟩
  unfold eL
  rw[Q]
  simp only[afk,Y,ae4]
 refine .sr<|.az rfl ?_
 refine .ret (br (aL (dn (br (aL (aO rfl ?_))))))
 ·exact⟨by rw[d],rfl⟩
 refine .skip<|bz<|aD<|.region<|.mo rfl ?_
 refine .ia (k+1) .add ?_
 refine .ag rfl<|.nil ?_
 ·exact bf (k+1) ⟨by omega,by
   rw[ae1,L,List.all_append,I]
   have H:(!decide (x∈n.scopes))=false:=G
   simpa using H⟩ (by omega) kE.c.c.c.c rH
 have d:eL id l (cQ ps)=true:=by
  have Z:k=l.length:=by have:=bo F;omega
  rw[Z,aeM]at I
  unfold eL
  rw[Q,aeR a0,a2]
  simp only[afk,I];rfl
 refine .exit<|bD<|bH<|bF<|aD<|.sr<|.az rfl ?_
 refine .ret (aO rfl ?_)
 ·exact⟨by rw[d],rfl⟩
theorem Me(g:Nat)(vn vg j:Value)(d f:Int)(ps:List CP)(T:ax)(h:mC g vn vg j d f ps T)(r:CR)(c:bA)(R:av)(H:eV R r c)(hf:c.fits)(a1:CL R ps):
    Spec prog 31 [cK (pT g) 0,.agg r.cells.toArray] R [T] λu H'=>∃T',H'=[T']/\u=.int .i64 (dT (cQ ps) c).1/\mC g vn vg j d f (if(dT (cQ ps) c).1=0 then nq (r,c) ps else ps) T':=by
  have L:=h
  obtain⟨v,D,rfl,G,hl⟩:=h
  have ir:bJ r.cells:=⟨H.bG⟩
  have i1:=G.aw
  have a5:(cQ ps).length=ps.length:=by simp[cQ]
  refine Spec.dg (H':=[bl g [v,vn,vg,j,.int .i64 d,.int .i64 f] 44,D,[]]) (by simp) ?_
  have pq:PS (bl g [v,vn,vg,j,.int .i64 d,.int .i64 f] 44) (cK (pT g) 0) [v,vn,vg,j,.int .i64 d,.int .i64 f]:=⟨((PS.of (E:=44) (fr:=(0,0)) (by simp)).h).add 0⟩
  refine Spec.body func31 rfl results31 ntmps31 rfl ?_
  refine .sr ?_
  refine .dv rfl (λK=>?_)
  refine .ag rfl<|.z<|.q (.bK rfl) ?_
  refine .aM (MD r c _ (H.mono λb o Z=>.inl Z) hf) (λu hu=>?_)
  subst hu
  refine .ag rfl<|.zs<|.sr<|.mo rfl<|.q .dL<|.zn ?_
  refine .cond rfl (λS=>?_) λS=>?_
  refine .sr<|.mo rfl<|.az rfl ?_
  refine .ret (aL (aR _ (.one (.tmp rfl)) ((aI [1,1]).trans (aT.bu (H':=[(g,.cells [v,vn,vg,j,.int .i64 d,.int .i64 f].toArray 44 (0,0))::D]) (by simp[take,aZ]))) ?_))
  ·have a8:c.check≠0:=by simpa using S
   have e:=zx (A:=cQ ps) a8
   exact⟨_,rfl,by rw[e],by rw[e,aeJ a8];exact L⟩
  have a0:c.check=0:=by simpa using S
  refine .kn<|.seq<|.sr<|.mo rfl<|.fa rfl<|.lo rfl ?_
  refine .aM (ni g vn vg j d f ps _ L r.id _ (a1.mono λb o Z=>.inl Z) λp hp=>.inr (by
    rcases aeL.1 hp with rfl|hp
    ·simp
    ·simp[hp])) (λu hu=>?_)
  obtain⟨z,rfl,hz⟩:=hu
  rw[H.id]at hz
  refine .q .geq<|.zn ?_
  refine .cond rfl (λU=>?_) λU=>?_
  refine .sr<|.az rfl ?_
  refine .ret (aL (aR _ (.one (.tmp rfl)) ((aI [1,1]).trans (aT.bu (H':=[(g,.cells [v,vn,vg,j,.int .i64 d,.int .i64 f].toArray 44 (0,0))::D]) (by simp[take,aZ]))) ?_))
  ·have e:(dT (cQ ps) c).1=10:=by
      obtain⟨i,y,_,_,_,_,hg⟩:=qJ (g:=g) a1 hz (by have:=bx U;omega)
      exact zD a0 hg
   exact⟨_,rfl,by rw[e],by rw[e,aeJ (by omega)];exact L⟩
  have a9:cw c.id (cQ ps)=none:=qI hz (by have:=bo U;omega)
  refine .kn<|.seq<|.sr<|.mo rfl<|.nc rfl<|.fa rfl<|.lo rfl<|.q (.ec G) ?_
  refine .q .geq<|.zn ?_
  refine .cond rfl (λV=>?_) λV=>?_
  refine .sr<|.az rfl ?_
  refine .ret (aL (aR _ (.one (.tmp rfl)) ((aI [1,1]).trans (aT.bu (H':=[(g,.cells [v,vn,vg,j,.int .i64 d,.int .i64 f].toArray 44 (0,0))::D]) (by simp[take,aZ]))) ?_))
  ·have e:=zy a0 a9 (by rw[a5];have:=bx V;omega)
   exact⟨_,rfl,by rw[e],by rw[e,aeJ (by omega)];exact L⟩
  have b5:ps.length<64:=by have:=bo V;omega
  have N:=zA a0 a9 (by rw[a5];omega)
  refine .kn<|.sr<|.ag rfl<|.z<|.ag rfl<|.zs<|.sr<|.az rfl<|.block ?_
  refine .loop (X:=Nat×Value×ax) (λy=>y.1<=ps.length/\OS 25 4 eb y.2.1 (cU (aA fV) (r,c) (ps.take y.1)) y.2.2) (λy=>[(0,cK (pT g) 0),(3,pT K),(6,y.2.1),(7,.bool ((ps.take y.1).any (aA fV (r,c)))),(8,iN y.1)]) (λy=>[bl K r.cells 25,bl g [v,vn,vg,j,.int .i64 d,.int .i64 f] 44,D,y.2.2]) (λy=>ps.length-y.1) (0,sZ,[]) ⟨ae3 _,OS.nil⟩ kE.c.c.c.c.c rH ?_
  rintro⟨k,J,F⟩ ⟨hk,n⟩
  simp only at hk n⊢
  have i4:=n.aw
  have a7:=lK (lt:=aA fV) (p:=((r,c):CP)) (X:=ps.take k)
  rw[ae9,aff hk]at a7
  refine .seq<|.sr<|.mo rfl<|.mo rfl<|.nc rfl<|.fa rfl<|.lo rfl<|.q (.ec G) ?_
  refine .q .lss<|.zn ?_
  refine .cond rfl (λW=>?_) λW=>?_
  have a6:k<ps.length:=dQ W
  obtain⟨x,s⟩:=dN a6
  have cx:=a1 x (bU s)
  have ix:bJ (eb x):=⟨cx.bG⟩
  have e4:=oT (lt:=aA fV) (p:=((r,c):CP)) s
  refine .kn<|.seq<|.block<|.seq ?_
  refine bQ.cut (X:=Value×ax) (λz=>OS 25 4 eb z.1 (jh (aA fV) (r,c) (ps.take k) x) z.2) (λz=>[(0,cK (pT g) 0),(3,pT K),(6,z.1),(7,.bool ((ps.take (k+1)).any (aA fV (r,c)))),(8,iN k)]) (λz=>[bl K r.cells 25,bl g [v,vn,vg,j,.int .i64 d,.int .i64 f] 44,D,z.2]) ?_ ?_
  refine .seq ?_
  refine .iQ mixed (by kernel_rfl) ?_
  refine .mo rfl<|.q .not<|.mo rfl ?_
  refine .split (t:=36) rfl (λa=>?_) (λa=>?_)
  refine .gT a<|.fa rfl<|.gT a<|.lo rfl<|.gT a<|.mo rfl<|.gT a ?_
  refine .nc rfl<|.gT a<|.fa rfl<|.gT a<|.lo rfl<|.gT a<|.mo rfl<|.gT a ?_
  refine .bb k G s (λb6=>?_)
  refine .gT a<|.fa rfl<|.gT a<|.lo rfl<|.gT a<|.q .m9<|.q (.aY a) ?_
  refine .zn ?_
  refine .cond rfl (λM=>?_) λM=>?_
  first|have a2:=mI s a ((mM (r,c) x).trans M)|skip
  refine .sr<|.mo rfl<|.q (.bK rfl) ?_
  refine .fP (λb1=>?_)
  refine .append n (RS.lits (xs:=[((r,c):CP)]) rfl (by simp[eb,CR.cells]) (by have:=H.bG;simpa[eb]using this)) (by simp;omega) (λC w B=>?_)
  refine .az rfl<|.region<|.ag rfl<|.nil ?_
  ·first
      |(obtain⟨m,l⟩:=a2
        exact aB (C,w) (by simp only;rw[m];exact B) (by simp only;rw[l];exact kE.c.c.c.c.c) (aI [1,1,1,1]))
      |(obtain⟨m,l⟩:=I
        exact aB (J,F) (by simp only;rw[m];simpa using n) (by simp only;rw[l];exact kE.c.c.c.c.c) rH)
  first|have I:=im (p:=((r,c):CP)) s (.inr ((mM (r,c) x).trans M))|skip
  refine .skip ?_
  ·first
      |(obtain⟨m,l⟩:=a2
        exact aB (C,w) (by simp only;rw[m];exact B) (by simp only;rw[l];exact kE.c.c.c.c.c) (aI [1,1,1,1]))
      |(obtain⟨m,l⟩:=I
        exact aB (J,F) (by simp only;rw[m];simpa using n) (by simp only;rw[l];exact kE.c.c.c.c.c) rH)
  have I:=im (p:=((r,c):CP)) s (.inl a)
  refine .gF a<|.gF a<|.gF a<|.gF a<|.gF a<|.gF a<|.gF a<|.gF a<|.gF a<|.gF a<|.gF a<|.q (.aS a) ?_
  refine .zn<|.bZ ?_
  first|have I:=im (p:=((r,c):CP)) s (.inr ((mM (r,c) x).trans M))|skip
  refine .skip ?_
  ·first
      |(obtain⟨m,l⟩:=a2
        exact aB (C,w) (by simp only;rw[m];exact B) (by simp only;rw[l];exact kE.c.c.c.c.c) (aI [1,1,1,1]))
      |(obtain⟨m,l⟩:=I
        exact aB (J,F) (by simp only;rw[m];simpa using n) (by simp only;rw[l];exact kE.c.c.c.c.c) rH)
  intro y hy
  obtain⟨vm,Tm⟩:=y
  have a3:OS 25 4 eb vm (jh (aA fV) (r,c) (ps.take k) x) Tm:=hy
  have i6:=a3.aw
  simp only
  refine aD<|.region<|.mo rfl<|.mo rfl<|.nc rfl<|.fa rfl<|.lo rfl<|.mo rfl ?_
  refine .bb k G s (λb7=>?_)
  refine .q (.bK rfl) ?_
  refine .fP (λb2=>?_)
  refine .append a3 (RS.lits (xs:=[x]) rfl (by simp[eb,CR.cells]) (by have:=cx.bG;simpa[eb]using this)) (by have:=lK (lt:=aA fV) (p:=((r,c):CP)) (X:=ps.take (k+1));rw[<-e4]at this;simp at this⊢;omega) (λv7 T7 a4=>?_)
  rw[e4]at a4
  refine .ag rfl<|.nil<|bz<|aD<|.region<|.mo rfl ?_
  refine .ia (k+1) .add ?_
  refine .ag rfl<|.nil ?_
  ·exact bf (k+1,v7,T7) ⟨a6,a4⟩ (by simp only;omega) kE.c.c.c.c.c (aI [1,1,1,1])
  have b0:k=ps.length:=by have:=bo W;omega
  subst b0
  rw[aeM]at n a7⊢
  refine .exit<|bD<|bH<|bF<|aD<|.seq<|.sr<|.mo rfl<|.q .not<|.zn ?_
  refine .cond rfl (λY=>?_) λY=>?_
  refine .region<|.mo rfl<|.q (.bK rfl) ?_
  refine .fP (λb4=>?_)
  refine .append n (RS.lits (xs:=[((r,c):CP)]) rfl (by simp[eb,CR.cells]) (by have:=H.bG;simpa[eb]using this)) (by simp;omega) (λC w B=>?_)
  have i5:=B.aw
  refine .ag rfl<|.z<|.mo rfl<|.mo rfl<|.nc rfl<|.fa rfl<|.cJ rfl rfl<|.z<|.az rfl ?_
  refine .ret (aR _ (.one (.tmp rfl)) ((aI [2,3]).trans (aT.bu (H':=[(g,.cells [C,vn,vg,j,.int .i64 d,.int .i64 f].toArray 44 (0,0))::w]) (by simp[take,aZ,cc]))) ?_)
  ·have O:ps.any (aA fV (r,c))=false:=by simpa using Y
   refine⟨_,rfl,by rw[N],?_⟩
   rw[N,aeK rfl]
   refine⟨C,w,rfl,?_,by rw[dX];omega⟩
   have Q:cU (aA fV) (r,c) ps=ps:=by unfold cU;rw[O];rfl
   rw[Q]at B
   show OS 25 4 eb C (dh (aA fV) (r,c) ps) w
   rw[jR O];exact B
  refine .kn<|.sr<|.mo rfl<|.mo rfl<|.nc rfl<|.fa rfl<|.cJ rfl rfl<|.z<|.az rfl ?_
  refine .ret (aR _ (.one (.tmp rfl)) ((aI [1,2]).trans (aT.bu (H':=[(g,.cells [J,vn,vg,j,.int .i64 d,.int .i64 f].toArray 44 (0,0))::F]) (by simp[take,aZ,cc]))) ?_)
  ·have O:ps.any (aA fV (r,c))=true:=by simpa using Y
   refine⟨_,rfl,by rw[N],?_⟩
   rw[N,aeK rfl]
   refine⟨J,F,rfl,?_,by rw[dX];omega⟩
   have Q:cU (aA fV) (r,c) ps=dh (aA fV) (r,c) ps:=by unfold cU;rw[O];rfl
   rw[Q]at n;exact n
theorem Mh(g:Nat)(vn vg d:Value)(a c:Int)(ps:List CP)(T:ax)(h:mC g vn vg d a c ps T)(id:ByteArray)(R:av)(w:CL R ps)(J:((cQ ps).map (·.id)).Nodup):
  Spec prog 95 [cK (pT g) 0,.string id] R [T] λu H'=>∃T',H'=[T']/\u=.int .i64 (if(cw id (cQ ps)).isSome then 0 else 11)/\mC g vn vg d a c (lO id ps) T':=by
 have s:=h
 obtain⟨j,e,rfl,t,I⟩:=h
 have S:=t.aw
 refine Spec.dg (H':=[bl g [j,vn,vg,d,.int .i64 a,.int .i64 c] 44,e,[]]) (by simp) ?_
 have W:PS (bl g [j,vn,vg,d,.int .i64 a,.int .i64 c] 44) (cK (pT g) 0) [j,vn,vg,d,.int .i64 a,.int .i64 c]:=⟨((PS.of (E:=44) (fr:=(0,0)) (by simp)).h).add 0⟩
 have x:=t.sg
 refine Spec.body func95 rfl results95 ntmps95 rfl ?_
 refine .sr<|.ag rfl<|.z<|.mo rfl<|.mo rfl ?_
 refine .aM (ni g vn vg d a c ps _ s id _ (w.mono λb o f=>.inl f) λp hp=>.inr (by
  rcases aeL.1 hp with rfl|hp
  ·simp
  ·simp[hp])) (λu K=>?_)
 obtain⟨z,rfl,B⟩:=K
 refine .ag rfl<|.zs<|.sr<|.mo rfl<|.q .lss<|.zn ?_
 refine .cond rfl (λk=>?_) λk=>?_
 have n:=qI B (bx k)
 refine .sr<|.az rfl ?_
 refine .ret (aL (aR _ (.one (.tmp rfl)) (aT.bu (H':=[(g,.cells [j,vn,vg,d,.int .i64 a,.int .i64 c].toArray 44 (0,0))::e]) (by simp)) ?_))
 ·refine⟨_,rfl,by rw[n];rfl,?_⟩
  have:lO id ps=ps:=ae2.2 λp hp=>by
   unfold cw at n
   have:=afl.1 n p.2 (aeN.2 ⟨p,hp,rfl⟩)
   simpa using this
  rw[this];exact s
 obtain⟨i,y,rfl,A,O,H,G⟩:=qJ (g:=g) w B (bo k)
 have Q:=(afc.1 A).1
 refine .kn<|.sr<|.ag rfl<|.z<|.mo rfl<|.mo rfl<|.nc rfl<|.fa rfl<|.lo rfl<|.mo rfl ?_
 refine .jW (R':=sg e) 0 i x rfl ⟨_,rfl⟩ (by omega) (by omega) (λX L=>?_)
 refine .append (OS.nil (E:=25) (sz:=4) (enc:=eb)) (L.mono λb o f=>.inr (by have m:(b,o)∈e:=f;simp[m])) (by simp;omega) (λY N v=>?_)
 have U:=v.aw
 refine .ag rfl<|.z<|.mo rfl<|.mo rfl<|.mo rfl<|.nc rfl<|.fa rfl<|.lo rfl<|.mo rfl ?_
 refine .ia (i+1) .add ?_
 refine .jW (R':=sg e) (i+1) ps.length x ⟨_,rfl⟩ rfl (by omega) (by omega) (λZ M=>?_)
 refine .append v (M.mono λb o f=>.inr (by have m:(b,o)∈e:=f;simp[m])) (by simp;omega) (λC r l=>?_)
 have V:=l.aw
 refine .nc rfl<|.fa rfl<|.cJ rfl rfl<|.z<|.az rfl ?_
 refine .ret (aR _ (.one (.tmp rfl)) ((aI [0,1]).trans (aT.bu (H':=[(g,.cells [C,vn,vg,d,.int .i64 a,.int .i64 c].toArray 44 (0,0))::r]) (by simp[take,aZ,cc]))) ?_)
 ·refine⟨_,rfl,by rw[G];rfl,C,r,rfl,?_,aeP (aeQ _ _) I⟩
  rw[ME J A H]
  have D:(ps.drop 0).take (i-0)=ps.take i:=by simp
  have F:(ps.drop (i+1)).take (ps.length-(i+1))=ps.drop (i+1):=afg (by simp)
  rw[D,F]at l
  exact l
def np(xb:Nat)(vr vn vv:Value)(ls tm:Int)(ps:List GP)(T:ax):Prop:=∃vt Tt,T=(xb,.cells [vr,vn,vt,vv,.int .i64 ls,.int .i64 tm].toArray 44 (0,0))::Tt/\OS 121 9 bO vt ps Tt/\ps.length<=1000
theorem L8{xb:Nat}{vr vn a b l t:Value}{T:ax}(h:(xb,Obj.cells [vr,vn,a,b,l,t].toArray 44 (0,0))∈T):PS T (cK (pT xb) 1) [vn,a,b,l,t]:=
 ⟨((PS.of (E:=44) (fr:=(0,0)) h).h).add 1⟩
def mY(k:ByteArray)(ps:List GP)(z:Int):Prop:=(z= -1/\aU k (fp (eP ps))=none)\/∃(i:Nat) (w:Value) (t:bL),z=(i:Int)/\ps[i]? =some (w,t)/\t.text=k/\aU k (fp (eP ps))=some t
theorem sC(xb:Nat)(vn A:Value)(x y:Int)(l:Value)(ps:List GP)(k:ByteArray)(R:av){RD:av} [G:PC R (cK (pT xb) 1) [vn,l,A,.int .i64 x,.int .i64 y]](b:RS R 9 bO l ps)(r:∀p∈ps,dq RD p):
  Spec prog 109 [cK (pT xb) 1,.string k] R [] λu H'=>(∃z,u=.int .i64 z/\mY k ps z)/\H'=[]:=by
 have D:=b.aw
 have C:=b.le
 refine Spec.body func109 rfl results109 ntmps109 rfl ?_
 refine .sr<|.ag rfl<|.zs<|.sr<|.az rfl<|.block ?_
 refine .loop (X:=Nat) (λi=>i<=ps.length/\aU k (fp (eP (ps.take i)))=none) (λi=>[(0,cK (pT xb) 1),(1,.string k),(5,iN i)]) (λ_=>[]) (λi=>ps.length-i) 0 ⟨by omega,rfl⟩ kE.c.c.c rH ?_
 rintro i ⟨B,a⟩
 refine .seq<|.sr<|.mo rfl<|.mo rfl<|.nc rfl<|.fa rfl<|.lo rfl<|.q (.dl b) ?_
 refine .q .lss<|.zn ?_
 refine .cond rfl (λf=>?_) λf=>?_
 have v:i<ps.length:=dQ f
 obtain⟨⟨w,t⟩,d⟩:=dN v
 have m:=r _ (bU d)
 have E:bJ (bO (w,t)):=⟨m.bG⟩
 have j:fp (eP (ps.take (i+1)))=fp (eP (ps.take i))++[(t.text,t)]:=by rw[ae1,d];simp[fp]
 refine .kn<|.seq<|.block<|.sr<|.mo rfl<|.nc rfl<|.fa rfl<|.lo rfl<|.mo rfl ?_
 refine .cu i b d (λF=>?_)
 refine .fa rfl<|.lo rfl<|.mo rfl<|.q .ek<|.zn ?_
 refine .cond rfl (λg=>?_) λg=>?_
 refine .sr<|.mo rfl<|.az rfl ?_
 refine .ret (br (aL (dn (br (aL (aO rfl ?_))))))
 ·have h:t.text=k:=bx g
  refine⟨⟨_,rfl,.inr ⟨i,w,t,rfl,d,h,?_⟩⟩,rfl⟩
  have e:ps=ps.take (i+1)++ps.drop (i+1):=(afe _ _).symm
  have n:fp (eP ps)=fp (eP (ps.take (i+1)))++fp (eP (ps.drop (i+1))):=by
   conv=>lhs;rw[e]
   simp[fp]
  rw[n,lr,j,lr,a]
  simp[aU,h]
 refine .skip<|bz<|aD<|.region<|.mo rfl ?_
 refine .ia (i+1) .add ?_
 refine .ag rfl<|.nil ?_
 ·exact bf (i+1) ⟨by omega,by
   have o:¬t.text=k:=bo g
   rw[j,lr,a]
   simp only[aU,aeJ (λe:k=t.text=>o e.symm)];rfl⟩ (by omega) kE.c.c.c rH
 refine .exit<|bD<|bH<|bF<|aD<|.sr<|.az rfl ?_
 refine .ret (aO rfl ?_)
 ·have s:i=ps.length:=by have:=bo f;omega
  rw[s,aeM]at a
  exact⟨⟨_,rfl,.inl ⟨rfl,a⟩⟩,rfl⟩
theorem mY.neg{k:ByteArray}{ps:List GP}{z:Int}(h:mY k ps z)(b:z<0):aU k (fp (eP ps))=none:=by
 rcases h with⟨_,a⟩|⟨i,w,t,a,_⟩
 ·exact a
 ·omega
theorem mY.pos{k:ByteArray}{ps:List GP}{z:Int}(h:mY k ps z)(a:¬z<0):∃(i:Nat) (w:Value) (t:bL),z=(i:Int)/\ps[i]? =some (w,t)/\t.text=k/\aU k (fp (eP ps))=some t:=by
 rcases h with⟨h1,_⟩|h1
 ·omega
 ·exact h1
theorem vk{ps:List GP}{i:Nat}{z:GP}(q:bL->Bool)(a:ps[i]? =some z):((ps.take (i+1)).filter λp=>q p.2)=((ps.take i).filter λp=>q p.2)++if q z.2 then [z]else []:=by
 rw[ae1,a,afm,afn,afo,List.filter_nil]
theorem mY.at{A:List (ByteArray×bL)}{ps:List GP}(f:eZ A ps){k:ByteArray}{z:Int}(h:mY k ps z)(b:¬z<0):∃(i:Nat) (w:Value) (t:bL),z=(i:Int)/\ps[i]? =some (w,t)/\t.text=k/\aU k A=some t:=by
 obtain⟨i,w,t,c,d,e,a⟩:=h.pos b
 rw[f.get]at a
 exact⟨i,w,t,c,d,e,a⟩
theorem Mn(xb:Nat)(vr vn g:Value)(e f:Int)(ps:List GP)(T:ax)(h:np xb vr vn g e f ps T)(now:Int)(R:av){RD:av}(B:∀p∈ps,dq RD p):
  Spec prog 91 [cK (pT xb) 1,.int .i64 now] R [T] λu H'=>∃T',H'=[T']/\u=.tuple #[]/\np xb vr vn g e f (ps.filter λp=>decide (now<p.2.cq)) T':=by
 obtain⟨A,v,rfl,b,H⟩:=h
 have J:=b.aw
 have I:=b.le
 refine Spec.dg (H':=[bl xb [vr,vn,A,g,.int .i64 e,.int .i64 f] 44,v,[]]) (by simp) ?_
 refine Spec.body func91 rfl results91 ntmps91 rfl ?_
 refine .sr<|.ag rfl<|.zs<|.sr<|.az rfl<|.block ?_
 refine .loop (X:=Nat×Value×ax) (λy=>y.1<=ps.length/\OS 121 9 bO y.2.1 ((ps.take y.1).filter λp=>decide (now<p.2.cq)) y.2.2) (λy=>[(0,cK (pT xb) 1),(1,.int .i64 now),(4,y.2.1),(5,iN y.1)]) (λy=>[bl xb [vr,vn,A,g,.int .i64 e,.int .i64 f] 44,v,y.2.2]) (λy=>ps.length-y.1) (0,sZ,[]) ⟨by omega,OS.nil⟩ kE.c.c.c.c rH ?_
 rintro⟨i,l,j⟩ ⟨C,a⟩
 simp only at C a⊢
 have K:=a.aw
 have F:((ps.take i).filter λp=>decide (now<p.2.cq)).length<=i:=aeP (aeQ _ _) (by simp;omega)
 refine .seq<|.sr<|.mo rfl<|.mo rfl<|.nc rfl<|.fa rfl<|.lo rfl<|.q (.ec b) ?_
 refine .q .lss<|.zn ?_
 refine .cond rfl (λm=>?_) λm=>?_
 have E:i<ps.length:=dQ m
 obtain⟨⟨w,t⟩,k⟩:=dN E
 have x:=B _ (bU k)
 have L:bJ (bO (w,t)):=⟨x.bG⟩
 have d:=vk (λu:bL=>decide (now<u.cq)) k
 refine .kn<|.seq<|.block<|.sr<|.mo rfl<|.nc rfl<|.fa rfl<|.lo rfl<|.mo rfl ?_
 refine .bb i b k (λM=>?_)
 refine .fa rfl<|.lo rfl<|.mo rfl<|.q .gtr<|.zn ?_
 refine .cond rfl (λn=>?_) λn=>?_
 have o:decide (now<t.cq)=true:=n
 simp only[o,aeX]at d
 refine .region<|.mo rfl<|.mo rfl<|.nc rfl<|.fa rfl<|.lo rfl<|.mo rfl ?_
 refine .bb i b k (λN=>?_)
 refine .q (.bK rfl) ?_
 refine .fP (λG=>?_)
 refine .append a (RS.lits (xs:=[((w,t):GP)]) rfl (by simp[bO]) (by have:=x.bG;simpa using this)) (by simp;omega) (λz s r=>?_)
 rw[<-d]at r
 refine .ag rfl<|.nil<|bz<|aD<|.region<|.mo rfl ?_
 refine .ia (i+1) .add ?_
 refine .ag rfl<|.nil ?_
 ·first
   |exact bf (i+1,z,s) ⟨by simp only;omega,r⟩ (by simp only;omega) kE.c.c.c.c (aI [1,1,1])
   |exact bf (i+1,l,j) ⟨by simp only;omega,by simp only;rw[d];exact a⟩ (by simp only;omega) kE.c.c.c.c rH
 have o:decide (now<t.cq)=false:=n
 simp only[o,aeU,aeV,aeY]at d
 refine .skip<|bz<|aD<|.region<|.mo rfl ?_
 refine .ia (i+1) .add ?_
 refine .ag rfl<|.nil ?_
 ·first
   |exact bf (i+1,z,s) ⟨by simp only;omega,r⟩ (by simp only;omega) kE.c.c.c.c (aI [1,1,1])
   |exact bf (i+1,l,j) ⟨by simp only;omega,by simp only;rw[d];exact a⟩ (by simp only;omega) kE.c.c.c.c rH
 have D:i=ps.length:=by have:=bo m;omega
 rw[D,aeM]at a F
 refine .exit<|bD<|bH<|bF<|aD<|.region<|.mo rfl<|.mo rfl<|.nc rfl<|.fa rfl<|.cJ rfl rfl<|.nil ?_
 refine eh _ .none ((aI [0,1]).trans (aT.bu (H':=[(xb,.cells [vr,vn,l,g,.int .i64 e,.int .i64 f].toArray 44 (0,0))::j]) (by simp[take,aZ,cc]))) ?_
 ·exact⟨_,rfl,rfl,l,j,rfl,a,by omega⟩
theorem Mm(xb:Nat)(vr vn f:Value)(b d:Int)(ps:List GP)(T:ax)(h:np xb vr vn f b d ps T)(b0:ps.length<=900)(A:List (ByteArray×bL))(l:eZ A ps)(w:Value)(t:bL)(R:av){RD:av}(ht:dq RD (w,t))(hc:∀p∈ps,dq RD p):
    Spec prog 107 [cK (pT xb) 1,.agg (bO (w,t)).toArray] R [T] λu H'=>∃T',H'=[T']/\u=.int .i64 (dr A t).1/\∃ps',np xb vr vn f b d ps' T'/\eZ (dr A t).2 ps'/\(∀p∈ps',p∈ps\/p=(w,t.fresh))/\ps'.length<=ps.length+1:=by
  have V:=h
  obtain⟨I,J,rfl,O,hl⟩:=h
  have ir:bJ (bO (w,t)):=⟨ht.bG⟩
  have a5:bJ (bO (w,t.fresh)):=⟨dq.bG (R:=RD) (p:=(w,t.fresh)) ht⟩
  have i1:=O.aw
  have b1:=l.len
  refine Spec.dg (H':=[bl xb [vr,vn,I,f,.int .i64 b,.int .i64 d] 44,J,[]]) (by simp) ?_
  refine Spec.body func107 rfl results107 ntmps107 rfl ?_
  refine .sr ?_
  refine .dv rfl (λU=>?_)
  refine .ag rfl<|.zs<|.sr<|.mo rfl<|.fa rfl<|.lo rfl ?_
  refine .aM (sC xb vn f b d I ps t.text _ O.rx hc) (λu hu=>?_)
  obtain⟨z,rfl,S⟩:=hu
  refine .q .geq<|.zn ?_
  refine .cond rfl (λM=>?_) λM=>?_
  refine .sr<|.az rfl ?_
  refine .ret (aL (aR _ (.one (.tmp rfl)) (by first|(refine(aI [1,1]).trans (aT.bu (H':=[(xb,.cells [vr,vn,I,f,.int .i64 b,.int .i64 d].toArray 44 (0,0))::J]) ?_);simp[take,aZ]<;>fail)|(refine(aI [1,2]).trans (aT.bu (H':=[(xb,.cells [vr,vn,x,f,.int .i64 b,.int .i64 d].toArray 44 (0,0))::s]) ?_);simp[take,aZ,cc]<;>fail)|(refine(aI [2,2]).trans (aT.bu (H':=[(xb,.cells [vr,vn,x,f,.int .i64 b,.int .i64 d].toArray 44 (0,0))::s]) ?_);simp[take,aZ,cc]<;>fail)|(refine(aI [1,2]).trans (aT.bu (H':=[(xb,.cells [vr,vn,r,f,.int .i64 b,.int .i64 d].toArray 44 (0,0))::n]) ?_);simp[take,aZ,cc]<;>fail)|(refine(aI [2,3]).trans (aT.bu (H':=[(xb,.cells [vr,vn,r,f,.int .i64 b,.int .i64 d].toArray 44 (0,0))::n]) ?_);simp[take,aZ,cc]<;>fail)) ?_))
  ·skip
   first
     |(obtain⟨i,w9,t9,_,_,_,D⟩:=S.pos (by have:=bx M;omega)
       rw[l.get]at D
       have e:dr A t=(22,A):=by unfold dr;rw[D];rfl
       rw[e]
       exact⟨_,rfl,rfl,ps,V,l,λp g=>.inl g,by omega⟩)
     |(have Z:=bx N
       exfalso;omega)
     |(rw[G]
       have j:ps.any (aA dU (w,t.fresh))=false:=by rw[aeS]at m;exact m
       have v:cU (aA dU) (w,t.fresh) ps=ps:=by unfold cU;rw[j];rfl
       rw[v, <-jR j]at B
       exact⟨_,rfl,rfl,dh (aA dU) (w,t.fresh) ps,⟨r,n,rfl,B,by rw[dX];omega⟩,eZ.add (t:=t.fresh) l F,λp g=>(aeL.1 (eT.mem_iff.1 g)).symm,by rw[dX];omega⟩)
     |(rw[G]
       have j:ps.any (aA dU (w,t.fresh))=true:=by rw[aeT]at m;exact m
       have v:cU (aA dU) (w,t.fresh) ps=dh (aA dU) (w,t.fresh) ps:=by unfold cU;rw[j];rfl
       rw[v]at o
       exact⟨_,rfl,rfl,dh (aA dU) (w,t.fresh) ps,⟨x,s,rfl,o,by rw[dX];omega⟩,eZ.add (t:=t.fresh) l F,λp g=>(aeL.1 (eT.mem_iff.1 g)).symm,by rw[dX];omega⟩)
  have F:aU t.text A=none:=by rw[<-l.get];exact S.neg (by have:=bo M;omega)
  refine .kn<|.seq<|.sr<|.mo rfl<|.nc rfl<|.fa rfl<|.lo rfl<|.q (.ec O) ?_
  refine .q .geq<|.zn ?_
  refine .cond rfl (λN=>?_) λN=>?_
  refine .sr<|.az rfl ?_
  refine .ret (aL (aR _ (.one (.tmp rfl)) (by first|(refine(aI [1,1]).trans (aT.bu (H':=[(xb,.cells [vr,vn,I,f,.int .i64 b,.int .i64 d].toArray 44 (0,0))::J]) ?_);simp[take,aZ]<;>fail)|(refine(aI [1,2]).trans (aT.bu (H':=[(xb,.cells [vr,vn,x,f,.int .i64 b,.int .i64 d].toArray 44 (0,0))::s]) ?_);simp[take,aZ,cc]<;>fail)|(refine(aI [2,2]).trans (aT.bu (H':=[(xb,.cells [vr,vn,x,f,.int .i64 b,.int .i64 d].toArray 44 (0,0))::s]) ?_);simp[take,aZ,cc]<;>fail)|(refine(aI [1,2]).trans (aT.bu (H':=[(xb,.cells [vr,vn,r,f,.int .i64 b,.int .i64 d].toArray 44 (0,0))::n]) ?_);simp[take,aZ,cc]<;>fail)|(refine(aI [2,3]).trans (aT.bu (H':=[(xb,.cells [vr,vn,r,f,.int .i64 b,.int .i64 d].toArray 44 (0,0))::n]) ?_);simp[take,aZ,cc]<;>fail)) ?_))
  ·skip
   first
     |(obtain⟨i,w9,t9,_,_,_,D⟩:=S.pos (by have:=bx M;omega)
       rw[l.get]at D
       have e:dr A t=(22,A):=by unfold dr;rw[D];rfl
       rw[e]
       exact⟨_,rfl,rfl,ps,V,l,λp g=>.inl g,by omega⟩)
     |(have Z:=bx N
       exfalso;omega)
     |(rw[G]
       have j:ps.any (aA dU (w,t.fresh))=false:=by rw[aeS]at m;exact m
       have v:cU (aA dU) (w,t.fresh) ps=ps:=by unfold cU;rw[j];rfl
       rw[v, <-jR j]at B
       exact⟨_,rfl,rfl,dh (aA dU) (w,t.fresh) ps,⟨r,n,rfl,B,by rw[dX];omega⟩,eZ.add (t:=t.fresh) l F,λp g=>(aeL.1 (eT.mem_iff.1 g)).symm,by rw[dX];omega⟩)
     |(rw[G]
       have j:ps.any (aA dU (w,t.fresh))=true:=by rw[aeT]at m;exact m
       have v:cU (aA dU) (w,t.fresh) ps=dh (aA dU) (w,t.fresh) ps:=by unfold cU;rw[j];rfl
       rw[v]at o
       exact⟨_,rfl,rfl,dh (aA dU) (w,t.fresh) ps,⟨x,s,rfl,o,by rw[dX];omega⟩,eZ.add (t:=t.fresh) l F,λp g=>(aeL.1 (eT.mem_iff.1 g)).symm,by rw[dX];omega⟩)
  have b2:ps.length<4096:=by have:=bo N;omega
  have G:dr A t=(0,cT t.text t.fresh A):=by unfold dr;rw[F];simp only[Option.isSome_none,aeU,aeV];rw[aeJ (by omega)]
  refine .kn<|.sr<|.fa rfl<|.cJ rfl rfl<|.z<|.ag rfl<|.z<|.ag rfl<|.zs<|.sr<|.az rfl<|.block ?_
  refine .loop (X:=Nat×Value×ax) (λy=>y.1<=ps.length/\OS 121 9 bO y.2.1 (cU (aA dU) (w,t.fresh) (ps.take y.1)) y.2.2) (λy=>[(0,cK (pT xb) 1),(3,pT U),(5,y.2.1),(6,.bool ((ps.take y.1).any (aA dU (w,t.fresh)))),(7,iN y.1)]) (λy=>[bl U (bO (w,t.fresh)) 121,bl xb [vr,vn,I,f,.int .i64 b,.int .i64 d] 44,J,y.2.2]) (λy=>ps.length-y.1) (0,sZ,[]) ⟨ae3 _,OS.nil⟩ kE.c.c.c.c.c rH ?_
  rintro⟨k,x,s⟩ ⟨hk,o⟩
  simp only at hk o⊢
  have i4:=o.aw
  have a4:=lK (lt:=aA dU) (p:=((w,t.fresh):GP)) (X:=ps.take k)
  rw[ae9,aff hk]at a4
  refine .seq<|.sr<|.mo rfl<|.mo rfl<|.nc rfl<|.fa rfl<|.lo rfl<|.q (.ec O) ?_
  refine .q .lss<|.zn ?_
  refine .cond rfl (λY=>?_) λY=>?_
  have a3:k<ps.length:=dQ Y
  obtain⟨⟨L,K⟩,H⟩:=dN a3
  have cx:=hc _ (bU H)
  have ix:bJ (bO (L,K)):=⟨cx.bG⟩
  have e4:=oT (lt:=aA dU) (p:=((w,t.fresh):GP)) H
  refine .kn<|.seq<|.block<|.seq ?_
  refine bQ.cut (X:=Value×ax) (λz=>OS 121 9 bO z.1 (jh (aA dU) (w,t.fresh) (ps.take k) (L,K)) z.2) (λz=>[(0,cK (pT xb) 1),(3,pT U),(5,z.1),(6,.bool ((ps.take (k+1)).any (aA dU (w,t.fresh)))),(7,iN k)]) (λz=>[bl U (bO (w,t.fresh)) 121,bl xb [vr,vn,I,f,.int .i64 b,.int .i64 d] 44,J,z.2]) ?_ ?_
  refine .seq ?_
  refine .iQ mixed (by kernel_rfl) ?_
  refine .mo rfl<|.q .not<|.mo rfl ?_
  refine .split (t:=31) rfl (λa=>?_) (λa=>?_)
  refine .gT a<|.fa rfl<|.gT a<|.lo rfl<|.gT a<|.mo rfl<|.gT a ?_
  refine .nc rfl<|.gT a<|.fa rfl<|.gT a<|.lo rfl<|.gT a<|.mo rfl<|.gT a ?_
  refine .bb k O H (λb4=>?_)
  refine .gT a<|.fa rfl<|.gT a<|.lo rfl<|.gT a<|.q .m9<|.q (.aY a) ?_
  refine .zn ?_
  refine .cond rfl (λW=>?_) λW=>?_
  first|have a0:=mI H a ((lp (w,t.fresh) (L,K)).trans W)|skip
  refine .sr<|.mo rfl<|.q (.bK rfl) ?_
  refine .fP (λa7=>?_)
  refine .append o (RS.lits (xs:=[((w,t.fresh):GP)]) rfl (by simp[bO]) (by have:=a5.h;simpa using this)) (by simp;omega) (λr n B=>?_)
  refine .az rfl<|.region<|.ag rfl<|.nil ?_
  ·first
      |(obtain⟨E,C⟩:=a0
        exact aB (r,n) (by simp only;rw[E];exact B) (by simp only;rw[C];exact kE.c.c.c.c.c) (aI [1,1,1,1]))
      |(obtain⟨E,C⟩:=Q
        exact aB (x,s) (by simp only;rw[E];simpa using o) (by simp only;rw[C];exact kE.c.c.c.c.c) rH)
  first|have Q:=im (p:=((w,t.fresh):GP)) H (.inr ((lp (w,t.fresh) (L,K)).trans W))|skip
  refine .skip ?_
  ·first
      |(obtain⟨E,C⟩:=a0
        exact aB (r,n) (by simp only;rw[E];exact B) (by simp only;rw[C];exact kE.c.c.c.c.c) (aI [1,1,1,1]))
      |(obtain⟨E,C⟩:=Q
        exact aB (x,s) (by simp only;rw[E];simpa using o) (by simp only;rw[C];exact kE.c.c.c.c.c) rH)
  have Q:=im (p:=((w,t.fresh):GP)) H (.inl a)
  refine .gF a<|.gF a<|.gF a<|.gF a<|.gF a<|.gF a<|.gF a<|.gF a<|.gF a<|.gF a<|.gF a<|.q (.aS a) ?_
  refine .zn<|.bZ ?_
  first|have Q:=im (p:=((w,t.fresh):GP)) H (.inr ((lp (w,t.fresh) (L,K)).trans W))|skip
  refine .skip ?_
  ·first
      |(obtain⟨E,C⟩:=a0
        exact aB (r,n) (by simp only;rw[E];exact B) (by simp only;rw[C];exact kE.c.c.c.c.c) (aI [1,1,1,1]))
      |(obtain⟨E,C⟩:=Q
        exact aB (x,s) (by simp only;rw[E];simpa using o) (by simp only;rw[C];exact kE.c.c.c.c.c) rH)
  intro y hy
  obtain⟨vm,Tm⟩:=y
  have a1:OS 121 9 bO vm (jh (aA dU) (w,t.fresh) (ps.take k) (L,K)) Tm:=hy
  have i6:=a1.aw
  simp only
  refine aD<|.region<|.mo rfl<|.mo rfl<|.nc rfl<|.fa rfl<|.lo rfl<|.mo rfl ?_
  refine .bb k O H (λb5=>?_)
  refine .q (.bK rfl) ?_
  refine .fP (λa8=>?_)
  refine .append a1 (RS.lits (xs:=[((L,K):GP)]) rfl (by simp[bO]) (by have:=cx.bG;simpa using this)) (by have:=lK (lt:=aA dU) (p:=((w,t.fresh):GP)) (X:=ps.take (k+1));rw[<-e4]at this;simp at this⊢;omega) (λv7 T7 a2=>?_)
  rw[e4]at a2
  refine .ag rfl<|.nil<|bz<|aD<|.region<|.mo rfl ?_
  refine .ia (k+1) .add ?_
  refine .ag rfl<|.nil ?_
  ·exact bf (k+1,v7,T7) ⟨a3,a2⟩ (by simp only;omega) kE.c.c.c.c.c (aI [1,1,1,1])
  have a6:k=ps.length:=by have:=bo Y;omega
  subst a6
  rw[aeM]at o a4⊢
  refine .exit<|bD<|bH<|bF<|aD<|.seq<|.sr<|.mo rfl<|.q .not<|.zn ?_
  refine .cond rfl (λm=>?_) λm=>?_
  refine .region<|.mo rfl<|.q (.bK rfl) ?_
  refine .fP (λa9=>?_)
  refine .append o (RS.lits (xs:=[((w,t.fresh):GP)]) rfl (by simp[bO]) (by have:=a5.h;simpa using this)) (by simp;omega) (λr n B=>?_)
  have i5:=B.aw
  refine .ag rfl<|.z<|.mo rfl<|.mo rfl<|.nc rfl<|.fa rfl<|.cJ rfl rfl<|.z<|.az rfl ?_
  refine .ret (aR _ (.one (.tmp rfl)) (by first|(refine(aI [1,1]).trans (aT.bu (H':=[(xb,.cells [vr,vn,I,f,.int .i64 b,.int .i64 d].toArray 44 (0,0))::J]) ?_);simp[take,aZ]<;>fail)|(refine(aI [1,2]).trans (aT.bu (H':=[(xb,.cells [vr,vn,x,f,.int .i64 b,.int .i64 d].toArray 44 (0,0))::s]) ?_);simp[take,aZ,cc]<;>fail)|(refine(aI [2,2]).trans (aT.bu (H':=[(xb,.cells [vr,vn,x,f,.int .i64 b,.int .i64 d].toArray 44 (0,0))::s]) ?_);simp[take,aZ,cc]<;>fail)|(refine(aI [1,2]).trans (aT.bu (H':=[(xb,.cells [vr,vn,r,f,.int .i64 b,.int .i64 d].toArray 44 (0,0))::n]) ?_);simp[take,aZ,cc]<;>fail)|(refine(aI [2,3]).trans (aT.bu (H':=[(xb,.cells [vr,vn,r,f,.int .i64 b,.int .i64 d].toArray 44 (0,0))::n]) ?_);simp[take,aZ,cc]<;>fail)) ?_)
  ·skip
   first
     |(obtain⟨i,w9,t9,_,_,_,D⟩:=S.pos (by have:=bx M;omega)
       rw[l.get]at D
       have e:dr A t=(22,A):=by unfold dr;rw[D];rfl
       rw[e]
       exact⟨_,rfl,rfl,ps,V,l,λp g=>.inl g,by omega⟩)
     |(have Z:=bx N
       exfalso;omega)
     |(rw[G]
       have j:ps.any (aA dU (w,t.fresh))=false:=by rw[aeS]at m;exact m
       have v:cU (aA dU) (w,t.fresh) ps=ps:=by unfold cU;rw[j];rfl
       rw[v, <-jR j]at B
       exact⟨_,rfl,rfl,dh (aA dU) (w,t.fresh) ps,⟨r,n,rfl,B,by rw[dX];omega⟩,eZ.add (t:=t.fresh) l F,λp g=>(aeL.1 (eT.mem_iff.1 g)).symm,by rw[dX];omega⟩)
     |(rw[G]
       have j:ps.any (aA dU (w,t.fresh))=true:=by rw[aeT]at m;exact m
       have v:cU (aA dU) (w,t.fresh) ps=dh (aA dU) (w,t.fresh) ps:=by unfold cU;rw[j];rfl
       rw[v]at o
       exact⟨_,rfl,rfl,dh (aA dU) (w,t.fresh) ps,⟨x,s,rfl,o,by rw[dX];omega⟩,eZ.add (t:=t.fresh) l F,λp g=>(aeL.1 (eT.mem_iff.1 g)).symm,by rw[dX];omega⟩)
  refine .kn<|.sr<|.mo rfl<|.mo rfl<|.nc rfl<|.fa rfl<|.cJ rfl rfl<|.z<|.az rfl ?_
  refine .ret (aR _ (.one (.tmp rfl)) (by first|(refine(aI [1,1]).trans (aT.bu (H':=[(xb,.cells [vr,vn,I,f,.int .i64 b,.int .i64 d].toArray 44 (0,0))::J]) ?_);simp[take,aZ]<;>fail)|(refine(aI [1,2]).trans (aT.bu (H':=[(xb,.cells [vr,vn,x,f,.int .i64 b,.int .i64 d].toArray 44 (0,0))::s]) ?_);simp[take,aZ,cc]<;>fail)|(refine(aI [2,2]).trans (aT.bu (H':=[(xb,.cells [vr,vn,x,f,.int .i64 b,.int .i64 d].toArray 44 (0,0))::s]) ?_);simp[take,aZ,cc]<;>fail)|(refine(aI [1,2]).trans (aT.bu (H':=[(xb,.cells [vr,vn,r,f,.int .i64 b,.int .i64 d].toArray 44 (0,0))::n]) ?_);simp[take,aZ,cc]<;>fail)|(refine(aI [2,3]).trans (aT.bu (H':=[(xb,.cells [vr,vn,r,f,.int .i64 b,.int .i64 d].toArray 44 (0,0))::n]) ?_);simp[take,aZ,cc]<;>fail)) ?_)
  ·skip
   first
     |(obtain⟨i,w9,t9,_,_,_,D⟩:=S.pos (by have:=bx M;omega)
       rw[l.get]at D
       have e:dr A t=(22,A):=by unfold dr;rw[D];rfl
       rw[e]
       exact⟨_,rfl,rfl,ps,V,l,λp g=>.inl g,by omega⟩)
     |(have Z:=bx N
       exfalso;omega)
     |(rw[G]
       have j:ps.any (aA dU (w,t.fresh))=false:=by rw[aeS]at m;exact m
       have v:cU (aA dU) (w,t.fresh) ps=ps:=by unfold cU;rw[j];rfl
       rw[v, <-jR j]at B
       exact⟨_,rfl,rfl,dh (aA dU) (w,t.fresh) ps,⟨r,n,rfl,B,by rw[dX];omega⟩,eZ.add (t:=t.fresh) l F,λp g=>(aeL.1 (eT.mem_iff.1 g)).symm,by rw[dX];omega⟩)
     |(rw[G]
       have j:ps.any (aA dU (w,t.fresh))=true:=by rw[aeT]at m;exact m
       have v:cU (aA dU) (w,t.fresh) ps=dh (aA dU) (w,t.fresh) ps:=by unfold cU;rw[j];rfl
       rw[v]at o
       exact⟨_,rfl,rfl,dh (aA dU) (w,t.fresh) ps,⟨x,s,rfl,o,by rw[dX];omega⟩,eZ.add (t:=t.fresh) l F,λp g=>(aeL.1 (eT.mem_iff.1 g)).symm,by rw[dX];omega⟩)
theorem nU(xb:Nat)(vr vn D:Value)(B C:Int)(ps:List GP)(T:ax)(h:np xb vr vn D B C ps T)(A:List (ByteArray×bL))(l:eZ A ps)(k aE j d:ByteArray)(now:Int)(Y:d.size<=100000)(R:av){RD:av}(m:∀p∈ps,dq RD p):
    Spec prog 112 [cK (pT xb) 1,.string k,.string aE,.string j,.string d,.int .i64 now] R [T] λu H'=>∃T',H'=[T']/\∃w ps',u=.tuple [.agg (bO (w,(bi A k aE j d now).1)).toArray,.int .i64 (bi A k aE j d now).2.1].toArray/\dq RD (w,(bi A k aE j d now).1)/\np xb vr vn D B C ps' T'/\eZ (bi A k aE j d now).2.2 ps'/\(∀p∈ps',dq RD p)/\ps'.length<=ps.length:=by
  have r:=h
  obtain⟨x,M,J,G,X⟩:=h
  have i1:=G.aw
  have px:PS T (cK (pT xb) 1) [vn,x,D,.int .i64 B,.int .i64 C]:=L8 (vr:=vr) (by rw[J];simp)
  have H:RS (sg T) 9 bO x ps:=G.rs λp hp=>by rw[J];simp[sg,hp]
  refine Spec.body func112 rfl results112 ntmps112 rfl ?_
  refine .sr ?_
  refine .cN (λZ=>?_)
  refine .ag rfl<|.z<|.mo rfl<|.mo rfl ?_
  refine .aM (sC xb vn D B C x ps k _ (H.mono λb o U=>.inr (by have V:(b,o)∈T:=U;simp[V])) m) (λu F=>?_)
  obtain⟨z,rfl,L⟩:=F
  refine .ag rfl<|.zs<|.sr<|.mo rfl<|.q .lss<|.mo rfl ?_
  refine .split (t:=21) rfl (λa=>?_) (λa=>?_)
  refine .gF a<|.gF a<|.gF a<|.gF a<|.gF a<|.gF a<|.gF a<|.gF a<|.gF a<|.gF a<|.q (.aY a) ?_
  refine .zn<|.dF<|.sr ?_
  refine .q .dI ?_
  refine .ct rfl rfl<|.az rfl ?_
  refine .ret (aL (aR _ (.two (.ey rfl rfl) (.tmp rfl)) ((aI [1])) ?_))
  ·have n:aU k A=none:=by rw[<-l.get];exact L.neg (bx a)
   have e:bi A k aE j d now=(bL.zero,18,A):=by unfold bi;rw[n]
   rw[e];exact⟨_,rfl,sZ,ps,rfl,dq.zero _,r,l,m,aeZ _⟩
  obtain⟨i,w,t,rfl,v,W,n⟩:=L.at l (bo a)
  have E:=m _ (bU v)
  have ii:bJ (bO (w,t)):=⟨E.bG⟩
  have pi:PS T (eK x (i*9)) (bO (w,t)):=⟨H.pc v⟩
  refine .gT a<|.mo rfl<|.gT a<|.nc rfl<|.gT a<|.fa rfl<|.gT a<|.lo rfl<|.gT a<|.mo rfl<|.gT a<|.q (.cu i H v rfl rfl rfl) ?_
  refine .gT a<|.fa rfl<|.gT a<|.lo rfl<|.gT a<|.mo rfl<|.gT a<|.q .fj<|.q (.aS a) ?_
  refine .zn ?_
  refine .cond rfl (λI=>?_) λI=>?_
  refine .sr ?_
  refine .q .dI ?_
  refine .ct rfl rfl<|.az rfl ?_
  refine .ret (aL (aR _ (.two (.ey rfl rfl) (.tmp rfl)) ((aI [1])) ?_))
  ·have e:bi A k aE j d now=(bL.zero,18,A):=by unfold bi;rw[n];simp only;rw[aeK (by simpa using I)]
   rw[e];exact⟨_,rfl,sZ,ps,rfl,dq.zero _,r,l,m,aeZ _⟩
  have y:¬t.aE≠aE:=by
    have N:t.aE=aE:=by simpa using I
    simp[N]
  refine .kn<|.sr<|.mo rfl<|.nc rfl<|.fa rfl<|.lo rfl<|.mo rfl<|.q (.cu i H v rfl rfl rfl) ?_
  refine .q (.bK rfl) ?_
  refine .cN (λa0=>?_)
  refine .ct rfl rfl<|.zs<|.sr<|.fa rfl<|.lo rfl<|.zn ?_
  refine .cond rfl (λs=>?_) λs=>?_
  refine .sr<|.q (.bK rfl)<|.ct rfl rfl<|.az rfl ?_
  refine .ret (aL (aR _ (.two (.ey rfl rfl) (.tmp rfl)) ((aI [2])) ?_))
  ·have e:bi A k aE j d now=(t,10,A):=by unfold bi;rw[n];simp only;rw[aeJ y,aeK s]
   rw[e];exact⟨_,rfl,w,_,rfl,E,r,l,m,aeZ _⟩
  refine .kn<|.seq<|.seq<|.cW [] mixed ?_
  refine .tO 0 rfl (.fieldAddr rfl)<|.tO 1 rfl (.bN rfl)<|.tO 2 rfl .move<|.tO 3 rfl .leq<|.tO 4 rfl .move ?_
  refine RA.split (t:=48) rfl (λc=>?_) (λc=>?_)
  refine .gg 5 rfl rfl c rfl (by kernel_rfl) ?_
  refine .gg 6 rfl rfl c rfl (by kernel_rfl) ?_
  refine .gg 7 rfl rfl c rfl (by kernel_rfl) ?_
  refine .gg 8 rfl rfl c rfl (by kernel_rfl) ?_
  refine .tO 9 rfl (.aY c) ?_
  refine .tO 10 rfl .move ?_
  refine .lA 11 rfl rfl rfl (by kernel_rfl) ?_
  refine .sT 12 rfl ?_
  refine .gX ?_
  refine .nil (Next.sub ?_)
  refine .lA 13 rfl rfl rfl (by kernel_rfl) ?_
  refine .tO 14 rfl .ca<|.tO 15 rfl .move ?_
  refine .lA 16 rfl rfl rfl (by kernel_rfl) ?_
  refine .lA 18 rfl rfl rfl (by kernel_rfl) ?_
  refine .lA 19 rfl rfl rfl (by kernel_rfl) ?_
  refine .sT 17 rfl ?_
  refine .gX ?_
  refine .nil (Next.sub ?_)
  refine .lA 20 rfl rfl rfl (by kernel_rfl) ?_
  refine .tO 21 rfl .ca ?_
  refine RA.nil (by kernel_rfl) ?_
  refine aD<|.dF<|.sr ?_
  refine .q .dI ?_
  refine .ct rfl rfl<|.az rfl ?_
  refine .ret (aL (aR _ (.two (.ey rfl rfl) (.tmp rfl)) ((aI [2])) ?_))
  ·have e:bi A k aE j d now=(bL.zero,18,A):=by
      unfold bi;rw[n];simp only;rw[aeJ y,aeJ (by rw[s];simp),aeK ?_]
      first
        |(exact .inl (bx c))
        |(exact .inr (.inl (by simpa using f)))
        |(refine .inr (.inr ?_)
          unfold lu
          simp_all)
   rw[e];exact⟨_,rfl,sZ,ps,rfl,dq.zero _,r,l,m,aeZ _⟩
  refine .cZ 5 rfl rfl c (.fieldAddr rfl) (by kernel_rfl) ?_
  refine .cZ 6 rfl rfl c (.bN rfl) (by kernel_rfl) ?_
  refine .cZ 7 rfl rfl c .move (by kernel_rfl) ?_
  refine .cZ 8 rfl rfl c .fj (by kernel_rfl) ?_
  refine .tO 9 rfl (.aS c) ?_
  refine .tO 10 rfl .move ?_
  refine RA.split (t:=54) rfl (λf=>?_) (λf=>?_)
  refine .gg 11 rfl rfl f rfl (by kernel_rfl) ?_
  refine .sT 12 rfl ?_
  refine .gF f ?_
  refine .nil (Next.sub ?_)
  refine .gg 13 rfl rfl f rfl (by kernel_rfl) ?_
  refine .tO 14 rfl (.aY f) ?_
  refine .tO 15 rfl .move ?_
  refine .lA 16 rfl rfl rfl (by kernel_rfl) ?_
  refine .lA 18 rfl rfl rfl (by kernel_rfl) ?_
  refine .lA 19 rfl rfl rfl (by kernel_rfl) ?_
  refine .sT 17 rfl ?_
  refine .gX ?_
  refine .nil (Next.sub ?_)
  refine .lA 20 rfl rfl rfl (by kernel_rfl) ?_
  refine .tO 21 rfl .ca ?_
  refine RA.nil (by kernel_rfl) ?_
  refine aD<|.dF<|.sr ?_
  refine .q .dI ?_
  refine .ct rfl rfl<|.az rfl ?_
  refine .ret (aL (aR _ (.two (.ey rfl rfl) (.tmp rfl)) ((aI [2])) ?_))
  ·have e:bi A k aE j d now=(bL.zero,18,A):=by
      unfold bi;rw[n];simp only;rw[aeJ y,aeJ (by rw[s];simp),aeK ?_]
      first
        |(exact .inl (bx c))
        |(exact .inr (.inl (by simpa using f)))
        |(refine .inr (.inr ?_)
          unfold lu
          simp_all)
   rw[e];exact⟨_,rfl,sZ,ps,rfl,dq.zero _,r,l,m,aeZ _⟩
  refine .cZ 11 rfl rfl f .move (by kernel_rfl) ?_
  refine .sT 12 rfl ?_
  refine .gT f ?_
  refine .aM (M4 d (by omega) _) (λu F=>?_)
  subst F
  refine .nil (Next.sub ?_)
  refine .cZ 13 rfl rfl f .not (by kernel_rfl) ?_
  refine .tO 14 rfl (.aS f) ?_
  refine .tO 15 rfl .move ?_
  refine RA.split (t:=59) rfl (λg=>?_) (λg=>?_)
  refine .gg 16 rfl rfl g rfl (by kernel_rfl) ?_
  refine .gg 18 rfl rfl g rfl (by kernel_rfl) ?_
  refine .gg 19 rfl rfl g rfl (by kernel_rfl) ?_
  refine .sT 17 rfl ?_
  refine .gF g ?_
  refine .nil (Next.sub ?_)
  refine .gg 20 rfl rfl g rfl (by kernel_rfl) ?_
  refine .tO 21 rfl (.aY g) ?_
  refine RA.nil (by kernel_rfl) ?_
  refine aD<|.dF<|.sr ?_
  refine .q .dI ?_
  refine .ct rfl rfl<|.az rfl ?_
  refine .ret (aL (aR _ (.two (.ey rfl rfl) (.tmp rfl)) ((aI [2])) ?_))
  ·have e:bi A k aE j d now=(bL.zero,18,A):=by
      unfold bi;rw[n];simp only;rw[aeJ y,aeJ (by rw[s];simp),aeK ?_]
      first
        |(exact .inl (bx c))
        |(exact .inr (.inl (by simpa using f)))
        |(refine .inr (.inr ?_)
          unfold lu
          simp_all)
   rw[e];exact⟨_,rfl,sZ,ps,rfl,dq.zero _,r,l,m,aeZ _⟩
  refine .cZ 16 rfl rfl g .move (by kernel_rfl) ?_
  refine .cZ 18 rfl rfl g (.fieldAddr rfl) (by kernel_rfl) ?_
  refine .cZ 19 rfl rfl g (.bN rfl) (by kernel_rfl) ?_
  refine .sT 17 rfl ?_
  refine .gT g ?_
  refine .aM (MB d Y _) (λu F=>?_)
  subst F
  refine .nil (Next.sub ?_)
  refine .cZ 20 rfl rfl g .fj (by kernel_rfl) ?_
  refine .tO 21 rfl (.aS g) ?_
  refine RA.nil (by kernel_rfl) ?_
  refine aD ?_
  refine .cond rfl (λO=>?_) λO=>?_
  refine .sr ?_
  refine .q .dI ?_
  refine .ct rfl rfl<|.az rfl ?_
  refine .ret (aL (aR _ (.two (.ey rfl rfl) (.tmp rfl)) ((aI [2])) ?_))
  ·have e:bi A k aE j d now=(bL.zero,18,A):=by
      unfold bi;rw[n];simp only;rw[aeJ y,aeJ (by rw[s];simp),aeK ?_]
      first
        |(exact .inl (bx c))
        |(exact .inr (.inl (by simpa using f)))
        |(refine .inr (.inr ?_)
          unfold lu
          simp_all)
   rw[e];exact⟨_,rfl,sZ,ps,rfl,dq.zero _,r,l,m,aeZ _⟩
  refine .kn<|.sr<|.fa rfl<|.cJ rfl rfl<|.zs ?_
  refine .df 7 mixed (by kernel_rfl) ?_
  conv=>arg 6;dsimp only[List.take]
  subst J
  refine .sub (aT.open_ (S:=[bl xb [vr,vn,x,D,.int .i64 B,.int .i64 C] 44,M]) 2 (by simp)) ?_
  show aG _ _ _ _ _ _ _ [_,_,_,_] _
  refine .mo rfl<|.nc rfl<|.fa rfl<|.lo rfl<|.mo rfl<|.q (.bK rfl) ?_
  refine .bb i G v (λa1=>?_)
  refine .nil ?_
  refine .ft i G v ((w,t.mark):GP) (λK Q=>?_) (dq.bG (R:=RD) (p:=(w,t.mark)) E)
  refine .z<|.q (.bK rfl)<|.ct rfl rfl<|.az rfl ?_
  refine .ret (aR _ (.two (.ey rfl rfl) (.tmp rfl)) ((aI [0,0]).trans (aT.bu (H':=[(xb,.cells [vr,vn,x,D,.int .i64 B,.int .i64 C].toArray 44 (0,0))::K]) (by simp[take,aZ]))) ?_)
  ·have e:bi A k aE j d now=(t.mark,0,cT k t.mark A):=by
      unfold bi;rw[n];simp only;rw[aeJ y,aeJ (by rw[s];simp),aeJ ?_]
      rintro(e|e|e)
      ·exact(bo c:¬t.cq<=now) e
      ·exact e (by simpa using f)
      ·unfold lu at e
       simp_all
   rw[e]
   refine⟨_,rfl,w,ps.set i (w,t.mark),rfl,E,⟨x,K,rfl,Q,by simpa using X⟩,W▸l.set v rfl,λp hp=>?_,by simp⟩
   rcases List.mem_or_eq_of_mem_set hp with hp|rfl
   ·exact m p hp
   ·exact E
theorem Mj(v:Value)(l:List ByteArray)(R:av){RD:av}(a3:∀b o,RD b o->R b o)(O:RS RD 1 bB v l)(s:ByteArray)(hl:l.length<=1000000000):
    Spec prog 167 [v,.string s] R [] λu H'=>∃T',H'=[T']/\RS (λb o=>RD b o\/sg T' b o) 1 bB u (eS l s):=by
  have h:RS R 1 bB v l:=O.mono a3
  have iv:=h.aw
  refine Spec.body func167 rfl results167 ntmps167 rfl ?_
  refine .sr<|.ag rfl<|.z<|.ag rfl<|.z<|.ag rfl<|.zs<|.sr<|.az rfl<|.block ?_
  refine .ml [(0,_),(1,_)] (X:=Nat×Value×ax) (λy=>y.1<=l.length/\s∉l.take y.1/\OS 9 1 bB y.2.1 (cU cp s (l.take y.1)) y.2.2) (λy E=>(7,iN y.1)::(6,.bool ((l.take y.1).any (cp s)))::(5,y.2.1)::E) (λy G=>y.2.2::G) (λy=>l.length-y.1) (0,sZ,[]) ⟨ae3 _,by simp,OS.nil⟩ kE.c.c.c.c.c aT.Ld ?_
  rintro⟨i,M,B⟩ ⟨Z,n,g⟩
  simp only at Z n g⊢
  have io:=g.aw
  have Y:(cU cp s (l.take i)).length<=l.length+1:=aeP lK (by rw[ae9];omega)
  refine .seq<|.sr<|.mo rfl<|.mo rfl<|.q (.dl h) ?_
  refine .q .lss<|.zn ?_
  refine .cond rfl (λD=>?_) λD=>?_
  have U:i<l.length:=dQ D
  obtain⟨x,j⟩:=dN U
  have N:=oT (lt:=cp) (p:=s) j
  refine .kn<|.seq<|.block<|.seq<|.sr<|.mo rfl<|.mo rfl ?_
  refine .cu i h j (λa7=>?_)
  refine .lo rfl<|.mo rfl<|.q .ek<|.zn ?_
  refine .cond rfl (λF=>?_) λF=>?_
  have K:x=s:=bx F
  have a1:eS l s=l:=by unfold eS;rw[aeK (K▸bU j)]
  refine .sr<|.mo rfl<|.az rfl ?_
  refine .ret (aL (br (aL (dn (br (aL (aR _ (.one (.tmp rfl)) (aI [0]) ?_)))))))
  ·exact⟨_,rfl,by rw[a1];exact O.mono λb o m=>.inl m⟩
  have K:¬x=s:=bo F
  have a2:s∉l.take (i+1):=by
    rw[ae1,j]
    simp only[afn,List.mem_append,List.mem_singleton,not_or]
    exact⟨n,λe=>K e.symm⟩
  refine .kn<|.seq ?_
  refine bQ.ld [(0,_),(1,_),(7,_)] kE.c.c.c (X:=Value×ax) (λz=>OS 9 1 bB z.1 (jh cp s (l.take i) x) z.2) (λz E=>(5,z.1)::(6,.bool ((l.take (i+1)).any (cp s)))::E) (λz=>[z.2]) ?_ ?_
  refine .sr<|.mo rfl<|.q .not<|.mo rfl ?_
  refine .split (t:=23) rfl (λa=>?_) (λa=>?_)
  refine .gT a<|.mo rfl<|.gT a<|.mo rfl<|.gT a<|.mo rfl<|.gT a ?_
  refine .cu i h j (λa8=>?_)
  refine .gT a<|.lo rfl<|.gT a<|.q .m9<|.q (.aY a) ?_
  refine .zn ?_
  refine .cond rfl (λw=>?_) λw=>?_
  first|have J:=mI j a w|skip
  refine .sr<|.mo rfl<|.mo rfl ?_
  refine .ig (λa4=>?_)
  refine .append g (RS.lits (xs:=[s]) rfl (by simp[bB]) (by simp[bB,aw])) (by simp only[List.length_singleton];omega) (λL A H=>?_)
  refine .az rfl<|.region<|.ag rfl<|.nil ?_
  ·first
      |(obtain⟨f,d⟩:=J
        exact aB (L,A) (by simp only;rw[f];exact H) (by simp only;rw[d];exact kE.c.c.c.c.c) (aI [1]))
      |(obtain⟨f,d⟩:=r
        exact aB (M,B) (by simp only;rw[f];simpa using g) (by simp only;rw[d];exact kE.c.c.c.c.c) rH)
  first|have r:=im (p:=s) j (.inr w)|skip
  refine .skip ?_
  ·first
      |(obtain⟨f,d⟩:=J
        exact aB (L,A) (by simp only;rw[f];exact H) (by simp only;rw[d];exact kE.c.c.c.c.c) (aI [1]))
      |(obtain⟨f,d⟩:=r
        exact aB (M,B) (by simp only;rw[f];simpa using g) (by simp only;rw[d];exact kE.c.c.c.c.c) rH)
  have r:=im (p:=s) j (.inl a)
  refine .gF a<|.gF a<|.gF a<|.gF a<|.gF a<|.gF a<|.q (.aS a) ?_
  refine .zn<|.bZ ?_
  first|have r:=im (p:=s) j (.inr w)|skip
  refine .skip ?_
  ·first
      |(obtain⟨f,d⟩:=J
        exact aB (L,A) (by simp only;rw[f];exact H) (by simp only;rw[d];exact kE.c.c.c.c.c) (aI [1]))
      |(obtain⟨f,d⟩:=r
        exact aB (M,B) (by simp only;rw[f];simpa using g) (by simp only;rw[d];exact kE.c.c.c.c.c) rH)
  intro y hy
  obtain⟨vm,W⟩:=y
  have Q:OS 9 1 bB vm (jh cp s (l.take i) x) W:=hy
  have i6:=Q.aw
  simp only
  refine aD<|.region<|.mo rfl<|.mo rfl<|.mo rfl ?_
  refine .cu i h j (λa9=>?_)
  refine .lo rfl ?_
  refine .ig (λa5=>?_)
  refine .append Q (RS.lits (xs:=[x]) rfl (by simp[bB]) (by simp[bB,aw])) (by have:=lK (lt:=cp) (p:=s) (X:=l.take (i+1));rw[<-N,ae9]at this;simp at this⊢;omega) (λv7 V S=>?_)
  rw[N]at S
  refine .ag rfl<|.nil<|bz<|aD<|.region<|.mo rfl ?_
  refine .ia (i+1) .add ?_
  refine .ag rfl<|.nil ?_
  ·exact bf (i+1,v7,V) ⟨U,a2,S⟩ (by simp only;omega) kE.c.c.c.c.c (aI [1])
  have a0:i=l.length:=by have:=bo D;omega
  subst a0
  rw[aeM]at n g Y
  rw[aeM]
  refine .exit<|bD<|bH<|bF<|aD<|.seq<|.sr<|.mo rfl<|.q .not<|.zn ?_
  refine .cond rfl (λk=>?_) λk=>?_
  refine .region<|.mo rfl<|.mo rfl ?_
  refine .ig (λa6=>?_)
  refine .append g (RS.lits (xs:=[s]) rfl (by simp[bB]) (by simp[bB,aw])) (by simp only[List.length_singleton];omega) (λv8 T8 T=>?_)
  refine .ag rfl<|.z<|.mo rfl<|.az rfl ?_
  refine .ret (aR _ (.one (.tmp rfl)) (aI [1]) ?_)
  ·refine⟨_,rfl,?_⟩
   have I:eS l s=dh cp s l:=by unfold eS;rw[aeJ n]
   rw[aeS]at k
   have C:cU cp s l=l:=by unfold cU;rw[k];rfl
   rw[C, <-jR k]at T
   rw[I]
   exact T.sg.mono λb o m=>.inr m
  refine .kn<|.sr<|.mo rfl<|.az rfl ?_
  refine .ret (aR _ (.one (.tmp rfl)) (aI [0]) ?_)
  ·refine⟨_,rfl,?_⟩
   have I:eS l s=dh cp s l:=by unfold eS;rw[aeJ n]
   rw[aeT]at k
   have C:cU cp s l=dh cp s l:=by unfold cU;rw[k];rfl
   rw[C]at g
   rw[I]
   exact g.sg.mono λb o m=>.inr m
def ou(xb:Nat)(vr vg vv:Value)(ls tm:Int)(ps:List NP)(T:ax):Prop:=∃vt Tt,T=(xb,.cells [vr,vt,vg,vv,.int .i64 ls,.int .i64 tm].toArray 44 (0,0))::Tt/\OS 117 3 ee vt ps Tt/\ps.length<=1000
theorem L9{xb:Nat}{vr vn a b l t:Value}{T:ax}(h:(xb,Obj.cells [vr,vn,a,b,l,t].toArray 44 (0,0))∈T):PS T (cK (pT xb) 1) [vn,a,b,l,t]:=
 ⟨((PS.of (E:=44) (fr:=(0,0)) h).h).add 1⟩
def oo(k:cB)(ps:List NP)(z:Int):Prop:=(z= -1/\aU k (ps.map (·.2))=none)\/∃(i:Nat) (w:Value) (l:List ByteArray),z=(i:Int)/\ps[i]? =some (w,(k,l))/\aU k (ps.map (·.2))=some l
theorem oo.neg{k:cB}{ps:List NP}{z:Int}(h:oo k ps z)(b:z<0):aU k (ps.map (·.2))=none:=by
 rcases h with⟨_,a⟩|⟨i,w,t,a,_⟩
 ·exact a
 ·omega
theorem oo.at{C:List (cB×List ByteArray)}{ps:List NP}(d:gh C ps){k:cB}{z:Int}(h:oo k ps z)(e:¬z<0):∃(i:Nat) (w:Value) (l:List ByteArray),z=(i:Int)/\ps[i]? =some (w,(k,l))/\aU k C=some l:=by
 rcases h with⟨a,_⟩|⟨i,w,l,a,b,c⟩
 ·omega
 ·exact⟨i,w,l,a,b,d.get k▸c⟩
theorem Aq{C:List (cB×List ByteArray)}{ps:List NP}(j:gh C ps){k:cB}{i:Nat}{w:Value}{l:List ByteArray}(f:ps[i]? =some (w,(k,l))):(ps.filter λp=>decide (p.2.1≠k))=ps.take i++ps.drop (i+1):=by
 have b:=j.nd
 have m:=(afc.1 f).1
 have e:ps=ps.take i++(w,(k,l))::ps.drop (i+1):=by
  have d:=afe i ps
  rw[List.drop_eq_getElem_cons m,(afc.1 f).2]at d
  exact d.symm
 generalize n:ps.take i=X at e⊢
 generalize o:ps.drop (i+1)=Y at e⊢
 rw[e]at b⊢
 rw[List.map_map,List.map_append,List.map_cons,List.nodup_append,List.nodup_cons]at b
 obtain⟨_,⟨g,_⟩,h⟩:=b
 rw[afm,afo]
 simp only[ne_eq,not_true_eq_false,decide_false,aeU,aeV]
 congr 1
 ·refine ae2.2 λp c=>aeR λa=>?_
  exact h _ (aeN.2 ⟨p,c,rfl⟩) _ (List.mem_cons_self) a
 ·refine ae2.2 λp c=>aeR λa=>?_
  exact g (aeN.2 ⟨p,c,a⟩)
theorem xw(xb:Nat)(vg C:Value)(A B:Int)(n:Value)(ps:List NP)(user aE:ByteArray)(R:av){RD:av} [L:PC R (cK (pT xb) 1) [n,vg,C,.int .i64 A,.int .i64 B]](d:RS R 3 ee n ps)(s:∀p∈ps,iE RD p):
  Spec prog 168 [cK (pT xb) 1,.string user,.string aE] R [] λu H'=>(∃z,u=.int .i64 z/\oo (user,aE) ps z)/\H'=[]:=by
 have H:=d.aw
 have G:=d.le
 refine Spec.body func168 rfl results168 ntmps168 rfl ?_
 refine .sr<|.ag rfl<|.zs<|.sr<|.az rfl<|.block ?_
 refine .loop (X:=Nat) (λi=>i<=ps.length/\aU (user,aE) ((ps.take i).map (·.2))=none) (λi=>[(0,cK (pT xb) 1),(1,.string user),(2,.string aE),(7,iN i)]) (λ_=>[]) (λi=>ps.length-i) 0 ⟨by omega,rfl⟩ kE.c.c.c.c rH ?_
 rintro i ⟨F,b⟩
 refine .seq<|.sr<|.mo rfl<|.mo rfl<|.nc rfl<|.fa rfl<|.lo rfl<|.q (.dl d) ?_
 refine .q .lss<|.zn ?_
 refine .cond rfl (λg=>?_) λg=>?_
 have y:i<ps.length:=dQ g
 obtain⟨⟨w,k,l⟩,f⟩:=dN y
 have o:=s _ (bU f)
 have I:bJ (ee (w,k,l)):=⟨o.bG⟩
 have j:(ps.take (i+1)).map (·.2)=(ps.take i).map (·.2)++[(k,l)]:=by rw[ae1,f];simp
 refine .kn<|.seq<|.block<|.sr<|.mo rfl<|.nc rfl<|.fa rfl<|.lo rfl<|.mo rfl ?_
 refine .cu i d f (λJ=>?_)
 refine .fa rfl<|.lo rfl<|.mo rfl<|.q .ek<|.mo rfl ?_
 refine .split (t:=27) rfl (λa=>?_) (λa=>?_)
 refine .gT a<|.mo rfl<|.gT a<|.nc rfl<|.gT a<|.fa rfl<|.gT a<|.lo rfl<|.gT a<|.mo rfl<|.gT a ?_
 refine .cu i d f (λK=>?_)
 refine .gT a<|.fa rfl<|.gT a<|.lo rfl<|.gT a<|.mo rfl<|.gT a<|.q .ek<|.q (.aY a) ?_
 refine .zn ?_
 refine .cond rfl (λm=>?_) λm=>?_
 refine .sr<|.mo rfl<|.az rfl ?_
 refine .ret (br (aL (dn (br (aL (aO rfl ?_))))))
 ·have v:k=(user,aE):=by
   have D:k.1=user:=by simpa using a
   have E:k.2=aE:=bx m
   cases k;simp_all
  subst v
  refine⟨⟨_,rfl,.inr ⟨i,w,l,rfl,f,?_⟩⟩,rfl⟩
  have e:ps=ps.take (i+1)++ps.drop (i+1):=(afe _ _).symm
  have r:ps.map (·.2)=(ps.take (i+1)).map (·.2)++(ps.drop (i+1)).map (·.2):=by
   conv=>lhs;rw[e]
   simp
  rw[r,lr,j,lr,b]
  simp[aU]
 refine .skip<|bz<|aD<|.region<|.mo rfl ?_
 refine .ia (i+1) .add ?_
 refine .ag rfl<|.nil ?_
 ·have h:¬(user,aE)=k:=λe=>by
   subst e
   simp_all
  exact bf (i+1) ⟨by omega,by
   rw[j,lr,b]
   simp only[aU,aeJ h];rfl⟩ (by omega) kE.c.c.c.c rH
 refine .gF a<|.gF a<|.gF a<|.gF a<|.gF a<|.gF a<|.gF a<|.gF a<|.gF a<|.gF a<|.q (.aS a) ?_
 refine .zn<|.bZ<|.skip<|bz<|aD<|.region<|.mo rfl ?_
 refine .ia (i+1) .add ?_
 refine .ag rfl<|.nil ?_
 ·have h:¬(user,aE)=k:=λe=>by
   subst e
   simp_all
  exact bf (i+1) ⟨by omega,by
   rw[j,lr,b]
   simp only[aU,aeJ h];rfl⟩ (by omega) kE.c.c.c.c rH
 refine .exit<|bD<|bH<|bF<|aD<|.sr<|.az rfl ?_
 refine .ret (aO rfl ?_)
 ·have x:i=ps.length:=by have:=bo g;omega
  rw[x,aeM]at b
  exact⟨⟨_,rfl,.inl ⟨rfl,b⟩⟩,rfl⟩
theorem xx(xb:Nat)(vr vg d:Value)(a b:Int)(ps:List NP)(T:ax)(h:ou xb vr vg d a b ps T)(C:List (cB×List ByteArray))(j:gh C ps)(user aE:ByteArray)(R:av){RD:av}(m:∀p∈ps,iE RD p)(o:∀p∈T,R p.1 p.2):
  Spec prog 105 [cK (pT xb) 1,.string user,.string aE] R [] λu H'=>RS RD 1 bB u (dD C user aE)/\H'=[]:=by
 obtain⟨c,x,rfl,k,y⟩:=h
 have A:=k.aw
 have F:PC R (cK (pT xb) 1) [c,vg,d,.int .i64 a,.int .i64 b]:=(PC.of (E:=44) (fr:=(0,0)) (o (xb,.cells [vr,c,vg,d,.int .i64 a,.int .i64 b].toArray 44 (0,0)) (by simp))).add 1
 have r:RS R 3 ee c ps:=k.rs λp t=>o p (by simp[t])
 refine Spec.body func105 rfl results105 ntmps105 rfl ?_
 refine .sr<|.ag rfl<|.z<|.mo rfl<|.mo rfl<|.mo rfl ?_
 refine .aM (xw xb vg d a b c ps user aE _ r.rx m) (λu v=>?_)
 obtain⟨z,rfl,s⟩:=v
 refine .ag rfl<|.zs<|.sr<|.mo rfl<|.q .lss<|.zn ?_
 refine .cond rfl (λe=>?_) λe=>?_
 refine .sr<|.az rfl ?_
 refine .ret (aL (aO rfl ?_))
 ·have f:aU (user,aE) C=none:=by rw[<-j.get];exact s.neg (bx e)
  unfold dD
  rw[f]
  exact⟨RS.nQ,rfl⟩
 obtain⟨i,w,l,rfl,n,f⟩:=s.at j (bo e)
 have g:=m _ (bU n)
 have B:bJ (ee (w,(user,aE),l)):=⟨g.bG⟩
 refine .kn<|.sr<|.mo rfl<|.nc rfl<|.fa rfl<|.lo rfl<|.mo rfl ?_
 refine .cu i r n (λD=>?_)
 refine .fa rfl<|.lo rfl<|.az rfl ?_
 refine .ret (aO rfl ?_)
 ·unfold dD
  rw[f]
  exact⟨g,rfl⟩
theorem xy(xb:Nat)(vr vg d:Value)(a c:Int)(ps:List NP)(T:ax)(h:ou xb vr vg d a c ps T)(C:List (cB×List ByteArray))(m:gh C ps)(user aE:ByteArray)(R:av){RD:av}(L:∀p∈ps,iE RD p):
  Spec prog 101 [cK (pT xb) 1,.string user,.string aE] R [T] λu H'=>∃T',H'=[T']/\u=.bool (aU (user,aE) C).isSome/\ou xb vr vg d a c (ps.filter λp=>decide (p.2.1≠(user,aE))) T':=by
 have I:=h
 obtain⟨k,e,s,n,O⟩:=h
 have Y:=n.aw
 have px:PS T (cK (pT xb) 1) [k,vg,d,.int .i64 a,.int .i64 c]:=L9 (vr:=vr) (by rw[s];simp)
 have Q:RS (sg T) 3 ee k ps:=n.rs λp v=>by rw[s];simp[sg,v]
 refine Spec.body func101 rfl results101 ntmps101 rfl ?_
 refine .sr<|.ag rfl<|.z<|.mo rfl<|.mo rfl<|.mo rfl ?_
 refine .aM (xw xb vg d a c k ps user aE _ (Q.mono λb o f=>.inr (by have g:(b,o)∈T:=f;simp[g])) L) (λu S=>?_)
 obtain⟨z,rfl,x⟩:=S
 refine .ag rfl<|.zs<|.sr<|.mo rfl<|.q .lss<|.zn ?_
 refine .cond rfl (λj=>?_) λj=>?_
 have t:aU (user,aE) C=none:=by rw[<-m.get];exact x.neg (bx j)
 have K:(ps.filter λp=>decide (p.2.1≠(user,aE)))=ps:=ae2.2 λp v=>aeR λN=>by
  have J:=x.neg (bx j)
  exact iA.1 J (aeN.2 ⟨p.2,aeN.2 ⟨p,v,rfl⟩,N⟩)
 refine .sr<|.az rfl ?_
 refine .ret (aL (aR _ (.one (.tmp rfl)) rH ?_))
 ·exact⟨_,rfl,by rw[t];rfl,by rw[K];exact I⟩
 obtain⟨i,w,l,rfl,B,t⟩:=x.at m (bo j)
 have X:=(afc.1 B).1
 have M:=Aq m B
 refine .kn<|.sr<|.ag rfl<|.z ?_
 subst s
 have D:=n.sg
 refine .sub (H':=[bl xb [vr,k,vg,d,.int .i64 a,.int .i64 c] 44,e,[]]) (aT.bu (by simp)) ?_
 refine .mo rfl<|.mo rfl<|.nc rfl<|.fa rfl<|.lo rfl<|.mo rfl ?_
 refine .jW (R':=sg e) 0 i D rfl ⟨_,rfl⟩ (by omega) (by omega) (λv2 U=>?_)
 refine .append (OS.nil (E:=117) (sz:=3) (enc:=ee)) (U.mono λb o f=>.inr (by have g:(b,o)∈e:=f;simp[g])) (by simp;omega) (λv3 W A=>?_)
 have Z:=A.aw
 refine .ag rfl<|.z<|.mo rfl<|.mo rfl<|.mo rfl<|.nc rfl<|.fa rfl<|.lo rfl<|.mo rfl ?_
 refine .ia (i+1) .add ?_
 refine .jW (R':=sg e) (i+1) ps.length D ⟨_,rfl⟩ rfl (by omega) (by omega) (λv4 V=>?_)
 refine .append A (V.mono λb o f=>.inr (by have g:(b,o)∈e:=f;simp[g])) (by simp;omega) (λF y r=>?_)
 have i5:=r.aw
 refine .nc rfl<|.fa rfl<|.cJ rfl rfl<|.z<|.az rfl ?_
 refine .ret (aR _ (.one (.tmp rfl)) ((aI [0,1]).trans (aT.bu (H':=[(xb,.cells [vr,F,vg,d,.int .i64 a,.int .i64 c].toArray 44 (0,0))::y]) (by simp[take,aZ,cc]))) ?_)
 ·have G:(ps.drop 0).take (i-0)=ps.take i:=by simp
  have H:(ps.drop (i+1)).take (ps.length-(i+1))=ps.drop (i+1):=afg (by simp)
  rw[G,H,afd, <-M]at r
  exact⟨_,rfl,by rw[t];rfl,F,y,rfl,r,aeP (aeQ _ _) O⟩
theorem rI:∀{b a:List ByteArray},(b.foldl eS a).length<=a.length+b.length
 |[],a=>by simp
 |s::b,a=>by
  have c:=rI (b:=b) (a:=eS a s)
  have d:=As (l:=a) (s:=s)
  rw[List.foldl_cons,List.length_cons];omega
theorem K5(p q:NP):aA dx p q=(cp p.2.1.1 q.2.1.1||(decide (p.2.1.1=q.2.1.1)&&cp p.2.1.2 q.2.1.2)):=by
 unfold aA dx
 rw[ae8,afj,OU]
 simp
theorem rR{a b:ByteArray}{v:Value}(h:aw v=true):gA [(0,1),(1,1),(2,1)] [.string ⟨#[]⟩,.string ⟨#[]⟩,sZ] [(0,.string a),(1,.string b),(2,v)]=some [.string a,.string b,v]:=by
 cases v<;>first|rfl|cases h
theorem Mq(xb:Nat)(vr vg L:Value)(H J:Int)(ps:List NP)(T:ax)(h:ou xb vr vg L H J ps T)(c0:ps.length<=900)(C:List (cB×List ByteArray))(hB:gh C ps)(user aE:ByteArray)(vs:Value)(I:List ByteArray)(R:av){RD:av}(a7:RS RD 1 bB vs I)(hc:∀p∈ps,iE RD p)(a6:∀b o,RD b o->R b o)(hb:(dD C user aE).length<=1000)(c8:I.length<=1000):
    Spec prog 100 [cK (pT xb) 1,.string user,.string aE,vs] R [T] λu H'=>∃T' Ta,H'=[T',Ta]/\u=.tuple #[]/\∃ps',ou xb vr vg L H J ps' T'/\(if I.foldl eS (dD C user aE)=[]then ps'=ps else gh (cT (user,aE) (I.foldl eS (dD C user aE)) C) ps')/\(∀p∈ps',iE (λb o=>RD b o\/sg Ta b o) p):=by
  have h0:=h
  have c9:=a7.aw
  obtain⟨D,S⟩:∃D,D=I.foldl eS (dD C user aE):=⟨_,rfl⟩
  have c6:D.length<=2000:=by rw[S];exact aeP rI (by omega)
  refine Spec.dg (H':=[T,[]]) (by simp) ?_
  refine Spec.body func100 rfl results100 ntmps100 rfl ?_
  refine .sr<|.mo rfl<|.mo rfl<|.mo rfl ?_
  refine .aM (xx xb vr vg L H J ps T h C hB user aE _ hc (λp hp=>.inr (by simp[hp]))) (λu hu=>?_)
  have iu:=hu.aw
  refine .ag rfl<|.zs<|.sr<|.az rfl<|.block ?_
  refine .loop (X:=Nat×Value×ax) (λy=>y.1<=I.length/\RS (λb o=>RD b o\/sg y.2.2 b o) 1 bB y.2.1 ((I.take y.1).foldl eS (dD C user aE))) (λy=>[(0,cK (pT xb) 1),(1,.string user),(2,.string aE),(3,vs),(8,y.2.1),(9,iN y.1)]) (λy=>[T,y.2.2]) (λy=>I.length-y.1) (0,u,[]) ⟨ae3 _,by
    simp only[List.take_zero,List.foldl_nil]
    exact hu.mono λb o hb=>.inl hb⟩ kE.c.c.c.c.c.c rH ?_
  rintro⟨i,F,Ta⟩ ⟨hi,M⟩
  simp only at hi M⊢
  have ia:=M.aw
  have b6:((I.take i).foldl eS (dD C user aE)).length<=2000:=aeP rI (by simp;omega)
  refine .seq<|.sr<|.mo rfl<|.mo rfl<|.q (.dl (a7.mono a6)) ?_
  refine .q .lss<|.zn ?_
  refine .cond rfl (λh1=>?_) λh1=>?_
  have b4:i<I.length:=dQ h1
  obtain⟨z,hz⟩:=dN b4
  have c2:(I.take (i+1)).foldl eS (dD C user aE)=eS ((I.take i).foldl eS (dD C user aE)) z:=by rw[ae1,hz];simp
  refine .kn<|.seq<|.block<|.region<|.mo rfl<|.mo rfl<|.mo rfl ?_
  refine .cu i (a7.mono a6) hz (λd0=>?_)
  refine .lo rfl ?_
  refine .da (Mj F _ _ (λb o hb=>by
    rcases hb with hb|hb
    ·exact .inl (a6 b o hb)
    ·exact .inr (by have b7:(b,o)∈Ta:=hb;simp[b7])) M z (by omega)) (λu5 s c3=>?_)
  refine .ag rfl<|.nil<|bz<|aD<|.region<|.mo rfl ?_
  refine .ia (i+1) .add ?_
  refine .ag rfl<|.nil ?_
  ·exact bf (i+1,u5,s++Ta) ⟨b4,by
      simp only
      rw[c2]
      exact c3.mono λb o hb=>by
        rcases hb with(hb|hb)|hb
        ·exact .inl hb
        ·exact .inr (kU hb)
        ·exact .inr (mP hb)⟩ (by simp only;omega) kE.c.c.c.c.c.c ((aI [1,0,0]).trans (aT.bu (by simp[take,aZ])))
  have b8:i=I.length:=by have:=bo h1;omega
  subst b8
  rw[aeM, <-S]at M b6
  refine .exit<|bD<|bH<|bF<|aD<|.seq<|.sr<|.mo rfl<|.q (.dl M) ?_
  refine .q .bS<|.zn ?_
  refine .cond rfl (λh2=>?_) λh2=>?_
  have a5:D=[]:=by simpa using h2
  refine .ret (aL (aR _ .none (by first|(refine(aI [0,1,1]).trans (aT.bu (H':=[(xb,.cells [vr,W,vg,L,.int .i64 H,.int .i64 J].toArray 44 (0,0))::O,Ta]) ?_);simp[take,aZ,cc]<;>fail)|(refine(aI [1,2,2]).trans (aT.bu (H':=[(xb,.cells [vr,K,vg,L,.int .i64 H,.int .i64 J].toArray 44 (0,0))::s,Ta]) ?_);simp[take,aZ,cc]<;>fail)|exact aT.refl _) ?_))
  ·skip
   first
     |exact⟨T,Ta,rfl,rfl,ps,h0,by rw[<-S,aeK a5],λp hp=>(hc p hp).mono λb o hb=>.inl hb⟩
     |(have B:a.any (aA dx N)=false:=by rw[aeS]at G;exact G
       have Q:cU (aA dx) N a=a:=by unfold cU;rw[B];rfl
       rw[Q, <-jR B]at A
       refine⟨_,Ta,rfl,rfl,dh (aA dx) N a,⟨K,s,rfl,A,by rw[dX];omega⟩,by rw[<-S,aeJ a4,x,Z];exact hB.put F (user,aE) D,λp hp=>?_⟩
       rcases aeL.1 (eT.mem_iff.1 hp)with rfl|hp
       ·rw[x];exact M
       ·exact(a3 p hp).mono λb o hb=>.inl hb)
     |(have B:a.any (aA dx N)=true:=by rw[aeT]at G;exact G
       have Q:cU (aA dx) N a=dh (aA dx) N a:=by unfold cU;rw[B];rfl
       rw[Q]at n
       refine⟨_,Ta,rfl,rfl,dh (aA dx) N a,⟨W,O,rfl,n,by rw[dX];omega⟩,by rw[<-S,aeJ a4,x,Z];exact hB.put F (user,aE) D,λp hp=>?_⟩
       rcases aeL.1 (eT.mem_iff.1 hp)with rfl|hp
       ·rw[x];exact M
       ·exact(a3 p hp).mono λb o hb=>.inl hb)
  have a4:D≠[]:=by simpa using h2
  refine .kn<|.sr<|.mo rfl<|.mo rfl<|.mo rfl ?_
  refine .bW (xy xb vr vg L H J ps T h C hB user aE _ hc) (λu T6 hu=>?_)
  obtain⟨rfl,vt,Tt,rfl,hO,hl⟩:=hu
  obtain⟨a,Z⟩:∃a,a=ps.filter λp=>decide (p.2.1≠(user,aE)):=⟨_,rfl⟩
  rw[<-Z]at hO hl
  have c7:a.length<=900:=by rw[Z];exact aeP (aeQ _ _) c0
  have a3:∀p∈a,iE RD p:=λp hp=>by rw[Z]at hp;exact hc p (aeO.1 hp).1
  have it:=hO.aw
  obtain⟨N,x⟩:∃N:NP,N=(F,((user,aE),D)):=⟨_,rfl⟩
  have a8:∀u∈ee N,aw u=true:=iE.bG (R:=λb o=>RD b o\/sg Ta b o) (p:=N) (by rw[x];exact M)
  have eN:ee N=[.string user,.string aE,F]:=by rw[x];rfl
  have c1:∀(w:Value) (k:cB) (l:List ByteArray),aA dx N (w,(k,l))=(cp user k.1||(decide (user=k.1)&&cp aE k.2)):=λw k l=>by rw[K5,x]
  refine .sub (H':=[bl xb [vr,vt,vg,L,.int .i64 H,.int .i64 J] 44,Tt,[],Ta]) (aT.bu (by simp)) ?_
  refine .z<|.ag rfl<|.z<|.ag rfl<|.zs<|.sr<|.az rfl<|.block ?_
  refine .loop (X:=Nat×Value×ax) (λy=>y.1<=a.length/\OS 117 3 ee y.2.1 (cU (aA dx) N (a.take y.1)) y.2.2) (λy=>[(0,cK (pT xb) 1),(1,.string user),(2,.string aE),(8,F),(10,y.2.1),(11,.bool ((a.take y.1).any (aA dx N))),(12,iN y.1)]) (λy=>[bl xb [vr,vt,vg,L,.int .i64 H,.int .i64 J] 44,Tt,y.2.2,Ta]) (λy=>a.length-y.1) (0,sZ,[]) ⟨ae3 _,OS.nil⟩ kE.c.c.c.c.c.c.c rH ?_
  rintro⟨k,W,O⟩ ⟨hk,n⟩
  simp only at hk n⊢
  have i4:=n.aw
  have b3:=lK (lt:=aA dx) (p:=N) (X:=a.take k)
  rw[ae9,aff hk]at b3
  refine .seq<|.sr<|.mo rfl<|.mo rfl<|.nc rfl<|.fa rfl<|.lo rfl<|.q (.ec hO) ?_
  refine .q .lss<|.zn ?_
  refine .cond rfl (λh3=>?_) λh3=>?_
  have b2:k<a.length:=by have h9:=bx h3;omega
  obtain⟨⟨wy,⟨⟨m,Y⟩,yl⟩⟩,E⟩:=dN b2
  have cx:=a3 _ (bU E)
  have ix:bJ (ee (wy,((m,Y),yl))):=⟨cx.bG⟩
  have e4:=oT (lt:=aA dx) (p:=N) E
  have U:=c1 wy (m,Y) yl
  simp only at U
  refine .kn<|.seq<|.block<|.sr<|.mo rfl<|.nc rfl<|.fa rfl<|.lo rfl<|.mo rfl ?_
  refine .bb k hO E (λd1=>?_)
  refine .q (.bK rfl) ?_
  refine .cN (λa9=>?_)
  refine .ct rfl rfl<|.zs ?_
  refine bQ.cut (X:=Value×ax) (λz=>OS 117 3 ee z.1 (jh (aA dx) N (a.take k) (wy,((m,Y),yl))) z.2) (λz=>[(0,cK (pT xb) 1),(1,.string user),(2,.string aE),(8,F),(10,z.1),(11,.bool ((a.take (k+1)).any (aA dx N))),(12,iN k),(13,pT a9)]) (λz=>[[(a9,.cells (ee (wy,((m,Y),yl))).toArray 117 (0,0))],bl xb [vr,vt,vg,L,.int .i64 H,.int .i64 J] 44,Tt,z.2,Ta]) ?_ ?_
  refine .sr<|.mo rfl<|.q .not<|.mo rfl ?_
  refine .split (t:=55) rfl (λe=>?_) (λe=>?_)
  refine .gT e<|.mo rfl<|.gT e<|.fa rfl<|.gT e<|.lo rfl<|.gT e<|.q .m9<|.gT e<|.mo rfl ?_
  refine .split (t:=60) rfl (λd=>?_) (λd=>?_)
  refine .gF d<|.gF d<|.gF d<|.gF d<|.gF d<|.cX rfl ?_
  refine .cX rfl ?_
  refine .cX rfl ?_
  refine .cX rfl ?_
  refine .gF d<|.gT e<|.q (.aY d) ?_
  refine .q (.aY e) ?_
  refine .zn<|.dF ?_
  first
    |have a0:=mI (lt:=aA dx) (p:=N) E e (by rw[U];have f:cp user m=true:=d;simp[f])
    |have a0:=mI (lt:=aA dx) (p:=N) E e (by rw[U];have f:decide (user=m)=true:=r;have v:cp aE Y=true:=h4;rw[f,v];simp)
    |skip
  refine .sr<|.mo rfl<|.mo rfl<|.mo rfl<|.mo rfl ?_
  refine .q (.dI (out:=[.string user,.string aE,F]) rfl (rR ia.h)) ?_
  refine .fP (λb5=>?_)
  refine .append n (RS.lits (xs:=[N]) (by simp[eN]) (by simp[eN]) (by simpa using a8)) (by simp;omega) (λK s A=>?_)
  refine .az rfl<|.region<|.ag rfl<|.nil ?_
  ·first
      |(obtain⟨j,g⟩:=a0
        exact aB (K,s) (by simp only;rw[j];exact A) (by simp only;rw[g];exact kE.c.c.c.c.c.c.c.c) (aI [1,1,1,1,1]))
      |(obtain⟨j,g⟩:=V
        exact aB (W,O) (by simp only;rw[j];simpa using n) (by simp only;rw[g];exact kE.c.c.c.c.c.c.c.c) rH)
  refine .gT d<|.mo rfl<|.gT d<|.fa rfl<|.gT d<|.lo rfl<|.gT d<|.q .ek<|.gT d<|.mo rfl ?_
  refine .split (t:=65) rfl (λr=>?_) (λr=>?_)
  refine .gT r<|.mo rfl<|.gT r<|.fa rfl<|.gT r<|.lo rfl<|.gT r<|.q .m9<|.gT d<|.q (.aY r) ?_
  refine .gT e<|.q (.aS d) ?_
  refine .q (.aY e) ?_
  refine .zn ?_
  refine .cond rfl (λh4=>?_) λh4=>?_
  first
    |have a0:=mI (lt:=aA dx) (p:=N) E e (by rw[U];have f:cp user m=true:=d;simp[f])
    |have a0:=mI (lt:=aA dx) (p:=N) E e (by rw[U];have f:decide (user=m)=true:=r;have v:cp aE Y=true:=h4;rw[f,v];simp)
    |skip
  refine .sr<|.mo rfl<|.mo rfl<|.mo rfl<|.mo rfl ?_
  refine .q (.dI (out:=[.string user,.string aE,F]) rfl (rR ia.h)) ?_
  refine .fP (λb5=>?_)
  refine .append n (RS.lits (xs:=[N]) (by simp[eN]) (by simp[eN]) (by simpa using a8)) (by simp;omega) (λK s A=>?_)
  refine .az rfl<|.region<|.ag rfl<|.nil ?_
  ·first
      |(obtain⟨j,g⟩:=a0
        exact aB (K,s) (by simp only;rw[j];exact A) (by simp only;rw[g];exact kE.c.c.c.c.c.c.c.c) (aI [1,1,1,1,1]))
      |(obtain⟨j,g⟩:=V
        exact aB (W,O) (by simp only;rw[j];simpa using n) (by simp only;rw[g];exact kE.c.c.c.c.c.c.c.c) rH)
  first
    |have V:=im (lt:=aA dx) (p:=N) E (.inr (by rw[U];have f:cp user m=false:=d;have v:decide (user=m)=false:=r;rw[f,v];simp))
    |have V:=im (lt:=aA dx) (p:=N) E (.inr (by rw[U];have f:cp user m=false:=d;have v:cp aE Y=false:=h4;rw[f,v];simp))
    |skip
  refine .skip ?_
  ·first
      |(obtain⟨j,g⟩:=a0
        exact aB (K,s) (by simp only;rw[j];exact A) (by simp only;rw[g];exact kE.c.c.c.c.c.c.c.c) (aI [1,1,1,1,1]))
      |(obtain⟨j,g⟩:=V
        exact aB (W,O) (by simp only;rw[j];simpa using n) (by simp only;rw[g];exact kE.c.c.c.c.c.c.c.c) rH)
  refine .gF r<|.gF r<|.gF r<|.gF r<|.gT d<|.q (.aS r) ?_
  refine .gT e<|.q (.aS d) ?_
  refine .q (.aY e) ?_
  refine .zn<|.bZ ?_
  first
    |have V:=im (lt:=aA dx) (p:=N) E (.inr (by rw[U];have f:cp user m=false:=d;have v:decide (user=m)=false:=r;rw[f,v];simp))
    |have V:=im (lt:=aA dx) (p:=N) E (.inr (by rw[U];have f:cp user m=false:=d;have v:cp aE Y=false:=h4;rw[f,v];simp))
    |skip
  refine .skip ?_
  ·first
      |(obtain⟨j,g⟩:=a0
        exact aB (K,s) (by simp only;rw[j];exact A) (by simp only;rw[g];exact kE.c.c.c.c.c.c.c.c) (aI [1,1,1,1,1]))
      |(obtain⟨j,g⟩:=V
        exact aB (W,O) (by simp only;rw[j];simpa using n) (by simp only;rw[g];exact kE.c.c.c.c.c.c.c.c) rH)
  have V:=im (lt:=aA dx) (p:=N) E (.inl e)
  refine .gF e<|.gF e<|.gF e<|.gF e<|.gF e<|.cX rfl ?_
  refine .cX rfl ?_
  refine .cX rfl ?_
  refine .cX rfl ?_
  refine .cX rfl ?_
  refine .cX rfl ?_
  refine .cX rfl ?_
  refine .cX rfl ?_
  refine .cX rfl ?_
  refine .cX rfl ?_
  refine .gF e<|.q (.aS e) ?_
  refine .zn<|.bZ ?_
  first
    |have V:=im (lt:=aA dx) (p:=N) E (.inr (by rw[U];have f:cp user m=false:=d;have v:decide (user=m)=false:=r;rw[f,v];simp))
    |have V:=im (lt:=aA dx) (p:=N) E (.inr (by rw[U];have f:cp user m=false:=d;have v:cp aE Y=false:=h4;rw[f,v];simp))
    |skip
  refine .skip ?_
  ·first
      |(obtain⟨j,g⟩:=a0
        exact aB (K,s) (by simp only;rw[j];exact A) (by simp only;rw[g];exact kE.c.c.c.c.c.c.c.c) (aI [1,1,1,1,1]))
      |(obtain⟨j,g⟩:=V
        exact aB (W,O) (by simp only;rw[j];simpa using n) (by simp only;rw[g];exact kE.c.c.c.c.c.c.c.c) rH)
  intro y hy
  obtain⟨vm,Tm⟩:=y
  have b0:OS 117 3 ee vm (jh (aA dx) N (a.take k) (wy,((m,Y),yl))) Tm:=hy
  have i6:=b0.aw
  simp only
  refine aD<|.region<|.mo rfl<|.q (.bK rfl) ?_
  refine .fP (λc4=>?_)
  refine .append b0 (RS.lits (xs:=[((wy,((m,Y),yl)):NP)]) rfl (by simp[ee]) (by have:=cx.bG;simpa using this)) (by have:=lK (lt:=aA dx) (p:=N) (X:=a.take (k+1));rw[<-e4]at this;simp at this⊢;omega) (λv7 T7 b1=>?_)
  rw[e4]at b1
  refine .ag rfl<|.nil<|bz<|aD<|.region<|.mo rfl ?_
  refine .ia (k+1) .add ?_
  refine .ag rfl<|.nil ?_
  ·exact bf (k+1,v7,T7) ⟨b2,b1⟩ (by simp only;omega) kE.c.c.c.c.c.c.c (aI [2,2,2,2])
  have b9:k=a.length:=by have h9:=bo h3;omega
  subst b9
  rw[aeM]at n b3⊢
  refine .exit<|bD<|bH<|bF<|aD<|.seq<|.sr<|.mo rfl<|.q .not<|.zn ?_
  refine .cond rfl (λG=>?_) λG=>?_
  refine .region<|.mo rfl<|.mo rfl<|.mo rfl<|.mo rfl ?_
  refine .q (.dI (out:=[.string user,.string aE,F]) rfl (rR ia.h)) ?_
  refine .fP (λc5=>?_)
  refine .append n (RS.lits (xs:=[N]) (by simp[eN]) (by simp[eN]) (by simpa using a8)) (by simp;omega) (λK s A=>?_)
  have i5:=A.aw
  refine .az rfl<|.region<|.mo rfl<|.mo rfl<|.nc rfl<|.fa rfl<|.cJ rfl rfl<|.nil ?_
  refine eh _ .none (by first|(refine(aI [0,1,1]).trans (aT.bu (H':=[(xb,.cells [vr,W,vg,L,.int .i64 H,.int .i64 J].toArray 44 (0,0))::O,Ta]) ?_);simp[take,aZ,cc]<;>fail)|(refine(aI [1,2,2]).trans (aT.bu (H':=[(xb,.cells [vr,K,vg,L,.int .i64 H,.int .i64 J].toArray 44 (0,0))::s,Ta]) ?_);simp[take,aZ,cc]<;>fail)|exact aT.refl _) ?_
  ·skip
   first
     |exact⟨T,Ta,rfl,rfl,ps,h0,by rw[<-S,aeK a5],λp hp=>(hc p hp).mono λb o hb=>.inl hb⟩
     |(have B:a.any (aA dx N)=false:=by rw[aeS]at G;exact G
       have Q:cU (aA dx) N a=a:=by unfold cU;rw[B];rfl
       rw[Q, <-jR B]at A
       refine⟨_,Ta,rfl,rfl,dh (aA dx) N a,⟨K,s,rfl,A,by rw[dX];omega⟩,by rw[<-S,aeJ a4,x,Z];exact hB.put F (user,aE) D,λp hp=>?_⟩
       rcases aeL.1 (eT.mem_iff.1 hp)with rfl|hp
       ·rw[x];exact M
       ·exact(a3 p hp).mono λb o hb=>.inl hb)
     |(have B:a.any (aA dx N)=true:=by rw[aeT]at G;exact G
       have Q:cU (aA dx) N a=dh (aA dx) N a:=by unfold cU;rw[B];rfl
       rw[Q]at n
       refine⟨_,Ta,rfl,rfl,dh (aA dx) N a,⟨W,O,rfl,n,by rw[dX];omega⟩,by rw[<-S,aeJ a4,x,Z];exact hB.put F (user,aE) D,λp hp=>?_⟩
       rcases aeL.1 (eT.mem_iff.1 hp)with rfl|hp
       ·rw[x];exact M
       ·exact(a3 p hp).mono λb o hb=>.inl hb)
  refine .kn<|.region<|.mo rfl<|.mo rfl<|.nc rfl<|.fa rfl<|.cJ rfl rfl<|.nil ?_
  refine eh _ .none (by first|(refine(aI [0,1,1]).trans (aT.bu (H':=[(xb,.cells [vr,W,vg,L,.int .i64 H,.int .i64 J].toArray 44 (0,0))::O,Ta]) ?_);simp[take,aZ,cc]<;>fail)|(refine(aI [1,2,2]).trans (aT.bu (H':=[(xb,.cells [vr,K,vg,L,.int .i64 H,.int .i64 J].toArray 44 (0,0))::s,Ta]) ?_);simp[take,aZ,cc]<;>fail)|exact aT.refl _) ?_
  ·skip
   first
     |exact⟨T,Ta,rfl,rfl,ps,h0,by rw[<-S,aeK a5],λp hp=>(hc p hp).mono λb o hb=>.inl hb⟩
     |(have B:a.any (aA dx N)=false:=by rw[aeS]at G;exact G
       have Q:cU (aA dx) N a=a:=by unfold cU;rw[B];rfl
       rw[Q, <-jR B]at A
       refine⟨_,Ta,rfl,rfl,dh (aA dx) N a,⟨K,s,rfl,A,by rw[dX];omega⟩,by rw[<-S,aeJ a4,x,Z];exact hB.put F (user,aE) D,λp hp=>?_⟩
       rcases aeL.1 (eT.mem_iff.1 hp)with rfl|hp
       ·rw[x];exact M
       ·exact(a3 p hp).mono λb o hb=>.inl hb)
     |(have B:a.any (aA dx N)=true:=by rw[aeT]at G;exact G
       have Q:cU (aA dx) N a=dh (aA dx) N a:=by unfold cU;rw[B];rfl
       rw[Q]at n
       refine⟨_,Ta,rfl,rfl,dh (aA dx) N a,⟨W,O,rfl,n,by rw[dX];omega⟩,by rw[<-S,aeJ a4,x,Z];exact hB.put F (user,aE) D,λp hp=>?_⟩
       rcases aeL.1 (eT.mem_iff.1 hp)with rfl|hp
       ·rw[x];exact M
       ·exact(a3 p hp).mono λb o hb=>.inl hb)
theorem xo(xb:Nat)(vr vn vg H:Value)(E F:Int)(m:List NP)(n:List GP)(D C:ax)(Y:OS 117 3 ee vn m D)(W:OS 121 9 bO vg n C)(b3:m.length<=1000)(b2:n.length<=1000)(aE user:ByteArray)(R:av){RD:av}(a4:∀p∈m,iE RD p)(a3:∀p∈n,dq RD p):
    Spec prog 96 [cK (pT xb) 1,.string aE,.string user] R [bl xb [vr,vn,vg,H,.int .i64 E,.int .i64 F] 44,D,C] λu H'=>∃vn' vg' Tn' Tg',H'=[bl xb [vr,vn',vg',H,.int .i64 E,.int .i64 F] 44,Tn',Tg']/\u=.tuple #[]/\OS 117 3 ee vn' (m.filter λp=> !fA aE user p.2.1) Tn'/\OS 121 9 bO vg' (n.filter λp=> !gp aE user p.2) Tg':=by
  have i1:=Y.aw
  have i2:=W.aw
  refine Spec.dg (H':=[bl xb [vr,vn,vg,H,.int .i64 E,.int .i64 F] 44,D,C,[]]) (by simp) ?_
  refine Spec.body func96 rfl results96 ntmps96 rfl ?_
  refine .sr<|.ag rfl<|.z<|.ag rfl<|.zs<|.sr<|.az rfl<|.block ?_
  refine .loop (X:=Nat×Value×ax) (λy=>y.1<=m.length/\OS 117 3 ee y.2.1 ((m.take y.1).filter λp=> !fA aE user p.2.1) y.2.2) (λy=>[(0,cK (pT xb) 1),(1,.string aE),(2,.string user),(6,y.2.1),(7,sZ),(8,iN y.1)]) (λy=>[bl xb [vr,vn,vg,H,.int .i64 E,.int .i64 F] 44,D,C,y.2.2]) (λy=>m.length-y.1) (0,sZ,[]) ⟨by omega,OS.nil⟩ kE.c.c.c.c.c.c rH ?_
  rintro⟨i,G,s⟩ ⟨hi,o⟩
  simp only at hi o⊢
  have i4:=o.aw
  have a9:((m.take i).filter λp=> !fA aE user p.2.1).length<=i:=aeP (aeQ _ _) (by simp;omega)
  refine .seq<|.sr<|.mo rfl<|.mo rfl<|.nc rfl<|.fa rfl<|.lo rfl<|.q (.ec Y) ?_
  refine .q .lss<|.zn ?_
  refine .cond rfl (λT=>?_) λT=>?_
  have a7:i<m.length:=by have V:=bx T;omega
  obtain⟨⟨w,⟨⟨l,j⟩,S⟩⟩,B⟩:=dN a7
  have v:=a4 _ (bU B)
  have iz:bJ (ee (w,((l,j),S))):=⟨v.bG⟩
  have b:(m.take (i+1)).filter (λp=> !fA aE user p.2.1)=(m.take i).filter (λp=> !fA aE user p.2.1)++if !fA aE user (l,j)then [(w,((l,j),S))]else []:=by rw[ae1,B,afm,afn,afo,List.filter_nil]
  refine .kn<|.seq<|.block<|.sr<|.mo rfl<|.nc rfl<|.fa rfl<|.lo rfl<|.mo rfl ?_
  refine .bb i Y B (λb4=>?_)
  refine .q (.bK rfl) ?_
  refine .cN (λb9=>?_)
  refine .ct rfl rfl<|.z<|.fa rfl<|.lo rfl<|.mo rfl<|.q .fj<|.mo rfl ?_
  refine .split (t:=32) rfl (λe=>?_) (λe=>?_)
  refine .gF e<|.gF e<|.gF e<|.cX rfl ?_
  refine .cX rfl ?_
  refine .cX rfl ?_
  refine .cX rfl ?_
  refine .gF e<|.q (.aY e) ?_
  refine .zn<|.dF ?_
  have h:(!fA aE user (l,j))=true:=by
    unfold fA
    first
      |(have a:¬j=aE:=by simpa using e
        simp[a];done)
      |(have a:¬user=⟨#[]⟩:=by simpa using g
        have a2:¬l=user:=by simpa using L
        simp[a,a2])
  simp only[h,aeX]at b
  refine .region<|.mo rfl<|.q (.bK rfl) ?_
  refine .fP (λZ=>?_)
  refine .append o (RS.lits (xs:=[((w,((l,j),S)):NP)]) rfl (by simp[ee]) (by have:=v.bG;simpa using this)) (by simp;omega) (λN I x=>?_)
  rw[<-b]at x
  refine .ag rfl<|.nil<|bz<|aD<|.region<|.mo rfl ?_
  refine .ia (i+1) .add ?_
  refine .ag rfl<|.nil ?_
  ·first
      |exact bf (i+1,N,I) ⟨by simp only;omega,x⟩ (by simp only;omega) kE.c.c.c.c.c.c (aI [2,2,2,2])
      |exact bf (i+1,G,s) ⟨by simp only;omega,by simp only;rw[b];exact o⟩ (by simp only;omega) kE.c.c.c.c.c.c (aI [1,1,1,1])
  refine .gT e<|.mo rfl<|.gT e<|.q .fj<|.gT e<|.mo rfl ?_
  refine .split (t:=35) rfl (λg=>?_) (λg=>?_)
  refine .gT g<|.fa rfl<|.gT g<|.lo rfl<|.gT g<|.mo rfl<|.gT g<|.q .fj<|.gT e<|.q (.aY g) ?_
  refine .q (.aS e) ?_
  refine .zn ?_
  refine .cond rfl (λL=>?_) λL=>?_
  have h:(!fA aE user (l,j))=true:=by
    unfold fA
    first
      |(have a:¬j=aE:=by simpa using e
        simp[a];done)
      |(have a:¬user=⟨#[]⟩:=by simpa using g
        have a2:¬l=user:=by simpa using L
        simp[a,a2])
  simp only[h,aeX]at b
  refine .region<|.mo rfl<|.q (.bK rfl) ?_
  refine .fP (λZ=>?_)
  refine .append o (RS.lits (xs:=[((w,((l,j),S)):NP)]) rfl (by simp[ee]) (by have:=v.bG;simpa using this)) (by simp;omega) (λN I x=>?_)
  rw[<-b]at x
  refine .ag rfl<|.nil<|bz<|aD<|.region<|.mo rfl ?_
  refine .ia (i+1) .add ?_
  refine .ag rfl<|.nil ?_
  ·first
      |exact bf (i+1,N,I) ⟨by simp only;omega,x⟩ (by simp only;omega) kE.c.c.c.c.c.c (aI [2,2,2,2])
      |exact bf (i+1,G,s) ⟨by simp only;omega,by simp only;rw[b];exact o⟩ (by simp only;omega) kE.c.c.c.c.c.c (aI [1,1,1,1])
  have h:(!fA aE user (l,j))=false:=by
    have a:j=aE:=by simpa using e
    have a2:user=⟨#[]⟩\/l=user:=by
      first
        |exact .inl (by simpa using g)
        |exact .inr (by simpa using L)
    unfold fA
    rcases a2 with a2|a2<;>simp[a,a2]
  simp only[h,aeU,aeV,aeY]at b
  refine .skip<|bz<|aD<|.region<|.mo rfl ?_
  refine .ia (i+1) .add ?_
  refine .ag rfl<|.nil ?_
  ·first
      |exact bf (i+1,N,I) ⟨by simp only;omega,x⟩ (by simp only;omega) kE.c.c.c.c.c.c (aI [2,2,2,2])
      |exact bf (i+1,G,s) ⟨by simp only;omega,by simp only;rw[b];exact o⟩ (by simp only;omega) kE.c.c.c.c.c.c (aI [1,1,1,1])
  refine .gF g<|.gF g<|.gF g<|.gF g<|.gT e<|.q (.aS g) ?_
  refine .q (.aS e) ?_
  refine .zn<|.bZ ?_
  have h:(!fA aE user (l,j))=false:=by
    have a:j=aE:=by simpa using e
    have a2:user=⟨#[]⟩\/l=user:=by
      first
        |exact .inl (by simpa using g)
        |exact .inr (by simpa using L)
    unfold fA
    rcases a2 with a2|a2<;>simp[a,a2]
  simp only[h,aeU,aeV,aeY]at b
  refine .skip<|bz<|aD<|.region<|.mo rfl ?_
  refine .ia (i+1) .add ?_
  refine .ag rfl<|.nil ?_
  ·first
      |exact bf (i+1,N,I) ⟨by simp only;omega,x⟩ (by simp only;omega) kE.c.c.c.c.c.c (aI [2,2,2,2])
      |exact bf (i+1,G,s) ⟨by simp only;omega,by simp only;rw[b];exact o⟩ (by simp only;omega) kE.c.c.c.c.c.c (aI [1,1,1,1])
  have a5:i=m.length:=by have V:=bo T;omega
  rw[a5,aeM]at o a9
  refine .exit<|bD<|bH<|bF<|aD<|.seq<|.sr ?_
  refine .sub (H':=[bl xb [vr,vn,vg,H,.int .i64 E,.int .i64 F] 44,D,C,s,[]]) (aT.bu (by simp)) ?_
  refine .az rfl<|.block ?_
  refine .loop (X:=Nat×Value×ax) (λy=>y.1<=n.length/\OS 121 9 bO y.2.1 ((n.take y.1).filter λp=> !gp aE user p.2) y.2.2) (λy=>[(0,cK (pT xb) 1),(1,.string aE),(2,.string user),(6,G),(7,y.2.1),(10,iN y.1)]) (λy=>[bl xb [vr,vn,vg,H,.int .i64 E,.int .i64 F] 44,D,C,s,y.2.2]) (λy=>n.length-y.1) (0,sZ,[]) ⟨by omega,OS.nil⟩ kE.c.c.c.c.c.c rH ?_
  rintro⟨k,Q,K⟩ ⟨hk,r⟩
  simp only at hk r⊢
  have i5:=r.aw
  have b0:((n.take k).filter λp=> !gp aE user p.2).length<=k:=aeP (aeQ _ _) (by simp;omega)
  refine .seq<|.sr<|.mo rfl<|.mo rfl<|.nc rfl<|.fa rfl<|.lo rfl<|.q (.ec W) ?_
  refine .q .lss<|.zn ?_
  refine .cond rfl (λU=>?_) λU=>?_
  have a8:k<n.length:=by have V:=bx U;omega
  obtain⟨⟨w,t⟩,B⟩:=dN a8
  have v:=a3 _ (bU B)
  have iz:bJ (bO (w,t)):=⟨v.bG⟩
  have b:=vk (λu:bL=> !gp aE user u) B
  refine .kn<|.seq<|.block<|.sr<|.mo rfl<|.nc rfl<|.fa rfl<|.lo rfl<|.mo rfl ?_
  refine .bb k W B (λb5=>?_)
  refine .q (.bK rfl) ?_
  refine .cN (λb1=>?_)
  refine .ct rfl rfl<|.z<|.fa rfl<|.lo rfl<|.mo rfl<|.q .fj<|.mo rfl ?_
  refine .split (t:=66) rfl (λd=>?_) (λd=>?_)
  refine .gF d<|.gF d<|.gF d<|.cX rfl ?_
  refine .cX rfl ?_
  refine .cX rfl ?_
  refine .cX rfl ?_
  refine .gF d<|.q (.aY d) ?_
  refine .zn<|.dF ?_
  have h:(!gp aE user t)=true:=by
    unfold gp
    first
      |(have a:¬t.aE=aE:=by simpa using d
        simp[a];done)
      |(have a:¬user=⟨#[]⟩:=by simpa using f
        have a2:¬t.user=user:=by simpa using M
        simp[a,a2])
  simp only[h,aeX]at b
  refine .region<|.mo rfl<|.q (.bK rfl) ?_
  refine .fP (λa0=>?_)
  refine .append r (RS.lits (xs:=[((w,t):GP)]) rfl (by simp[bO]) (by have:=v.bG;simpa using this)) (by simp;omega) (λO J A=>?_)
  rw[<-b]at A
  refine .ag rfl<|.nil<|bz<|aD<|.region<|.mo rfl ?_
  refine .ia (k+1) .add ?_
  refine .ag rfl<|.nil ?_
  ·first
      |exact bf (k+1,O,J) ⟨by simp only;omega,A⟩ (by simp only;omega) kE.c.c.c.c.c.c (aI [2,2,2,2,2])
      |exact bf (k+1,Q,K) ⟨by simp only;omega,by simp only;rw[b];exact r⟩ (by simp only;omega) kE.c.c.c.c.c.c (aI [1,1,1,1,1])
  refine .gT d<|.mo rfl<|.gT d<|.q .fj<|.gT d<|.mo rfl ?_
  refine .split (t:=69) rfl (λf=>?_) (λf=>?_)
  refine .gT f<|.fa rfl<|.gT f<|.lo rfl<|.gT f<|.mo rfl<|.gT f<|.q .fj<|.gT d<|.q (.aY f) ?_
  refine .q (.aS d) ?_
  refine .zn ?_
  refine .cond rfl (λM=>?_) λM=>?_
  have h:(!gp aE user t)=true:=by
    unfold gp
    first
      |(have a:¬t.aE=aE:=by simpa using d
        simp[a];done)
      |(have a:¬user=⟨#[]⟩:=by simpa using f
        have a2:¬t.user=user:=by simpa using M
        simp[a,a2])
  simp only[h,aeX]at b
  refine .region<|.mo rfl<|.q (.bK rfl) ?_
  refine .fP (λa0=>?_)
  refine .append r (RS.lits (xs:=[((w,t):GP)]) rfl (by simp[bO]) (by have:=v.bG;simpa using this)) (by simp;omega) (λO J A=>?_)
  rw[<-b]at A
  refine .ag rfl<|.nil<|bz<|aD<|.region<|.mo rfl ?_
  refine .ia (k+1) .add ?_
  refine .ag rfl<|.nil ?_
  ·first
      |exact bf (k+1,O,J) ⟨by simp only;omega,A⟩ (by simp only;omega) kE.c.c.c.c.c.c (aI [2,2,2,2,2])
      |exact bf (k+1,Q,K) ⟨by simp only;omega,by simp only;rw[b];exact r⟩ (by simp only;omega) kE.c.c.c.c.c.c (aI [1,1,1,1,1])
  have h:(!gp aE user t)=false:=by
    have a:t.aE=aE:=by simpa using d
    have a2:user=⟨#[]⟩\/t.user=user:=by
      first
        |exact .inl (by simpa using f)
        |exact .inr (by simpa using M)
    unfold gp
    rcases a2 with a2|a2<;>simp[a,a2]
  simp only[h,aeU,aeV,aeY]at b
  refine .skip<|bz<|aD<|.region<|.mo rfl ?_
  refine .ia (k+1) .add ?_
  refine .ag rfl<|.nil ?_
  ·first
      |exact bf (k+1,O,J) ⟨by simp only;omega,A⟩ (by simp only;omega) kE.c.c.c.c.c.c (aI [2,2,2,2,2])
      |exact bf (k+1,Q,K) ⟨by simp only;omega,by simp only;rw[b];exact r⟩ (by simp only;omega) kE.c.c.c.c.c.c (aI [1,1,1,1,1])
  refine .gF f<|.gF f<|.gF f<|.gF f<|.gT d<|.q (.aS f) ?_
  refine .q (.aS d) ?_
  refine .zn<|.bZ ?_
  have h:(!gp aE user t)=false:=by
    have a:t.aE=aE:=by simpa using d
    have a2:user=⟨#[]⟩\/t.user=user:=by
      first
        |exact .inl (by simpa using f)
        |exact .inr (by simpa using M)
    unfold gp
    rcases a2 with a2|a2<;>simp[a,a2]
  simp only[h,aeU,aeV,aeY]at b
  refine .skip<|bz<|aD<|.region<|.mo rfl ?_
  refine .ia (k+1) .add ?_
  refine .ag rfl<|.nil ?_
  ·first
      |exact bf (k+1,O,J) ⟨by simp only;omega,A⟩ (by simp only;omega) kE.c.c.c.c.c.c (aI [2,2,2,2,2])
      |exact bf (k+1,Q,K) ⟨by simp only;omega,by simp only;rw[b];exact r⟩ (by simp only;omega) kE.c.c.c.c.c.c (aI [1,1,1,1,1])
  have a6:k=n.length:=by have V:=bo U;omega
  rw[a6,aeM]at r b0
  refine .exit<|bD<|bH<|bF<|aD<|.region<|.mo rfl<|.mo rfl<|.mo rfl<|.mo rfl<|.nc rfl<|.fa rfl<|.cJ rfl rfl<|.nc rfl<|.fa rfl<|.cJ rfl rfl<|.nil<|eh _ .none (aI [0,2,2]) ?_
  ·exact⟨G,Q,s,K,rfl,rfl,o,r⟩
structure DM(RD:av)(s:cd)(rs:List CP)(ns:List NP)(gs:List GP)(ts:List TP):Prop where
 bc:kg s.cs rs
 bn:gh s.C ns
 bg:eZ s.A gs
 bt:eQ s.V ts
 cr:CL RD rs
 nr:∀p∈ns,iE RD p
 gr:∀p∈gs,dq RD p
 tr:∀p∈ts,dS RD p
 ri:∀p∈s.C,gR p.2
theorem DM.zero(RD:av):DM RD cd.zero [] [] [] []:=⟨⟨.refl _,List.Pairwise.nil,by simp,by simp[cd.zero]⟩,gh.nil,⟨.refl _,List.Pairwise.nil⟩,⟨.refl _,List.Pairwise.nil⟩,λp a=>(by cases a),λp a=>(by cases a),λp a=>(by cases a),λp a=>(by cases a),λp a=>(by cases a)⟩
section
variable{RD:av}{s:cd}{rs:List CP}{ns:List NP}{gs:List GP}{ts:List TP}
theorem DM.mono(h:DM RD s rs ns gs ts){R':av}(c:∀b o,RD b o->R' b o):DM R' s rs ns gs ts:=⟨h.bc,h.bn,h.bg,h.bt,h.cr.mono c,λp a=>(h.nr p a).mono c,λp a=>(h.gr p a).mono c,λp a=>(h.tr p a).mono c,h.ri⟩
theorem DM.qU(h:DM RD s rs ns gs ts)(now:Int):DM RD {s with now:=now,A:=s.A.filter λx=>decide (now<x.2.cq),V:=s.V.filter λx=>decide (now<x.2.cq)} rs ns (gs.filter λp=>decide (now<p.2.cq)) (ts.filter λp=>decide (now<p.2.cq)):=
 ⟨h.bc,h.bn,h.bg.filter λu=>decide (now<u.cq),h.bt.filter λu=>decide (now<u.cq),h.cr,h.nr,λp a=>h.gr p (aeO.1 a).1,λp a=>h.tr p (aeO.1 a).1,h.ri⟩
theorem DM.za(h:DM RD s rs ns gs ts){r:CR}{c:bA}(b:eV RD r c):DM RD (mq s c).2 (if(dT (cQ rs) c).1=0 then nq (r,c) rs else rs) ns gs ts:=
 ⟨h.bc.add h.cr b.id,h.bn,h.bg,h.bt,λp a=>by
  split at a
  ·rcases aeL.1 (eT.mem_iff.1 a)with rfl|hm
   ·exact b
   ·exact h.cr p hm
  ·exact h.cr p a,h.nr,h.gr,h.tr,h.ri⟩
theorem DM.uK(h:DM RD s rs ns gs ts)(id:ByteArray):DM RD {s with cs:=iV id s.cs} (lO id rs) ns gs ts:=
 ⟨h.bc.del id,h.bn,h.bg,h.bt,λp a=>h.cr p (aeO.1 a).1,h.nr,h.gr,h.tr,h.ri⟩
theorem DM.drop(h:DM RD s rs ns gs ts)(id user:ByteArray):DM RD (s.drop id user) rs (ns.filter λp=> !fA id user p.2.1) (gs.filter λp=> !gp id user p.2) (ts.filter λp=> !gD id user p.2):=
 ⟨h.bc,h.bn.filter λk=> !fA id user k,h.bg.filter λu=> !gp id user u,h.bt.filter λu=> !gD id user u,h.cr,λp a=>h.nr p (aeO.1 a).1,λp a=>h.gr p (aeO.1 a).1,λp a=>h.tr p (aeO.1 a).1,λp a=>h.ri p (aeO.1 a).1⟩
theorem DM.MJ(h:DM RD s rs ns gs ts)(user id:ByteArray):gR (dD s.C user id):=by
 unfold dD
 cases e:aU (user,id) s.C with
 |none=>exact List.Pairwise.nil
 |some l=>exact h.ri _ (fH e)
theorem DM.m2(h:DM RD s rs ns gs ts){user id:ByteArray}{e:List ByteArray}{c:List NP}{R':av}(f:∀b o,RD b o->R' b o)(d:gh (cT (user,id) (e.foldl eS (dD s.C user id)) s.C) c)(g:∀p∈c,iE R' p):DM R' {s with C:=cT (user,id) (jo (dD s.C user id) e) s.C} rs c gs ts:=by
 rw[Ar (h.MJ user id)]at d
 have a:=h.mono f
 refine⟨a.bc,d,a.bg,a.bt,a.cr,g,a.gr,a.tr,λp hp=>?_⟩
 rcases List.mem_append.1 hp with hp|hp
 ·exact h.ri p (aeO.1 hp).1
 ·rw[List.mem_singleton]at hp
  subst hp
  exact xJ _ _
theorem DM.rG(h:DM RD s rs ns gs ts)(user id:ByteArray):DM RD {s with C:=dO (user,id) s.C} rs (ns.filter λp=>decide (p.2.1≠(user,id))) gs ts:=
 ⟨h.bc,h.bn.filter λk=>decide (k≠(user,id)),h.bg,h.bt,h.cr,λp a=>h.nr p (aeO.1 a).1,h.gr,h.tr,λp a=>h.ri p (aeO.1 a).1⟩
theorem DM.gS(h:DM RD s rs ns gs ts){d:List (ByteArray×bL)}{c:List GP}{last:Int}{R':av}(e:∀b o,RD b o->R' b o)(f:eZ d c)(g:∀p∈c,dq R' p):DM R' {s with A:=d,last:=last} rs ns c ts:=
 let a:=h.mono e
 ⟨a.bc,a.bn,f,a.bt,a.cr,a.nr,g,a.tr,a.ri⟩
theorem DM.db(h:DM RD s rs ns gs ts){d:List (ByteArray×Tok)}{c:List TP}{R':av}(e:∀b o,RD b o->R' b o)(f:eQ d c)(g:∀p∈c,dS R' p):DM R' {s with V:=d} rs ns gs c:=
 let a:=h.mono e
 ⟨a.bc,a.bn,a.bg,f,a.cr,a.nr,a.gr,g,a.ri⟩
end
abbrev Ao(xb:Nat)(vr vn vg vv:Value)(ls tm:Int):ax:=(bl xb [vr,vn,vg,vv,.int .i64 ls,.int .i64 tm] 44)
def DS(RD:av)(xb:Nat)(s:cd)(H:aV):Prop:=∃vr vn vg vv Tr Tn Tg Tv rs ns gs ts,H=[Ao xb vr vn vg vv s.last s.now,Tr,Tn,Tg,Tv]/\OS 25 4 eb vr rs Tr/\OS 117 3 ee vn ns Tn/\OS 121 9 bO vg gs Tg/\OS 58 9 bE vv ts Tv/\DM RD s rs ns gs ts
theorem Spec.two{P:Program}{f:FuncId}{a:List Value}{R:av}{A B:ax}{Q:Value->aV->Prop}(h:Spec P f a R [A++B] Q):Spec P f a R [A,B] Q:=Spec.dg (H':=[A++B]) (by simp) h
theorem Nf{A:List (ByteArray×bL)}{a ps:List GP}(b:eZ A a)(d:(nF (eP ps)).Perm A)(e:ps.Pairwise λp q=>cp q.2.text p.2.text=false):eP ps=eP a:=by
 refine tQ (λt:bL=>t.text) b.fU ?_ (by rw[eP,ae0];exact e)
 have c:=(d.trans b.pm.symm).map (·.2)
 simpa[nF,fp,Function.comp_def]using c
theorem xV{A:List (ByteArray×Tok)}{b ps:List TP}(a:eQ A b)(d:(kv (db ps)).Perm A)(e:ps.Pairwise λp q=>cp q.2.text p.2.text=false):db ps=db b:=by
 refine tQ (λt:Tok=>t.text) a.fU ?_ (by rw[db,ae0];exact e)
 have c:=(d.trans a.pm.symm).map (·.2)
 simpa[kv,Function.comp_def]using c
theorem Ng{C:List (cB×List ByteArray)}{f ps:List NP}(g:gh C f)(o:(ps.map (·.2)).Perm C)(r:ps.Pairwise λp q=>aA dx q p=false):ps.map (·.2)=f.map (·.2):=by
 have m:=o.trans g.pm.symm
 have d:(f.map (·.2)).Pairwise λa b=>mW a.1 b.1<0:=by
  rw[ae0]
  exact g.fU.imp λ{a b} c=>by unfold aA dx at c;exact bx c
 refine List.Perm.eq_of_pairwise (le:=λa b:cB×List ByteArray=>¬mW b.1 a.1<0) (λa b e n s t=>?_) ?_ (d.imp λ{a b} c=>by have:=mX.sw a.1 b.1;omega) m
 ·have h:a.1=b.1:=yG.1 (by have:=mX.sw a.1 b.1;have:=mX.sw b.1 a.1;omega)
  have e:=m.mem_iff.1 e
  obtain⟨i,k,rfl⟩:=List.mem_iff_getElem.1 e
  obtain⟨j,l,rfl⟩:=List.mem_iff_getElem.1 n
  rw[List.pairwise_iff_getElem]at d
  rcases Nat.lt_trichotomy i j with hij|hij|hij
  ·have:=d i j k l hij
   rw[h,mX.refl]at this;omega
  ·subst hij;rfl
  ·have:=d j i l k hij
   rw[h,mX.refl]at this;omega
 ·rw[ae0]
  exact r.imp λ{a b} c=>by unfold aA dx at c;exact bo c
section
variable{RD R:av}{xb k:Nat}{s:cd}{H:aV}
structure yN(rs:List CP)(ns:List NP)(gs:List GP)(ts:List TP):Prop where
 r:rs.length<=64
 n:ns.length<=60
 g:gs.length<=60
 t:ts.length<=180
theorem DM.len{rs:List CP}{c:List NP}{b:List GP}{d:List TP}(h:DM RD s rs c b d)(a:OB s k)(j:k<=60):yN rs c b d:=by
 have f:=h.bn.len
 have g:=h.bg.len
 have i:=h.bt.len
 have e:=h.bc.pm.length_eq
 have:=a.A;have:=a.V;have:=a.C;have:=a.cs
 simp only[cQ,List.length_map]at e
 exact⟨by omega,by omega,by omega,by omega⟩
theorem DM.find{rs:List CP}{d:List NP}{a:List GP}{f:List TP}(h:DM RD s rs d a f){id:ByteArray}{z:Int}(b:pZ id (cQ rs) z):(cw id s.cs).isSome=decide (¬z<0):=by
 rw[h.bc.get]
 rcases b with⟨rfl,e⟩|⟨i,c,rfl,_,_,e⟩
 ·rw[e];decide
 ·rw[e]
  have:¬((i:Nat):Int)<0:=by omega
  simp[this]
theorem uj{rs:List CP}{c:List NP}{b:List GP}{d:List TP}(h:DM RD s rs c b d)(id a:ByteArray):jA id a s.cs=if(cw id (cQ rs)).map (·.cD)=some a then 0 else 17:=by
 unfold jA
 rw[h.bc.get]
theorem Ak{rs:List CP}{c:List NP}{b:List GP}{d:List TP}(h:DM RD s rs c b d)(id a:ByteArray):kp id a s.cs=kp id a (cQ rs):=by
 unfold kp
 rw[h.bc.get]
theorem uh{rs:List CP}{b:List NP}{a:List GP}{c:List TP}(h:DM RD s rs b a c)(id:ByteArray)(l:List ByteArray):eL id l s.cs=eL id l (cQ rs):=by
 unfold eL
 rw[h.bc.get]
theorem Mw(h:DS RD xb s H)(K:OB s k)(T:k<=60)(n:Int)(R:av):
    Spec prog 30 [pT xb,.int .i64 n] R H λu H'=>u=.int .i64 (eH s n).1/\DS RD xb (eH s n).2 H':=by
  have l:=h
  obtain⟨d,c,Q,v,g,f,M,y,J,I,S,U,rfl,D,C,N,O,m⟩:=h
  obtain⟨l1,l2,l3,l4⟩:=m.len K T
  have a0:=K.n0
  have a1:=K.n1
  have i1:=D.aw
  have i2:=C.aw
  have i3:=N.aw
  have i4:=O.aw
  refine Spec.body func30 rfl results30 ntmps30 rfl ?_
  refine .sr<|.ag rfl<|.zs<|.sr<|.mo rfl<|.q .lss<|.mo rfl ?_
  refine .split (t:=7) rfl (λb=>?_) (λb=>?_)
  refine .gF b<|.gF b<|.q (.aY b) ?_
  refine .zn<|.dF<|.sr<|.az rfl ?_
  refine .ret (aL (aR _ (.one (.tmp rfl)) rH ?_))
  ·first
      |(have e:eH s n=(2,s):=by
           have a:er n s.now=2:=by
             unfold er
             rw[aeK (by first|exact .inl (by simpa using b)|exact .inr (by simpa using p))]
           unfold eH;rw[a];rfl
        rw[e]
        exact⟨rfl,l⟩)
      |(have e:eH s n=(8,s):=by
           have a:er n s.now=8:=by unfold er;rw[aeJ (by omega),aeK (by have F:=bx r;omega)]
           unfold eH;rw[a];rfl
        rw[e]
        exact⟨rfl,l⟩)
      |(have e:eH s n=(0,{s with now:=s.now+n,A:=s.A.filter λx=>decide (s.now+n<x.2.cq),V:=s.V.filter λx=>decide (s.now+n<x.2.cq)}):=by
           have a:er n s.now=0:=by unfold er;rw[aeJ (by omega),aeJ G]
           unfold eH;rw[a];rfl
        rw[e]
        exact⟨rfl,d,c,i,w,g,f,j,o,J,I,_,_,rfl,D,C,B,E,m.qU (s.now+n)⟩)
  refine .gT b<|.mo rfl<|.gT b<|.q .gtr<|.q (.aS b) ?_
  refine .zn ?_
  refine .cond rfl (λp=>?_) λp=>?_
  refine .sr<|.az rfl ?_
  refine .ret (aL (aR _ (.one (.tmp rfl)) rH ?_))
  ·first
      |(have e:eH s n=(2,s):=by
           have a:er n s.now=2:=by
             unfold er
             rw[aeK (by first|exact .inl (by simpa using b)|exact .inr (by simpa using p))]
           unfold eH;rw[a];rfl
        rw[e]
        exact⟨rfl,l⟩)
      |(have e:eH s n=(8,s):=by
           have a:er n s.now=8:=by unfold er;rw[aeJ (by omega),aeK (by have F:=bx r;omega)]
           unfold eH;rw[a];rfl
        rw[e]
        exact⟨rfl,l⟩)
      |(have e:eH s n=(0,{s with now:=s.now+n,A:=s.A.filter λx=>decide (s.now+n<x.2.cq),V:=s.V.filter λx=>decide (s.now+n<x.2.cq)}):=by
           have a:er n s.now=0:=by unfold er;rw[aeJ (by omega),aeJ G]
           unfold eH;rw[a];rfl
        rw[e]
        exact⟨rfl,d,c,i,w,g,f,j,o,J,I,_,_,rfl,D,C,B,E,m.qU (s.now+n)⟩)
  have Y:0<=n/\n<=1073741824:=by simp at b p;omega
  refine .kn<|.seq<|.sr<|.mo rfl<|.mo rfl<|.nc rfl<|.fa rfl<|.lo rfl ?_
  refine .q (.i64 (1125899906842624-s.now) .sub ⟨by omega,by omega,by omega⟩) ?_
  refine .q .gtr<|.zn ?_
  refine .cond rfl (λr=>?_) λr=>?_
  refine .sr<|.az rfl ?_
  refine .ret (aL (aR _ (.one (.tmp rfl)) rH ?_))
  ·first
      |(have e:eH s n=(2,s):=by
           have a:er n s.now=2:=by
             unfold er
             rw[aeK (by first|exact .inl (by simpa using b)|exact .inr (by simpa using p))]
           unfold eH;rw[a];rfl
        rw[e]
        exact⟨rfl,l⟩)
      |(have e:eH s n=(8,s):=by
           have a:er n s.now=8:=by unfold er;rw[aeJ (by omega),aeK (by have F:=bx r;omega)]
           unfold eH;rw[a];rfl
        rw[e]
        exact⟨rfl,l⟩)
      |(have e:eH s n=(0,{s with now:=s.now+n,A:=s.A.filter λx=>decide (s.now+n<x.2.cq),V:=s.V.filter λx=>decide (s.now+n<x.2.cq)}):=by
           have a:er n s.now=0:=by unfold er;rw[aeJ (by omega),aeJ G]
           unfold eH;rw[a];rfl
        rw[e]
        exact⟨rfl,d,c,i,w,g,f,j,o,J,I,_,_,rfl,D,C,B,E,m.qU (s.now+n)⟩)
  have G:¬s.now>1125899906842624-n:=by have F:=bo r;omega
  refine .kn<|.sr<|.mo rfl<|.mo rfl<|.nc rfl<|.fa rfl<|.lo rfl<|.mo rfl ?_
  refine .q (.i64 (s.now+n) .add ⟨by omega,by omega,by omega⟩) ?_
  refine .nc rfl<|.fa rfl<|.cJ rfl rfl<|.zs ?_
  refine .df 7 mixed (by kernel_rfl) ?_
  conv=>arg 6;dsimp only[List.take]
  refine .mo rfl<|.nc rfl<|.fa rfl<|.mo rfl<|.nc rfl<|.fa rfl<|.lo rfl<|.nil ?_
  refine .sub (H':=[(xb,.cells [d,c,Q,v,.int .i64 s.last,.int .i64 (s.now+n)].toArray 44 (0,0))::M,g,f,y]) ((aI [0,2,0,0,0]).trans (aT.bu (by simp[take,aZ,cc]))) ?_
  refine .bW (Mn xb d c v s.last (s.now+n) S _ ⟨Q,M,rfl,N,by omega⟩ (s.now+n) R m.gr) (λu W L=>?_)
  obtain⟨rfl,i,j,rfl,B,Z⟩:=L
  have i6:=B.aw
  refine .sub (H':=[bl xb [d,c,i,v,.int .i64 s.last,.int .i64 (s.now+n)] 44,g,f,j,y]) ((aT.bu (H':=[bl xb [d,c,i,v,.int .i64 s.last,.int .i64 (s.now+n)] 44,j,g,f,y]) (by simp)).trans (aI [0,1,1,0,0])) ?_
  refine .zs ?_
  refine .df 7 mixed (by kernel_rfl) ?_
  conv=>arg 6;dsimp only[List.take]
  refine .mo rfl<|.nc rfl<|.fa rfl<|.mo rfl<|.nc rfl<|.fa rfl<|.lo rfl<|.nil ?_
  refine .sub (H':=[(xb,.cells [d,c,i,v,.int .i64 s.last,.int .i64 (s.now+n)].toArray 44 (0,0))::y,g,f,j]) ((aI [0,3,0,0,0]).trans (aT.bu (by simp[take,aZ]))) ?_
  refine .bW (My xb d c i (s.now+n) U s.last _ ⟨v,y,rfl,O,by omega⟩ (s.now+n) R m.tr) (λu X L=>?_)
  obtain⟨rfl,w,o,rfl,E,a2⟩:=L
  have i7:=E.aw
  refine .sub (H':=[bl xb [d,c,i,w,.int .i64 s.last,.int .i64 (s.now+n)] 44,g,f,j,o]) ((aT.bu (H':=[bl xb [d,c,i,w,.int .i64 s.last,.int .i64 (s.now+n)] 44,o,g,f,j]) (by simp)).trans (aI [0,1,1,1,0])) ?_
  refine .z<|.az rfl ?_
  refine .ret (aR _ (.one (.tmp rfl)) rH ?_)
  ·first
      |(have e:eH s n=(2,s):=by
           have a:er n s.now=2:=by
             unfold er
             rw[aeK (by first|exact .inl (by simpa using b)|exact .inr (by simpa using p))]
           unfold eH;rw[a];rfl
        rw[e]
        exact⟨rfl,l⟩)
      |(have e:eH s n=(8,s):=by
           have a:er n s.now=8:=by unfold er;rw[aeJ (by omega),aeK (by have F:=bx r;omega)]
           unfold eH;rw[a];rfl
        rw[e]
        exact⟨rfl,l⟩)
      |(have e:eH s n=(0,{s with now:=s.now+n,A:=s.A.filter λx=>decide (s.now+n<x.2.cq),V:=s.V.filter λx=>decide (s.now+n<x.2.cq)}):=by
           have a:er n s.now=0:=by unfold er;rw[aeJ (by omega),aeJ G]
           unfold eH;rw[a];rfl
        rw[e]
        exact⟨rfl,d,c,i,w,g,f,j,o,J,I,_,_,rfl,D,C,B,E,m.qU (s.now+n)⟩)
theorem Mu(h:DS RD xb s H)(Y:OB s k)(Z:k<=60)(id:ByteArray)(R:av)(a0:∀b o,RD b o->R b o):
    Spec prog 32 [pT xb,.string id] R H λu H'=>u=.int .i64 (fY s id).1/\DS RD xb (fY s id).2 H':=by
  have h0:=h
  obtain⟨X,w,v,i,V,y,x,j,g,T,K,U,rfl,W,F,E,G,a⟩:=h
  obtain⟨l1,l2,l3,l4⟩:=a.len Y Z
  have i1:=W.aw
  have i2:=F.aw
  have i3:=E.aw
  have i4:=G.aw
  have N:=a.bc.get id
  refine Spec.body func32 rfl results32 ntmps32 rfl ?_
  refine .sr<|.ag rfl<|.z<|.mo rfl<|.nc rfl<|.fa rfl<|.mo rfl ?_
  refine .sub (H':=[(xb,.cells [X,w,v,i,.int .i64 s.last,.int .i64 s.now].toArray 44 (0,0))::V,y,x,j]) (aT.bu (by simp)) ?_
  refine .bW (Mh xb w v i s.last s.now g _ ⟨X,V,rfl,W,l1⟩ id R (a.cr.mono a0) a.bc.nd) (λu T1 C=>?_)
  obtain⟨rfl,d,f,rfl,l,a1⟩:=C
  have i6:=l.aw
  rw[<-N]
  refine .sub (H':=[bl xb [d,w,v,i,.int .i64 s.last,.int .i64 s.now] 44,f,y,x,j]) (aT.bu (by simp)) ?_
  refine .ag rfl<|.zs<|.sr<|.mo rfl<|.q .bS<|.zn ?_
  refine .cond rfl (λA=>?_) λA=>?_
  have c:(cw id s.cs).isSome=true:=by
    cases e:(cw id s.cs).isSome with
    |true=>rfl
    |false=>rw[e]at A;simp at A
  refine .sr<|.mo rfl<|.nc rfl<|.fa rfl<|.mo rfl ?_
  refine .call [0,1,1] (xo xb d w v i s.last s.now T K y x F E (by omega) (by omega) id ⟨#[]⟩ _ a.nr a.gr) (λu H' C=>?_)
  obtain⟨n,m,t,r,rfl,rfl,O,M⟩:=C
  have i7:=O.aw
  have i8:=M.aw
  conv=>arg 8;simp only[rest,aZ,afp,afd]
  refine .sub (H':=[bl xb [d,n,m,i,.int .i64 s.last,.int .i64 s.now] 44,f,t,r,j]) (aI [0,2,0,0,0]) ?_
  refine .zn<|.region<|.mo rfl<|.nc rfl<|.fa rfl<|.mo rfl ?_
  refine .sub (H':=[(xb,.cells [d,n,m,i,.int .i64 s.last,.int .i64 s.now].toArray 44 (0,0))::j,f,t,r]) ((aI [0,3,0,0,0]).trans (aT.bu (by simp[take,aZ]))) ?_
  refine .bW (xC xb d n m s.now U s.last _ ⟨i,j,rfl,G,by omega⟩ id ⟨#[]⟩ R a.tr) (λu T4 C=>?_)
  obtain⟨rfl,I,D,rfl,S,a2⟩:=C
  have i9:=S.aw
  refine .sub (H':=[bl xb [d,n,m,I,.int .i64 s.last,.int .i64 s.now] 44,f,t,r,D]) ((aT.bu (H':=[bl xb [d,n,m,I,.int .i64 s.last,.int .i64 s.now] 44,D,f,t,r]) (by simp)).trans (aI [0,1,1,1,0])) ?_
  refine .z<|.mo rfl<|.az rfl ?_
  refine .ret (aR _ (.one (.tmp rfl)) rH ?_)
  ·first
      |(have e:fY s id=(0,({s with cs:=iV id s.cs}:cd).drop id e0):=by unfold fY;rw[c];rfl
        rw[e]
        exact⟨by rw[c];rfl,d,n,m,I,f,t,r,D,_,_,_,_,rfl,l,O,M,S,(a.uK id).drop id e0⟩)
      |(have e:fY s id=(11,s):=by unfold fY;rw[c];rfl
        rw[e]
        have J:lO id g=g:=ae2.2 λp Q=>aeR λL=>by
          have B:cw id (cQ g)=none:=by rw[<-N];exact afh.1 c|>afi.1
          unfold cw at B
          exact absurd L (by simpa using afl.1 B p.2 (aeN.2 ⟨p,Q,rfl⟩))
        rw[J]at l
        exact⟨by rw[c];rfl,d,w,v,i,f,y,x,j,g,T,K,U,rfl,l,F,E,G,a⟩)
  have c:(cw id s.cs).isSome=false:=by
    cases e:(cw id s.cs).isSome with
    |false=>rfl
    |true=>rw[e]at A;simp at A
  refine .kn<|.sr<|.mo rfl<|.az rfl ?_
  refine .ret (aR _ (.one (.tmp rfl)) rH ?_)
  ·first
      |(have e:fY s id=(0,({s with cs:=iV id s.cs}:cd).drop id e0):=by unfold fY;rw[c];rfl
        rw[e]
        exact⟨by rw[c];rfl,d,n,m,I,f,t,r,D,_,_,_,_,rfl,l,O,M,S,(a.uK id).drop id e0⟩)
      |(have e:fY s id=(11,s):=by unfold fY;rw[c];rfl
        rw[e]
        have J:lO id g=g:=ae2.2 λp Q=>aeR λL=>by
          have B:cw id (cQ g)=none:=by rw[<-N];exact afh.1 c|>afi.1
          unfold cw at B
          exact absurd L (by simpa using afl.1 B p.2 (aeN.2 ⟨p,Q,rfl⟩))
        rw[J]at l
        exact⟨by rw[c];rfl,d,w,v,i,f,y,x,j,g,T,K,U,rfl,l,F,E,G,a⟩)
theorem Mz(h:DS RD xb s H)(W:OB s k)(X:k<=60)(user id:ByteArray)(R:av):
    Spec prog 34 [pT xb,.string user,.string id] R H λu H'=>u=.int .i64 (ga s user id).1/\DS RD xb (ga s user id).2 H':=by
  have h0:=h
  obtain⟨a,V,j,f,c,S,n,g,U,d,G,Q,rfl,w,T,B,D,b⟩:=h
  obtain⟨l1,Y,l3,l4⟩:=b.len W X
  have i1:=w.aw
  have i2:=T.aw
  have i3:=B.aw
  have i4:=D.aw
  have a0:(d.filter λp=>decide (p.2.1≠(user,id))).length<=60:=aeP (aeQ _ _) Y
  refine Spec.body func34 rfl results34 ntmps34 rfl ?_
  refine .sr<|.ag rfl<|.zs<|.sr<|.mo rfl<|.nc rfl<|.fa rfl<|.mo rfl<|.mo rfl ?_
  refine .sub (H':=[(xb,.cells [a,V,j,f,.int .i64 s.last,.int .i64 s.now].toArray 44 (0,0))::S,c,n,g]) ((aI [0,1,0,0,0]).trans (aT.bu (by simp[take,aZ]))) ?_
  refine .bW (xy xb a j f s.last s.now d _ ⟨V,S,rfl,T,by omega⟩ s.C b.bn user id R b.nr) (λu Z x=>?_)
  obtain⟨rfl,y,v,rfl,t,a1⟩:=x
  have i6:=t.aw
  refine .sub (H':=[bl xb [a,y,j,f,.int .i64 s.last,.int .i64 s.now] 44,c,v,n,g]) ((aT.bu (H':=[bl xb [a,y,j,f,.int .i64 s.last,.int .i64 s.now] 44,v,c,n,g]) (by simp)).trans (aI [0,1,0,0,0])) ?_
  refine .q .not<|.zn ?_
  refine .cond rfl (λI=>?_) λI=>?_
  have i:(aU (user,id) s.C).isSome=false:=by simpa using I
  refine .sr<|.az rfl ?_
  refine .ret (aL (aR _ (.one (.tmp rfl)) rH ?_))
  ·first
      |(have e:ga s user id=(11,s):=by unfold ga;rw[i];rfl
        rw[e]
        have F:(d.filter λp=>decide (p.2.1≠(user,id)))=d:=ae2.2 λp N=>aeR λK=>by
          have J:aU (user,id) (d.map (·.2))=none:=by rw[b.bn.get];exact afh.1 i|>afi.1
          exact iA.1 J (aeN.2 ⟨p.2,aeN.2 ⟨p,N,rfl⟩,K⟩)
        rw[F]at t
        exact⟨rfl,a,y,j,f,c,v,n,g,U,d,G,Q,rfl,w,t,B,D,b⟩)
      |(have e:ga s user id=(0,({s with C:=dO (user,id) s.C}:cd).drop id user):=by unfold ga;rw[i];rfl
        rw[e]
        exact⟨rfl,a,m,l,E,c,r,o,A,_,_,_,_,rfl,w,M,L,O,(b.rG user id).drop id user⟩)
  have i:(aU (user,id) s.C).isSome=true:=by simpa using I
  refine .kn<|.sr<|.mo rfl<|.nc rfl<|.fa rfl<|.mo rfl<|.mo rfl ?_
  refine .call [0,1,1] (xo xb a y j f s.last s.now _ G v n t B (by omega) (by omega) id user _ (b.rG user id).nr b.gr) (λu H' x=>?_)
  obtain⟨m,l,r,o,rfl,rfl,M,L⟩:=x
  have i7:=M.aw
  have i8:=L.aw
  conv=>arg 8;simp only[rest,aZ,afp,afd]
  refine .sub (H':=[bl xb [a,m,l,f,.int .i64 s.last,.int .i64 s.now] 44,c,r,o,g]) (aI [0,2,0,0,0]) ?_
  refine .z<|.mo rfl<|.nc rfl<|.fa rfl<|.mo rfl<|.mo rfl ?_
  refine .sub (H':=[(xb,.cells [a,m,l,f,.int .i64 s.last,.int .i64 s.now].toArray 44 (0,0))::g,c,r,o]) ((aI [0,3,0,0,0]).trans (aT.bu (by simp[take,aZ]))) ?_
  refine .bW (xC xb a m l s.now Q s.last _ ⟨f,g,rfl,D,by omega⟩ id user R b.tr) (λu T4 x=>?_)
  obtain⟨rfl,E,A,rfl,O,a2⟩:=x
  have i9:=O.aw
  refine .sub (H':=[bl xb [a,m,l,E,.int .i64 s.last,.int .i64 s.now] 44,c,r,o,A]) ((aT.bu (H':=[bl xb [a,m,l,E,.int .i64 s.last,.int .i64 s.now] 44,A,c,r,o]) (by simp)).trans (aI [0,1,1,1,0])) ?_
  refine .z<|.az rfl ?_
  refine .ret (aR _ (.one (.tmp rfl)) rH ?_)
  ·first
      |(have e:ga s user id=(11,s):=by unfold ga;rw[i];rfl
        rw[e]
        have F:(d.filter λp=>decide (p.2.1≠(user,id)))=d:=ae2.2 λp N=>aeR λK=>by
          have J:aU (user,id) (d.map (·.2))=none:=by rw[b.bn.get];exact afh.1 i|>afi.1
          exact iA.1 J (aeN.2 ⟨p.2,aeN.2 ⟨p,N,rfl⟩,K⟩)
        rw[F]at t
        exact⟨rfl,a,y,j,f,c,v,n,g,U,d,G,Q,rfl,w,t,B,D,b⟩)
      |(have e:ga s user id=(0,({s with C:=dO (user,id) s.C}:cd).drop id user):=by unfold ga;rw[i];rfl
        rw[e]
        exact⟨rfl,a,m,l,E,c,r,o,A,_,_,_,_,rfl,w,M,L,O,(b.rG user id).drop id user⟩)
end
section
variable{RD R:av}{xb k:Nat}{s:cd}{H:aV}
theorem DS.mono(h:DS RD xb s H){R':av}(i:∀b o,RD b o->R' b o):DS R' xb s H:=by
 obtain⟨v,u,t,w,d,c,a,f,q,p,g,r,e,m,l,j,n,k⟩:=h
 exact⟨v,u,t,w,d,c,a,f,q,p,g,r,e,m,l,j,n,k.mono i⟩
theorem qg{id:ByteArray}{l:List ByteArray}{cs:List bA}(h:eL id l cs=true):l≠[]:=λe=>by
 subst e
 unfold eL at h
 simp at h
theorem Mf(h:DS RD xb s H)(d:OB s k)(hk:k<=60)(user id:ByteArray)(B:user.size<=9223372036854775807)(vs:Value)(c:List ByteArray)(a0:RS RD 1 bB vs c)(a3:c.length<=6)(R:av)(W:∀b o,RD b o->R b o):
    Spec prog 33 [pT xb,.string user,.string id,vs] R H λu H'=>u=.int .i64 (dV s user id c).1/\∃Hs Td,H'=Hs++[Td]/\DS (λb o=>RD b o\/sg Td b o) xb (dV s user id c).2 Hs:=by
  have v:=h
  obtain⟨n,K,m,r,t,Z,D,E,N,ns,U,Y,rfl,J,hn,Q,T,y⟩:=h
  obtain⟨l1,l2,l3,l4⟩:=y.len d hk
  have i1:=J.aw
  have i2:=hn.aw
  have i3:=Q.aw
  have i4:=T.aw
  have a4:=a0.aw
  have a1:(dD s.C user id).length<=1000:=by
    unfold dD
    cases e:aU (user,id) s.C with
    |none=>simp
    |some l=>
     have:=d.cl _ (fH e)
     simp only[afk]
     simp only at this
     omega
  refine Spec.dg (H':=[bl xb [n,K,m,r,.int .i64 s.last,.int .i64 s.now] 44,t,Z,D,E,[]]) (by simp) ?_
  refine Spec.body func33 rfl results33 ntmps33 rfl ?_
  refine .sr<|.ag rfl<|.zs<|.sr<|.mo rfl ?_
  refine .aM (sH user B _) (λu B=>?_)
  subst B
  refine .q .not<|.zn ?_
  refine .cond rfl (λi=>?_) λi=>?_
  refine .sr<|.az rfl ?_
  refine .ret (aL (aR _ (.one (.tmp rfl)) rH ?_))
  ·first
      |(have e:dV s user id c=(9,s):=by
           have f:dJ s.cs user id c=9:=by unfold dJ;rw[aeK (by simpa using i)]
           unfold dV;rw[f];rfl
        rw[e]
        exact⟨rfl,[_,_,_,_,_],[],rfl,v.mono λb o d=>.inl d⟩)
      |(have e:dV s user id c=(17,s):=by
           have f:dJ s.cs user id c=17:=by
             unfold dJ
             rw[aeJ (by simpa using i),aeK (by rw[w];have g:=bx j;simp;omega)]
           unfold dV;rw[f];rfl
        rw[e]
        exact⟨rfl,[_,_,_,_,_],[],rfl,v.mono λb o d=>.inl d⟩)
      |(have e:dV s user id c=(19,s):=by
           have f:dJ s.cs user id c=19:=by
             unfold dJ
             rw[aeJ (by simpa using i),aeJ (by rw[w];have g:=bo j;simp;omega),aeK (by simpa using A)]
           unfold dV;rw[f];rfl
        rw[e]
        exact⟨rfl,[_,_,_,_,_],[],rfl,v.mono λb o d=>.inl d⟩)
      |(have x:eL id c s.cs=true:=by simpa using A
        have e:dV s user id c=(0,{s with C:=cT (user,id) (jo (dD s.C user id) c) s.C}):=by
          have f:dJ s.cs user id c=0:=by
            unfold dJ
            rw[aeJ (by simpa using i),aeJ (by rw[w];have g:=bo j;simp;omega),aeJ (by simp[x])]
          unfold dV;rw[f];rfl
        rw[e]
        have I:c.foldl eS (dD s.C user id)≠[]:=λG=>by
          cases c with
          |nil=>exact qg x rfl
          |cons a l9=>
           have g:a∈(a::l9).foldl eS (dD s.C user id):=nO.2 (.inr (by simp))
           rw[G]at g
           cases g
        rw[aeJ I]at F
        exact⟨rfl,[_,_,_,_,_],L,rfl,n,O,m,r,t,M,D,E,N,X,U,Y,rfl,J,S,Q,T,y.m2 (λb o d=>.inl d) F V⟩)
  refine .kn<|.seq<|.sr<|.mo rfl<|.nc rfl<|.fa rfl<|.mo rfl ?_
  refine .aM (ni xb K m r s.last s.now N ((xb,.cells [n,K,m,r,.int .i64 s.last,.int .i64 s.now].toArray 44 (0,0))::t) ⟨n,t,rfl,J,l1⟩ id _ (y.cr.mono λb o d=>.inl (W b o d)) (λp hp=>.inr (by
    rcases aeL.1 hp with rfl|hp
    ·simp
    ·simp[hp]))) (λu B=>?_)
  obtain⟨z,rfl,hz⟩:=B
  have w:=y.find hz
  refine .q .lss<|.zn ?_
  refine .cond rfl (λj=>?_) λj=>?_
  refine .sr<|.az rfl ?_
  refine .ret (aL (aR _ (.one (.tmp rfl)) rH ?_))
  ·first
      |(have e:dV s user id c=(9,s):=by
           have f:dJ s.cs user id c=9:=by unfold dJ;rw[aeK (by simpa using i)]
           unfold dV;rw[f];rfl
        rw[e]
        exact⟨rfl,[_,_,_,_,_],[],rfl,v.mono λb o d=>.inl d⟩)
      |(have e:dV s user id c=(17,s):=by
           have f:dJ s.cs user id c=17:=by
             unfold dJ
             rw[aeJ (by simpa using i),aeK (by rw[w];have g:=bx j;simp;omega)]
           unfold dV;rw[f];rfl
        rw[e]
        exact⟨rfl,[_,_,_,_,_],[],rfl,v.mono λb o d=>.inl d⟩)
      |(have e:dV s user id c=(19,s):=by
           have f:dJ s.cs user id c=19:=by
             unfold dJ
             rw[aeJ (by simpa using i),aeJ (by rw[w];have g:=bo j;simp;omega),aeK (by simpa using A)]
           unfold dV;rw[f];rfl
        rw[e]
        exact⟨rfl,[_,_,_,_,_],[],rfl,v.mono λb o d=>.inl d⟩)
      |(have x:eL id c s.cs=true:=by simpa using A
        have e:dV s user id c=(0,{s with C:=cT (user,id) (jo (dD s.C user id) c) s.C}):=by
          have f:dJ s.cs user id c=0:=by
            unfold dJ
            rw[aeJ (by simpa using i),aeJ (by rw[w];have g:=bo j;simp;omega),aeJ (by simp[x])]
          unfold dV;rw[f];rfl
        rw[e]
        have I:c.foldl eS (dD s.C user id)≠[]:=λG=>by
          cases c with
          |nil=>exact qg x rfl
          |cons a l9=>
           have g:a∈(a::l9).foldl eS (dD s.C user id):=nO.2 (.inr (by simp))
           rw[G]at g
           cases g
        rw[aeJ I]at F
        exact⟨rfl,[_,_,_,_,_],L,rfl,n,O,m,r,t,M,D,E,N,X,U,Y,rfl,J,S,Q,T,y.m2 (λb o d=>.inl d) F V⟩)
  refine .kn<|.seq<|.sr<|.mo rfl<|.nc rfl<|.fa rfl<|.mo rfl<|.mo rfl ?_
  refine .aM (xq xb K m r s.last s.now N ((xb,.cells [n,K,m,r,.int .i64 s.last,.int .i64 s.now].toArray 44 (0,0))::t) ⟨n,t,rfl,J,l1⟩ id vs c _ (y.cr.mono λb o d=>.inl (W b o d)) (λp hp=>.inr (by
    rcases aeL.1 hp with rfl|hp
    ·simp
    ·simp[hp])) (a0.mono λb o d=>.inl (W b o d))) (λu B=>?_)
  subst B
  rw[<-uh y]
  refine .q .not<|.zn ?_
  refine .cond rfl (λA=>?_) λA=>?_
  refine .sr<|.az rfl ?_
  refine .ret (aL (aR _ (.one (.tmp rfl)) rH ?_))
  ·first
      |(have e:dV s user id c=(9,s):=by
           have f:dJ s.cs user id c=9:=by unfold dJ;rw[aeK (by simpa using i)]
           unfold dV;rw[f];rfl
        rw[e]
        exact⟨rfl,[_,_,_,_,_],[],rfl,v.mono λb o d=>.inl d⟩)
      |(have e:dV s user id c=(17,s):=by
           have f:dJ s.cs user id c=17:=by
             unfold dJ
             rw[aeJ (by simpa using i),aeK (by rw[w];have g:=bx j;simp;omega)]
           unfold dV;rw[f];rfl
        rw[e]
        exact⟨rfl,[_,_,_,_,_],[],rfl,v.mono λb o d=>.inl d⟩)
      |(have e:dV s user id c=(19,s):=by
           have f:dJ s.cs user id c=19:=by
             unfold dJ
             rw[aeJ (by simpa using i),aeJ (by rw[w];have g:=bo j;simp;omega),aeK (by simpa using A)]
           unfold dV;rw[f];rfl
        rw[e]
        exact⟨rfl,[_,_,_,_,_],[],rfl,v.mono λb o d=>.inl d⟩)
      |(have x:eL id c s.cs=true:=by simpa using A
        have e:dV s user id c=(0,{s with C:=cT (user,id) (jo (dD s.C user id) c) s.C}):=by
          have f:dJ s.cs user id c=0:=by
            unfold dJ
            rw[aeJ (by simpa using i),aeJ (by rw[w];have g:=bo j;simp;omega),aeJ (by simp[x])]
          unfold dV;rw[f];rfl
        rw[e]
        have I:c.foldl eS (dD s.C user id)≠[]:=λG=>by
          cases c with
          |nil=>exact qg x rfl
          |cons a l9=>
           have g:a∈(a::l9).foldl eS (dD s.C user id):=nO.2 (.inr (by simp))
           rw[G]at g
           cases g
        rw[aeJ I]at F
        exact⟨rfl,[_,_,_,_,_],L,rfl,n,O,m,r,t,M,D,E,N,X,U,Y,rfl,J,S,Q,T,y.m2 (λb o d=>.inl d) F V⟩)
  refine .kn<|.sr<|.mo rfl<|.nc rfl<|.fa rfl<|.mo rfl<|.mo rfl<|.mo rfl ?_
  refine .sub (H':=[(xb,.cells [n,K,m,r,.int .i64 s.last,.int .i64 s.now].toArray 44 (0,0))::Z,t,D,E,[]]) ((aI [0,1,0,0,0,0]).trans (aT.bu (by simp[take,aZ]))) ?_
  refine .call [0] (Mq xb n m r s.last s.now ns _ ⟨K,Z,rfl,hn,by omega⟩ (by omega) s.C y.bn user id vs c _ a0 y.nr (λb o d=>.inl (W b o d)) a1 (by omega)) (λu H' B=>?_)
  obtain⟨T1,L,rfl,rfl,X,⟨O,M,rfl,S,a2⟩,F,V⟩:=B
  have i6:=S.aw
  conv=>arg 8;simp only[rest,aZ,afp,afd]
  refine .sub (H':=[bl xb [n,O,m,r,.int .i64 s.last,.int .i64 s.now] 44,t,M,D,E,L]) ((aT.bu (H':=[bl xb [n,O,m,r,.int .i64 s.last,.int .i64 s.now] 44,M,L,t,D,E]) (by simp)).trans (aI [0,2,0,1,1,0])) ?_
  refine .z<|.az rfl ?_
  refine .ret (aR _ (.one (.tmp rfl)) rH ?_)
  ·first
      |(have e:dV s user id c=(9,s):=by
           have f:dJ s.cs user id c=9:=by unfold dJ;rw[aeK (by simpa using i)]
           unfold dV;rw[f];rfl
        rw[e]
        exact⟨rfl,[_,_,_,_,_],[],rfl,v.mono λb o d=>.inl d⟩)
      |(have e:dV s user id c=(17,s):=by
           have f:dJ s.cs user id c=17:=by
             unfold dJ
             rw[aeJ (by simpa using i),aeK (by rw[w];have g:=bx j;simp;omega)]
           unfold dV;rw[f];rfl
        rw[e]
        exact⟨rfl,[_,_,_,_,_],[],rfl,v.mono λb o d=>.inl d⟩)
      |(have e:dV s user id c=(19,s):=by
           have f:dJ s.cs user id c=19:=by
             unfold dJ
             rw[aeJ (by simpa using i),aeJ (by rw[w];have g:=bo j;simp;omega),aeK (by simpa using A)]
           unfold dV;rw[f];rfl
        rw[e]
        exact⟨rfl,[_,_,_,_,_],[],rfl,v.mono λb o d=>.inl d⟩)
      |(have x:eL id c s.cs=true:=by simpa using A
        have e:dV s user id c=(0,{s with C:=cT (user,id) (jo (dD s.C user id) c) s.C}):=by
          have f:dJ s.cs user id c=0:=by
            unfold dJ
            rw[aeJ (by simpa using i),aeJ (by rw[w];have g:=bo j;simp;omega),aeJ (by simp[x])]
          unfold dV;rw[f];rfl
        rw[e]
        have I:c.foldl eS (dD s.C user id)≠[]:=λG=>by
          cases c with
          |nil=>exact qg x rfl
          |cons a l9=>
           have g:a∈(a::l9).foldl eS (dD s.C user id):=nO.2 (.inr (by simp))
           rw[G]at g
           cases g
        rw[aeJ I]at F
        exact⟨rfl,[_,_,_,_,_],L,rfl,n,O,m,r,t,M,D,E,N,X,U,Y,rfl,J,S,Q,T,y.m2 (λb o d=>.inl d) F V⟩)
theorem o8(h:DS RD xb s H)(I:OB s k)(J:k<=60)(a r:ByteArray)(R:av)(X:∀b o,RD b o->R b o)(F:∀b o,(b,o)∈H.flatten->R b o):
    Spec prog 111 [pT xb,.string a,.string r] R [] λu H'=>u=.int .i64 (dG s a r)/\H'=[]:=by
  obtain⟨D,C,B,x,O,N,M,Q,rs,ns,S,A,rfl,W,U,f,G,d⟩:=h
  obtain⟨Z,l2,l3,l4⟩:=d.len I J
  have Y:=G.aw
  have L:PC R (pT xb) [D,C,B,x,.int .i64 s.last,.int .i64 s.now]:=PC.of (E:=44) (fr:=(0,0)) (F _ _ (by simp))
  have a0:PC R (cK (pT xb) 3) [x,.int .i64 s.last,.int .i64 s.now]:=L.add 3
  have y:RS R 9 bE x A:=G.rs λp K=>F _ _ (by simp[K])
  have T:=d.bt.len
  refine Spec.body func111 rfl results111 ntmps111 rfl ?_
  refine .sr<|.ag rfl<|.zs<|.sr<|.mo rfl<|.nc rfl<|.fa rfl<|.mo rfl ?_
  refine .aM (o9 xb D C B s.now x s.last A a _ y.rx d.tr) (λu z=>?_)
  obtain⟨z1,rfl,m⟩:=z
  refine .q .geq<|.mo rfl ?_
  refine .split (t:=13) rfl (λe=>?_) (λe=>?_)
  refine .gF e<|.gF e<|.gF e<|.gF e<|.gF e<|.gF e<|.q (.aY e) ?_
  refine .zn<|.dF<|.sr<|.az rfl ?_
  refine .ret (aL (aO rfl ?_))
  ·first
      |(have c:=bx e
        obtain⟨i,w,t,_,_,_,f⟩:=m.at d.bt (by omega)
        exact⟨by unfold dG;rw[aeK (.inl (by rw[f];rfl))],rfl⟩)
      |(have c:=bx l
        obtain⟨i,w,t,_,_,_,f⟩:=n.at d.bt (by omega)
        exact⟨by unfold dG;rw[aeK (.inr (by rw[f];rfl))],rfl⟩)
      |(have g:aU a s.V=none:=by rw[<-d.bt.get];exact m.neg (by have c:=bo e;omega)
        have j:aU r s.V=none:=by rw[<-d.bt.get];exact n.neg (by have c:=bo l;omega)
        have c:=bx v
        exact⟨by unfold dG;rw[aeJ (by rw[g,j];simp),aeK (by omega)],rfl⟩)
      |(have g:aU a s.V=none:=by rw[<-d.bt.get];exact m.neg (by have c:=bo e;omega)
        have j:aU r s.V=none:=by rw[<-d.bt.get];exact n.neg (by have c:=bo l;omega)
        have c:=bo v
        exact⟨by unfold dG;rw[aeJ (by rw[g,j];simp),aeJ (by omega)],rfl⟩)
  refine .gT e<|.mo rfl<|.gT e<|.nc rfl<|.gT e<|.fa rfl<|.gT e<|.mo rfl<|.gT e ?_
  refine .aM (o9 xb D C B s.now x s.last A r _ y.rx d.tr) (λu z=>?_)
  obtain⟨z2,rfl,n⟩:=z
  refine .gT e<|.q .geq<|.q (.aS e) ?_
  refine .zn ?_
  refine .cond rfl (λl=>?_) λl=>?_
  refine .sr<|.az rfl ?_
  refine .ret (aL (aO rfl ?_))
  ·first
      |(have c:=bx e
        obtain⟨i,w,t,_,_,_,f⟩:=m.at d.bt (by omega)
        exact⟨by unfold dG;rw[aeK (.inl (by rw[f];rfl))],rfl⟩)
      |(have c:=bx l
        obtain⟨i,w,t,_,_,_,f⟩:=n.at d.bt (by omega)
        exact⟨by unfold dG;rw[aeK (.inr (by rw[f];rfl))],rfl⟩)
      |(have g:aU a s.V=none:=by rw[<-d.bt.get];exact m.neg (by have c:=bo e;omega)
        have j:aU r s.V=none:=by rw[<-d.bt.get];exact n.neg (by have c:=bo l;omega)
        have c:=bx v
        exact⟨by unfold dG;rw[aeJ (by rw[g,j];simp),aeK (by omega)],rfl⟩)
      |(have g:aU a s.V=none:=by rw[<-d.bt.get];exact m.neg (by have c:=bo e;omega)
        have j:aU r s.V=none:=by rw[<-d.bt.get];exact n.neg (by have c:=bo l;omega)
        have c:=bo v
        exact⟨by unfold dG;rw[aeJ (by rw[g,j];simp),aeJ (by omega)],rfl⟩)
  refine .kn<|.seq<|.sr<|.mo rfl<|.nc rfl<|.fa rfl<|.fa rfl<|.lo rfl<|.q (.dl y) ?_
  refine .q .gtr<|.zn ?_
  refine .cond rfl (λv=>?_) λv=>?_
  refine .sr<|.az rfl ?_
  refine .ret (aL (aO rfl ?_))
  ·first
      |(have c:=bx e
        obtain⟨i,w,t,_,_,_,f⟩:=m.at d.bt (by omega)
        exact⟨by unfold dG;rw[aeK (.inl (by rw[f];rfl))],rfl⟩)
      |(have c:=bx l
        obtain⟨i,w,t,_,_,_,f⟩:=n.at d.bt (by omega)
        exact⟨by unfold dG;rw[aeK (.inr (by rw[f];rfl))],rfl⟩)
      |(have g:aU a s.V=none:=by rw[<-d.bt.get];exact m.neg (by have c:=bo e;omega)
        have j:aU r s.V=none:=by rw[<-d.bt.get];exact n.neg (by have c:=bo l;omega)
        have c:=bx v
        exact⟨by unfold dG;rw[aeJ (by rw[g,j];simp),aeK (by omega)],rfl⟩)
      |(have g:aU a s.V=none:=by rw[<-d.bt.get];exact m.neg (by have c:=bo e;omega)
        have j:aU r s.V=none:=by rw[<-d.bt.get];exact n.neg (by have c:=bo l;omega)
        have c:=bo v
        exact⟨by unfold dG;rw[aeJ (by rw[g,j];simp),aeJ (by omega)],rfl⟩)
  refine .kn<|.sr<|.az rfl ?_
  refine .ret (aO rfl ?_)
  ·first
      |(have c:=bx e
        obtain⟨i,w,t,_,_,_,f⟩:=m.at d.bt (by omega)
        exact⟨by unfold dG;rw[aeK (.inl (by rw[f];rfl))],rfl⟩)
      |(have c:=bx l
        obtain⟨i,w,t,_,_,_,f⟩:=n.at d.bt (by omega)
        exact⟨by unfold dG;rw[aeK (.inr (by rw[f];rfl))],rfl⟩)
      |(have g:aU a s.V=none:=by rw[<-d.bt.get];exact m.neg (by have c:=bo e;omega)
        have j:aU r s.V=none:=by rw[<-d.bt.get];exact n.neg (by have c:=bo l;omega)
        have c:=bx v
        exact⟨by unfold dG;rw[aeJ (by rw[g,j];simp),aeK (by omega)],rfl⟩)
      |(have g:aU a s.V=none:=by rw[<-d.bt.get];exact m.neg (by have c:=bo e;omega)
        have j:aU r s.V=none:=by rw[<-d.bt.get];exact n.neg (by have c:=bo l;omega)
        have c:=bo v
        exact⟨by unfold dG;rw[aeJ (by rw[g,j];simp),aeJ (by omega)],rfl⟩)
theorem xp(h:DS RD xb s H)(i:OB s k)(C:k<=60)(id d:ByteArray)(va B:Value)(a r:List UInt8)(R:av)(z:RS R 1 cO va a)(A:RS R 1 cO B r)(F:∀b o,RD b o->R b o)(y:∀b o,(b,o)∈H.flatten->R b o):
    Spec prog 108 [pT xb,.string id,.string d,va,B] R [] λu H'=>u=.int .i64 (eA s id d a r)/\H'=[]:=by
  obtain⟨n,m,l,v,w,L,K,M,J,Y,N,ts,rfl,D,Q,O,S,j⟩:=h
  obtain⟨I,V,W,X⟩:=j.len i C
  have T:=z.aw
  have U:=A.aw
  have Z:PC R (pT xb) [n,m,l,v,.int .i64 s.last,.int .i64 s.now]:=PC.of (E:=44) (fr:=(0,0)) (y _ _ (by simp))
  refine Spec.body func108 rfl results108 ntmps108 rfl ?_
  refine .sr<|.ag rfl<|.zs<|.sr<|.mo rfl<|.q (.dl z) ?_
  refine .q .dL<|.mo rfl ?_
  refine .split (t:=14) rfl (λc=>?_) (λc=>?_)
  refine .gF c<|.gF c<|.gF c<|.q (.aY c) ?_
  refine .zn<|.dF<|.sr<|.az rfl ?_
  refine .ret (aL (aO rfl ?_))
  ·first
      |(have e:eA s id d a r=2:=by
           unfold eA
           rw[aeK (by
             first
               |(have f:¬((a.length:Nat):Int)=24:=by simpa using c
                 exact .inl (by omega))
               |(have f:¬((r.length:Nat):Int)=24:=by simpa using g
                 exact .inr (by omega)))]
        rw[e]
        exact⟨rfl,rfl⟩)
      |(have e:eA s id d a r=jA id d s.cs:=by
           unfold eA
           rw[aeJ (by
             have f:((a.length:Nat):Int)=24:=by simpa using c
             have x:((r.length:Nat):Int)=24:=by simpa using g
             omega)]
        rw[e]
        exact⟨rfl,rfl⟩)
  refine .gT c<|.mo rfl<|.gT c<|.q (.dl A) ?_
  refine .gT c<|.q .dL<|.q (.aS c) ?_
  refine .zn ?_
  refine .cond rfl (λg=>?_) λg=>?_
  refine .sr<|.az rfl ?_
  refine .ret (aL (aO rfl ?_))
  ·first
      |(have e:eA s id d a r=2:=by
           unfold eA
           rw[aeK (by
             first
               |(have f:¬((a.length:Nat):Int)=24:=by simpa using c
                 exact .inl (by omega))
               |(have f:¬((r.length:Nat):Int)=24:=by simpa using g
                 exact .inr (by omega)))]
        rw[e]
        exact⟨rfl,rfl⟩)
      |(have e:eA s id d a r=jA id d s.cs:=by
           unfold eA
           rw[aeJ (by
             have f:((a.length:Nat):Int)=24:=by simpa using c
             have x:((r.length:Nat):Int)=24:=by simpa using g
             omega)]
        rw[e]
        exact⟨rfl,rfl⟩)
  refine .kn<|.sr<|.mo rfl<|.nc rfl<|.fa rfl<|.mo rfl<|.mo rfl ?_
  refine .aM (xr xb m l v s.last s.now J ((xb,.cells [n,m,l,v,.int .i64 s.last,.int .i64 s.now].toArray 44 (0,0))::w) ⟨n,w,rfl,D,I⟩ id d _ (j.cr.mono λb o i=>.inl (F b o i)) (λp hp=>.inl (y _ _ (by
    rcases aeL.1 hp with rfl|hp
    ·simp
    ·simp[hp])))) (λu G=>?_)
  subst G
  rw[<-uj j]
  refine .az rfl ?_
  refine .ret (aO rfl ?_)
  ·first
      |(have e:eA s id d a r=2:=by
           unfold eA
           rw[aeK (by
             first
               |(have f:¬((a.length:Nat):Int)=24:=by simpa using c
                 exact .inl (by omega))
               |(have f:¬((r.length:Nat):Int)=24:=by simpa using g
                 exact .inr (by omega)))]
        rw[e]
        exact⟨rfl,rfl⟩)
      |(have e:eA s id d a r=jA id d s.cs:=by
           unfold eA
           rw[aeJ (by
             have f:((a.length:Nat):Int)=24:=by simpa using c
             have x:((r.length:Nat):Int)=24:=by simpa using g
             omega)]
        rw[e]
        exact⟨rfl,rfl⟩)
theorem qF(h:DS RD xb s H)(z:OB s k)(Y:k<=60)(a r:ByteArray)(w:Value)(t:Tok)(m:dS RD (w,t))(R:av):
  Spec prog 113 [pT xb,.string a,.string r,.agg (bE (w,t)).toArray] R H λu H'=>u=.tuple #[]/\DS RD xb {s with V:=gO s.V s.last s.now a r t} H':=by
 obtain⟨g,f,d,G,l,j,i,C,rs,ns,S,ts,rfl,M,L,K,N,n⟩:=h
 obtain⟨l1,l2,l3,l4⟩:=n.len z Y
 have a4:=z.n0
 have a5:=z.n1
 have i1:=M.aw
 have i2:=L.aw
 have i3:=K.aw
 have i4:=N.aw
 have it:bJ (bE (w,t)):=⟨m.bG⟩
 have iw:One w:=RS.aw m
 refine Spec.body func113 rfl results113 ntmps113 rfl ?_
 refine .sr ?_
 refine .dv rfl (λx=>?_)
 refine .zs ?_
 refine bQ.ld [(0,_),(2,_),(7,_)] kE.c.c.c (X:=Unit) (λ_=>True) (λ_ E=>E) (λ_=>[bl x (bE (w,hP a 1 (s.now+600) t)) 58,bl xb [g,f,d,G,.int .i64 s.last,.int .i64 s.now] 44,l,j,i,C]) ?_ ?_
 refine .qG [0] [7,9,11] mixed ?_
 conv=>arg 3;simp only[take,rest,aZ,afa,afb]
 conv=>arg 5;simp only[take,rest,aZ,afa,afb]
 conv=>arg 9;simp only[take,rest,aZ,afa,afb]
 refine .tO 0 rfl .move<|.tK 1 rfl .move ?_
 refine .tK 2 rfl (.mN rfl) ?_
 refine .tK 3 rfl (.gy rfl) ?_
 refine .tK 4 rfl (.bN rfl) ?_
 refine .tK 5 rfl (.i64 (s.now+600) .add ⟨by omega,by omega,by omega⟩) ?_
 refine .tO 6 rfl (.fieldAddr rfl) ?_
 refine .sT 7 rfl ?_
 refine .cJ rfl rfl ?_
 refine .nil (Next.mod rfl ?_)
 refine .tK 8 rfl (.gy rfl) ?_
 refine .sT 9 rfl ?_
 refine .cJ rfl rfl ?_
 refine .nil (Next.mod rfl ?_)
 refine .tK 10 rfl (.gy rfl) ?_
 refine .sT 11 rfl ?_
 refine .cJ rfl rfl ?_
 refine .nil (Next.mod rfl ?_)
 refine RA.nil (by kernel_rfl) ?_
 ·exact aB () trivial kE.c.c.c rH
 intro y Z
 refine aD<|.seq ?_
 refine .df 4 mixed (by kernel_rfl) ?_
 conv=>arg 6;dsimp only[List.take]
 refine .mo rfl<|.nc rfl<|.fa rfl<|.q (.bK rfl)<|.nil ?_
 refine .sub (H':=[(xb,.cells [g,f,d,G,.int .i64 s.last,.int .i64 s.now].toArray 44 (0,0))::C,bl x (bE (w,hP a 1 (s.now+600) t)) 58,l,j,i]) ((aI [1,4,0,0,0,0]).trans (aT.bu (by simp[take,aZ]))) ?_
 refine .bW (xD xb g f d s.now ts s.last _ ⟨G,C,rfl,N,by omega⟩ (by omega) s.V n.bt w (hP a 1 (s.now+600) t) R m n.tr) (λu T2 F=>?_)
 obtain⟨rfl,a0,⟨B,v,rfl,O,a6⟩,T,J,a2⟩:=F
 have i6:=O.aw
 refine .sub (H':=[bl x (bE (w,hP a 1 (s.now+600) t)) 58,bl xb [g,f,d,B,.int .i64 s.last,.int .i64 s.now] 44,l,j,i,v]) ((aT.bu (H':=[bl xb [g,f,d,B,.int .i64 s.last,.int .i64 s.now] 44,v,bl x (bE (w,hP a 1 (s.now+600) t)) 58,l,j,i]) (by simp)).trans (aI [2,0,1,1,1,0])) ?_
 refine .zs ?_
 refine bQ.ld [(0,_),(7,_)] kE.c.c (X:=Unit) (λ_=>True) (λ_ E=>E) (λ_=>[bl x (bE (w,hP r 2 (s.now+100000) t)) 58,bl xb [g,f,d,B,.int .i64 s.last,.int .i64 s.now] 44,l,j,i,v]) ?_ ?_
 refine .qG [0] [7,9,11] mixed ?_
 conv=>arg 3;simp only[take,rest,aZ,afa,afb]
 conv=>arg 5;simp only[take,rest,aZ,afa,afb]
 conv=>arg 9;simp only[take,rest,aZ,afa,afb]
 refine .tO 0 rfl .move<|.tK 1 rfl .move ?_
 refine .tK 2 rfl (.mN rfl) ?_
 refine .tK 3 rfl (.gy rfl) ?_
 refine .tK 4 rfl (.bN rfl) ?_
 refine .tK 5 rfl (.i64 (s.now+100000) .add ⟨by omega,by omega,by omega⟩) ?_
 refine .tO 6 rfl (.fieldAddr rfl) ?_
 refine .sT 7 rfl ?_
 refine .cJ rfl rfl ?_
 refine .nil (Next.mod rfl ?_)
 refine .tK 8 rfl (.gy rfl) ?_
 refine .sT 9 rfl ?_
 refine .cJ rfl rfl ?_
 refine .nil (Next.mod rfl ?_)
 refine .tK 10 rfl (.gy rfl) ?_
 refine .sT 11 rfl ?_
 refine .cJ rfl rfl ?_
 refine .nil (Next.mod rfl ?_)
 refine RA.nil (by kernel_rfl) ?_
 ·exact aB () trivial kE.c.c rH
 intro y Z
 refine aD ?_
 refine .df 4 mixed (by kernel_rfl) ?_
 conv=>arg 6;dsimp only[List.take]
 refine .mo rfl<|.nc rfl<|.fa rfl<|.q (.bK rfl)<|.nil ?_
 refine .sub (H':=[(xb,.cells [g,f,d,B,.int .i64 s.last,.int .i64 s.now].toArray 44 (0,0))::v,l,j,i]) ((aI [1,4,1,1,1]).trans (aT.bu (by simp[take,aZ]))) ?_
 refine .bW (xD xb g f d s.now a0 s.last _ ⟨B,v,rfl,O,by omega⟩ (by omega) _ T w (hP r 2 (s.now+100000) t) R m (λp A=>(J p A).elim (n.tr p) λe=>e▸m)) (λu T4 F=>?_)
 obtain⟨rfl,a1,⟨I,D,rfl,Q,a7⟩,U,W,a3⟩:=F
 have i7:=Q.aw
 refine .sub (H':=[bl xb [g,f,d,I,.int .i64 s.last,.int .i64 s.now] 44,l,j,i,D]) ((aT.bu (H':=[bl xb [g,f,d,I,.int .i64 s.last,.int .i64 s.now] 44,D,l,j,i]) (by simp)).trans (aI [0,1,1,1,0])) ?_
 refine .nil<|eh _ .none rH ?_
 ·exact⟨rfl,g,f,d,I,l,j,i,D,rs,ns,S,a1,rfl,M,L,K,Q,n.db (λb o z=>z) U (λp A=>(W p A).elim (λA=>(J p A).elim (n.tr p) λe=>e▸m) λe=>e▸m)⟩
end
section
variable{RD R:av}{xb k:Nat}{s:cd}{H:aV}
theorem Mv(h:DS RD xb s H)(j:OB s k)(Q:k<=60)(id a c:ByteArray)(R:av)(S:∀b o,RD b o->R b o):
    Spec prog 38 [pT xb,.string id,.string a,.string c] R H λu H'=>u=.int .i64 (fZ s id a c).1/\DS RD xb (fZ s id a c).2 H':=by
  have G:=h
  obtain⟨g,f,d,v,i,n,m,E,D,N,F,U,rfl,t,A,y,M,l⟩:=h
  obtain⟨T,l2,l3,l4⟩:=l.len j Q
  have Z:=t.aw
  have i2:=A.aw
  have i3:=y.aw
  have i4:=M.aw
  refine Spec.body func38 rfl results38 ntmps38 rfl ?_
  refine .sr<|.ag rfl<|.z<|.mo rfl<|.nc rfl<|.fa rfl<|.mo rfl<|.mo rfl ?_
  refine .aM (xr xb f d v s.last s.now D ((xb,.cells [g,f,d,v,.int .i64 s.last,.int .i64 s.now].toArray 44 (0,0))::i) ⟨g,i,rfl,t,T⟩ id a _ (l.cr.mono λb o j=>.inl (S b o j)) (λp hp=>.inr (by
    rcases aeL.1 hp with rfl|hp
    ·simp
    ·simp[hp]))) (λu B=>?_)
  subst B
  rw[<-uj l]
  refine .ag rfl<|.zs<|.sr<|.mo rfl<|.q .dL<|.zn ?_
  refine .cond rfl (λx=>?_) λx=>?_
  have L:jA id a s.cs≠0:=by simpa using x
  refine .sr<|.mo rfl<|.az rfl ?_
  refine .ret (aL (aR _ (.one (.tmp rfl)) rH ?_))
  ·first
      |(have e:fZ s id a c=(jA id a s.cs,s):=by unfold fZ;rw[aeK L]
        rw[e]
        exact⟨rfl,G⟩)
      |(have e:fZ s id a c=((eU s.V c id).1,{s with V:=(eU s.V c id).2}):=by unfold fZ;rw[aeJ (by simp[K])]
        rw[e]
        exact⟨rfl,g,f,d,w,i,n,m,r,D,N,F,O,rfl,t,A,y,C,l.db (λb o j=>j) I J⟩)
  have K:jA id a s.cs=0:=by simpa using x
  refine .kn<|.sr<|.mo rfl<|.nc rfl<|.fa rfl<|.mo rfl<|.mo rfl ?_
  refine .sub (H':=[(xb,.cells [g,f,d,v,.int .i64 s.last,.int .i64 s.now].toArray 44 (0,0))::E,i,n,m]) ((aI [0,3,0,0,0]).trans (aT.bu (by simp[take,aZ]))) ?_
  refine .bW (Mx xb g f d s.now U s.last _ ⟨v,E,rfl,M,by omega⟩ s.V l.bt c id R l.tr) (λu W B=>?_)
  obtain⟨rfl,O,⟨w,r,rfl,C,Y⟩,I,J,X⟩:=B
  have i9:=C.aw
  refine .sub (H':=[bl xb [g,f,d,w,.int .i64 s.last,.int .i64 s.now] 44,i,n,m,r]) ((aT.bu (H':=[bl xb [g,f,d,w,.int .i64 s.last,.int .i64 s.now] 44,r,i,n,m]) (by simp)).trans (aI [0,1,1,1,0])) ?_
  refine .az rfl ?_
  refine .ret (aR _ (.one (.tmp rfl)) rH ?_)
  ·first
      |(have e:fZ s id a c=(jA id a s.cs,s):=by unfold fZ;rw[aeK L]
        rw[e]
        exact⟨rfl,G⟩)
      |(have e:fZ s id a c=((eU s.V c id).1,{s with V:=(eU s.V c id).2}):=by unfold fZ;rw[aeJ (by simp[K])]
        rw[e]
        exact⟨rfl,g,f,d,w,i,n,m,r,D,N,F,O,rfl,t,A,y,C,l.db (λb o j=>j) I J⟩)
end
end Go.Proofs.YtkkmbiojicgobaaGreatDoor
