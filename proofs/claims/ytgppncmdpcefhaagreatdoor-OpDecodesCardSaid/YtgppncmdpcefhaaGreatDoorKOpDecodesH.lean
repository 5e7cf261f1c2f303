/- What the law 'OpDecodes' uses. No condition. -/
import Derived.Test.YtgppncmdpcefhaaGreatDoorKOpDecodesA
import Derived.Test.YtgppncmdpcefhaaGreatDoorKOpDecodesB
import Derived.Test.YtgppncmdpcefhaaGreatDoorKOpDecodesF
import Derived.Test.YtgppncmdpcefhaaGreatDoorKOpDecodesG
namespace Go.Proofs.YtgppncmdpcefhaaGreatDoor
set_option linter.defProp false
def abF:=@decide_eq_true_eq
def abG:=@List.mem_map
def abH:=@if_neg
def abI:=@if_pos
def abJ:=@Bool.and_eq_true
def abK:=@List.map_cons
def abL:=@Bool.eq_iff_iff
def abM:=@List.mem_filter
def abN:=@Bool.or_eq_true
def abO:=@UInt8.not_lt
def abP:=@List.filter_cons
def abQ:=@List.nodup_cons
def abR:=@List.mem_cons
def abS:=@beq_iff_eq
def abT:=@UInt8.lt_irrefl
def abU:=@List.append_nil
def abV:=@Bool.eq_false_iff
def abW:=@List.perm_append_comm
def abX:=@List.filter_eq_self
def abY:=@List.map_append
def abZ:=@List.getElem?_eq_some_iff
def ab0:=@List.flatten_cons
def ab1:=@List.flatten_nil
def ab2:=@List.getD_cons_zero
def ab3:=@List.append_assoc
def ab4:=@List.map_map
def ab5:=@List.mem_append
def ab6:=@decide_eq_true
def ab7:=@List.pairwise_map
def ab8:=@List.flatMap_append
def ab9:=@UInt8.le_antisymm
def aca:=@List.mem_append_left
def acb:=@List.not_mem_nil
def acd:=@List.take_sublist
def ace:=@List.getD_cons_succ
open Tryz
set_option linter.unusedVariables false
set_option linter.unusedSimpArgs false
theorem Spec.oG{P:Program}{f:FuncId}{a:List Value}{v:Value}(h:∀w,Calls P f a.toArray w λe w'=>e=.returned v/\w'=w)(R:aC):Spec P f a R [] λu H'=>u=v/\H'=[]:=
 λw _ _=>(h w).mono λe w' ⟨c,b⟩=>⟨v,[],c,⟨rfl,rfl⟩,by subst b;exact⟨by simp,by simp⟩,by subst b;exact .refl _ _⟩
def dc(a b:ByteArray):Int:=Lib.compareBytes a.data.toList b.data.toList
theorem nJ:∀(a b:List UInt8),Lib.compareBytes a b<0↔Op.bytesLess a b=true
 |[],[]=>by simp[Lib.compareBytes,Op.bytesLess]
 |[],_::_=>by simp[Lib.compareBytes,Op.bytesLess]
 |_::_,[]=>by simp[Lib.compareBytes,Op.bytesLess]
 |x::a,y::b=>by
  have f:=nJ a b
  simp only[Lib.compareBytes,Op.bytesLess,abN,abJ,abF,abS]
  by_cases c:x<y
  ·simp[c]
  ·by_cases d:y<x
   ·have:x≠y:=λe=>by subst e;exact abT _ d
    simp[c,d,this]
   ·have:x=y:=ab9 (abO.1 d) (abO.1 c)
    subst this
    simp[c,f]
theorem nI:∀(a b:List UInt8),0<Lib.compareBytes a b↔Op.bytesLess b a=true
 |[],[]=>by simp[Lib.compareBytes,Op.bytesLess]
 |[],_::_=>by simp[Lib.compareBytes,Op.bytesLess]
 |_::_,[]=>by simp[Lib.compareBytes,Op.bytesLess]
 |x::a,y::b=>by
  have f:=nI a b
  simp only[Lib.compareBytes,Op.bytesLess,abN,abJ,abF,abS]
  by_cases c:x<y
  ·have d:¬y<x:=λh=>abT _ (UInt8.lt_trans c h)
   have:¬y=x:=λe=>by subst e;exact abT _ c
   simp[c,d,this]
  ·by_cases d:y<x
   ·simp[c,d]
   ·have:x=y:=ab9 (abO.1 d) (abO.1 c)
    subst this
    simp[c,f]
theorem nH:∀(a b:List UInt8),Lib.compareBytes a b=0↔a=b
 |[],[]=>by simp[Lib.compareBytes]
 |[],_::_=>by simp[Lib.compareBytes]
 |_::_,[]=>by simp[Lib.compareBytes]
 |x::a,y::b=>by
  have f:=nH a b
  simp only[Lib.compareBytes,List.cons.injEq]
  by_cases c:x<y
  ·have:¬x=y:=λe=>by subst e;exact abT _ c
   simp[c,this]
  ·by_cases d:y<x
   ·have:¬x=y:=λe=>by subst e;exact abT _ d
    simp[c,d,this]
   ·have:x=y:=ab9 (abO.1 d) (abO.1 c)
    subst this
    simp[c,f]
theorem nE:∀(a b c:List UInt8),Op.bytesLess a b=true->Op.bytesLess b c=true->Op.bytesLess a c=true
 |_,[],_,h,_=>by simp[Op.bytesLess]at h
 |_,_::_,[],_,h=>by simp[Op.bytesLess]at h
 |[],_::_,_::_,_,_=>by simp[Op.bytesLess]
 |x::a,y::b,z::c,h1,h2=>by
  simp only[Op.bytesLess,abN,abJ,abF,abS]at h1 h2⊢
  rcases h1 with h1|⟨rfl,h1⟩
  ·rcases h2 with h2|⟨rfl,h2⟩
   ·exact .inl (UInt8.lt_trans h1 h2)
   ·exact .inl h1
  ·rcases h2 with h2|⟨rfl,h2⟩
   ·exact .inl h2
   ·exact .inr ⟨rfl,nE a b c h1 h2⟩
theorem gO{a b:ByteArray}:dP a b=true↔dc a b<0:=by
 unfold dP dc;rw[ByteArray.toList_eq,ByteArray.toList_eq,nJ]
theorem kC{a b:ByteArray}:dP b a=true↔0<dc a b:=by
 unfold dP dc;rw[ByteArray.toList_eq,ByteArray.toList_eq,nI]
theorem lO{a b:ByteArray}:dc a b=0↔a=b:=by
 unfold dc
 rw[nH]
 exact⟨λh=>ByteArray.ext (Array.toList_inj.1 h),λh=>by rw[h]⟩
theorem o4(a:ByteArray):dP a a=false:=by
 cases h:dP a a with
 |false=>rfl
 |true=>have:=gO.1 h;rw[lO.2 rfl]at this;omega
theorem lN{a b c:ByteArray}(d:dP a b=true)(e:dP b c=true):dP a c=true:=by
 unfold dP at *;exact nE _ _ _ d e
theorem BW{a b:ByteArray}(c:dP a b=false)(d:dP b a=false):a=b:=by
 refine lO.1 ?_
 rcases Int.lt_trichotomy (dc a b) 0 with h|h|h
 ·rw[gO.2 h]at c;cases c
 ·exact h
 ·rw[kC.2 h]at d;cases d
theorem gl:SO dP:=⟨o4,λ_ _ _=>lN,λx y z b a=>by
 cases h:dP x z with
 |false=>rfl
 |true=>
  cases h3:dP y x with
  |true=>rw[lN h3 h]at a;cases a
  |false=>have:=BW b h3;subst this;rw[h]at a;cases a⟩
theorem fH(a b:ByteArray)(R:aC):Spec prog 150 [.string a,.string b] R [] λv H'=>v=.int .i64 (dc a b)/\H'=[]:=
 Spec.oG (Ci a b) R
def dU(a b:Int):Int:=if a<b then-1 else if b<a then 1 else 0
def dE:List Int->Int
 |[]=>0
 |x::l=>if x=0 then dE l else x
def gZ(x:Int):List Value:=[.int .i64 x]
def di(s:ByteArray):List Value:=[.string s]
instance C2(s:ByteArray)(l:List ByteArray):Decidable (s∈l):=decidable_of_iff (l.any (λx=>decide (x=s))=true) (by simp)
instance C7:gR prog 9 (λs:ByteArray=>.string s):=gR.str nT nS
theorem oK{l:List Int}{i:Nat}(h:∀j x,j<i->l[j]? =some x->x=0):dE l=dE (l.drop i):=by
 induction i generalizing l with
 |zero=>simp
 |succ i ih=>
  cases l with
  |nil=>simp
  |cons x l=>
   have:x=0:=h 0 x (by omega) rfl
   subst this
   simp only[dE,if_true,List.drop_succ_cons]
   exact ih λj x b a=>h (j+1) x (by omega) (by simpa using a)
theorem lx(v:Value)(l:List Int)(R:aC)(h:RS R 1 gZ v l):Spec prog 235 [v] R [] λu H'=>u=.int .i64 (dE l)/\H'=[]:=by
 have p:=h.le
 refine Spec.body func235 rfl results235 ntmps235 rfl ?_
 refine .sr<|.ag rfl<|.z<|.ag rfl<|.zs<|.sr<|.mo rfl<|.q (.dw h) ?_
 refine .mo rfl<|.zn<|.block ?_
 refine .loop (X:=Nat) (λi=>i<=l.length/\∀j x,j<i->l[j]? =some x->x=0) (λi=>[(3,.int .i64 0),(6,v),(7,.int .i64 l.length),(8,iN i)]) (λ_=>[]) (λi=>l.length-i) 0 ⟨by omega,by omega⟩ kE.c.c.c.c rH ?_
 rintro i ⟨m,g⟩
 refine .sr<|.q .lss<|.zs ?_
 refine .cond rfl (λb=>?_) λb=>?_
 have e:i<l.length:=by simp at b;omega
 obtain⟨z,a⟩:=eo e
 refine .kn<|.seq<|.block<|.sr ?_
 refine .dm i h a (λr=>?_)
 refine .lo rfl<|.ag rfl<|.z<|.mo rfl<|.mo rfl<|.q .eS<|.zn ?_
 refine .cond rfl (λd=>?_) λd=>?_
 refine .sr<|.mo rfl<|.az rfl ?_
 refine .ret (bu (bq (cH (bu (bq (cf rfl ?_))))))
 ·refine⟨?_,rfl⟩
  have k:z≠0:=by simpa using d
  rw[oK g,List.drop_eq_getElem_cons e]
  rw[aE e]at a
  cases a
  simp[dE,k]
 refine .skip<|bg<|aI<|.region ?_
 refine .q (.inc (n:=i) (by omega)) ?_
 refine .mo rfl<|.nil ?_
 ·exact aS (i+1) ⟨by omega,λj x o f=>by
   rcases Nat.lt_or_ge j i with hh|hh
   ·exact g j x hh f
   ·obtain rfl:j=i:=by omega
    rw[a]at f;cases f;simpa using d⟩ (by omega) kE.c.c.c.c rH
 refine .exit<|aT<|aW<|aU<|aI<|.sr<|.mo rfl<|.az rfl ?_
 refine .ret (cf rfl ?_)
 ·refine⟨?_,rfl⟩
  have:i=l.length:=by simp at b;omega
  rw[oK g,this];simp[dE]
theorem oc(a:Int)(R:aC):Spec prog 495 [.int .i64 a] R [] λu H'=>u=.bool false/\H'=[]:=by
 refine Spec.body func495 rfl results495 ntmps495 rfl ?_
 refine .sr<|.ag rfl<|.z<|.mo rfl<|.mo rfl<|.q .eS<|.az rfl ?_
 refine .ret (cf rfl ?_)
 ·exact⟨by simp,rfl⟩
theorem qy(a b:Int)(R:aC):Spec prog 494 [.int .i64 a,.int .i64 b] R [] λu H'=>u=.int .i64 (dU a b)/\H'=[]:=by
 refine Spec.body func494 rfl results494 ntmps494 rfl ?_
 refine .sr<|.ag rfl<|.z<|.mo rfl ?_
 refine .bx (oc a _) (λv e=>?_)
 subst e
 refine .ag rfl<|.z<|.mo rfl ?_
 refine .bx (oc b _) (λv e=>?_)
 subst e
 refine .ag rfl<|.zs<|.sr<|.mo rfl<|.zn<|.bB<|.kn<|.seq<|.sr<|.mo rfl<|.zn<|.bB<|.kn<|.seq<|.sr<|.mo rfl<|.mo rfl<|.q .lss<|.zn ?_
 refine .cond rfl (λc=>?_) λc=>?_
 refine .sr<|.az rfl ?_
 refine .ret (bq (cf rfl ?_))
 ·refine⟨?_,rfl⟩
  simp at c
  try simp at d
  unfold dU
  congr 1
  split
  ·first|rfl|omega
  ·first|rfl|(exfalso;omega)|(split<;>first|rfl|omega)
 refine .kn<|.seq<|.sr<|.mo rfl<|.mo rfl<|.q .gtr<|.zn ?_
 refine .cond rfl (λd=>?_) λd=>?_
 refine .sr<|.az rfl ?_
 refine .ret (bq (cf rfl ?_))
 ·refine⟨?_,rfl⟩
  simp at c
  try simp at d
  unfold dU
  congr 1
  split
  ·first|rfl|omega
  ·first|rfl|(exfalso;omega)|(split<;>first|rfl|omega)
 refine .kn<|.sr<|.az rfl ?_
 refine .ret (cf rfl ?_)
 ·refine⟨?_,rfl⟩
  simp at c
  try simp at d
  unfold dU
  congr 1
  split
  ·first|rfl|omega
  ·first|rfl|(exfalso;omega)|(split<;>first|rfl|omega)
section
variable{κ β:Type} [DecidableEq κ]
def et(k:κ)(A:List (κ×β)):List (κ×β):=A.filter λp=>decide (p.1≠k)
def km(k:κ)(x:β)(A:List (κ×β)):List (κ×β):=et k A++[(k,x)]
theorem ol{k:κ}{A B:List (κ×β)}(h:A.Perm B):(et k A).Perm (et k B):=h.filter _
theorem oh{k:κ}{A:List (κ×β)}(h:k∉A.map (·.1)):et k A=A:=by
 unfold et
 rw[abX]
 intro p a
 simp only[abF]
 exact λe=>h (e▸List.mem_map_of_mem a)
theorem kk{k:κ}{x:β}{A:List (κ×β)}(h:k∉A.map (·.1)):et k ((k,x)::A)=A:=by
 have:=oh h
 unfold et at *
 rw[abP,abH (by simp)]
 exact this
theorem AM{k:κ}{x:β}{A B:List (κ×β)}(a:((A++(k,x)::B).map (·.1)).Nodup):et k (A++(k,x)::B)=A++B:=by
 simp only[abY,abK,List.nodup_append,abQ,abR]at a
 obtain⟨_,⟨d,_⟩,e⟩:=a
 have b:et k A=A:=oh λf=>e k f k (.inl rfl) rfl
 have c:et k ((k,x)::B)=B:=kk d
 unfold et at *
 rw[List.filter_append,b,c]
theorem lq{k:κ}:∀{M:List (κ×β)},(M.map (·.1)).Nodup->eu k M=et k M
 |[],_=>rfl
 |(k',y)::r,hn=>by
  simp only[abK,abQ]at hn
  simp only[eu]
  split
  ·rename_i a;subst a;exact(kk hn.1).symm
  ·rename_i a
   rw[lq hn.2]
   simp[et,Ne.symm a]
end
structure XE where
 b:Nat
 key:ByteArray
 at_:Int
def XE.cells(e:XE)(i:Nat):List Value:=[.string e.key,.int .i64 e.at_,.int .i64 i]
def XE.obj(e:XE)(i:Nat):Obj:=.cells (e.cells i).toArray 372 (0,0)
abbrev XE.ptr(e:XE):Value:=.pointer (some ⟨e.b,0,none⟩)
def gG(e:XE):List Value:=[e.ptr]
def eI(L:List XE):ay:=L.zipIdx.map λp=>(p.1.b,p.1.obj p.2)
def mF(e f:XE):Int:=dE [dU e.at_ f.at_,dc e.key f.key]
def gg(e f:XE):Bool:=decide (mF e f<0)
theorem lh(L:List XE)(j:Nat):(eI L)[j]? =L[j]?.map λe=>(e.b,e.obj j):=by
 simp[eI,List.getElem?_zipIdx]
 cases L[j]? <;>rfl
theorem nO(L:List XE):(eI L).length=L.length:=by simp[eI]
theorem jX{L:List XE}{i:Nat}{e:XE}(h:L[i]? =some e):(e.b,e.obj i)∈eI L:=by
 refine aG (i:=i) ?_
 rw[lh,h];rfl
theorem qQ(L:List XE):(eI L).map (·.1)=L.map (·.b):=by
 apply List.ext_getElem?
 intro j
 rw[List.getElem?_map,lh,List.getElem?_map]
 cases L[j]? <;>rfl
def TI(q:Nat)(vm:Value)(L:List XE)(T:ay):Prop:=∃vt Tt Te,T=(q,.cells [vt,vm].toArray 378 (0,0))::(Tt++Te)/\OS 373 1 gG vt L Tt/\Te.Perm (eI L)/\L.length<=1000000000
theorem qM(e f:XE)(i k:Nat)(R:aC)(c:R e.b (e.obj i))(d:R f.b (f.obj k)):Spec prog 490 [e.ptr,f.ptr] R [] λv H'=>v=.int .i64 (mF e f)/\H'=[]:=by
 have h:PC R (.pointer (some ⟨e.b,0,none⟩)) (e.cells i):=PC.of c
 have j:PC R (.pointer (some ⟨f.b,0,none⟩)) (f.cells k):=PC.of d
 refine Spec.body func490 rfl results490 ntmps490 rfl ?_
 refine .sr<|.ag rfl<|.zs<|.bN [] mixed ?_
 refine .tO 0 rfl .move<|.tO 1 rfl (.nilCheck rfl)<|.tO 2 rfl (.fieldAddr rfl)<|.tO 3 rfl (.cj rfl)<|.tO 4 rfl .move<|.tO 5 rfl (.nilCheck rfl)<|.tO 6 rfl (.fieldAddr rfl)<|.tO 7 rfl (.cj rfl)<|.tO 9 rfl .move<|.tO 10 rfl (.nilCheck rfl)<|.tO 11 rfl (.fieldAddr rfl)<|.tO 12 rfl (.cj rfl)<|.tO 13 rfl .move<|.tO 14 rfl (.nilCheck rfl)<|.tO 15 rfl (.fieldAddr rfl)<|.tO 16 rfl (.cj rfl) ?_
 refine .sT 8 rfl ?_
 refine .bx (qy e.at_ f.at_ _) (λv a=>?_)
 subst a
 refine .nil (Next.sub ?_)
 refine .sT 17 rfl ?_
 refine .bx (fH e.key f.key _) (λv a=>?_)
 subst a
 refine .nil (Next.sub ?_)
 refine .sT 18 rfl ?_
 refine .iR [_,_] (λg=>?_)
 refine .nil (Next.sub ?_)
 refine .sT 19 rfl ?_
 refine .bx (lx _ [dU e.at_ f.at_,dc e.key f.key] _ (RS.lits rfl (by simp[gZ]) (by simp[gZ,aF]))) (λv a=>?_)
 subst a
 refine .nil (Next.sub ?_)
 refine .tO 20 rfl .assign ?_
 refine RA.nil (by kernel_rfl) ?_
 refine aI ?_
 refine .ret (cf rfl ?_)
 ·exact⟨rfl,rfl⟩
theorem Cr(a:Value)(L:List XE)(R:aC)(h:RS R 1 gG a L):Spec prog 491 [a] R [] λv H'=>v=.int .i64 L.length/\H'=[]:=by
 refine Spec.body func491 rfl results491 ntmps491 rfl ?_
 refine .sr<|.ag rfl<|.z<|.mo rfl<|.q (.dw h) ?_
 refine .az rfl ?_
 refine .ret (cf rfl ?_)
 ·exact⟨rfl,rfl⟩
theorem Cs(a:Value)(L:List XE)(R:aC)(h:RS R 1 gG a L)(i k:Nat)(e f:XE)(c:L[i]? =some e)(d:L[k]? =some f)(g:R e.b (e.obj i))(j:R f.b (f.obj k)):
  Spec prog 492 [a,.int .i64 i,.int .i64 k] R [] λv H'=>v=.bool (gg e f)/\H'=[]:=by
 refine Spec.body func492 rfl results492 ntmps492 rfl ?_
 refine .sr<|.ag rfl<|.zs ?_
 refine .bO 8 mixed (by kernel_rfl) ?_
 conv=>arg 6;dsimp only[List.take]
 refine .mo rfl<|.mo rfl ?_
 refine .dm i h c (λm=>?_)
 refine .lo rfl<|.mo rfl<|.mo rfl ?_
 refine .dm k h d (λn=>?_)
 refine .lo rfl<|.nil ?_
 refine .bx (qM e f i k _ (.inl g) (.inl j)) (λv l=>?_)
 subst l
 refine .q .lss<|.az rfl ?_
 refine .ret (cf rfl ?_)
 ·exact⟨rfl,rfl⟩
theorem jY{L:List XE}(f:(L.map (·.b)).Nodup){i k:Nat}{x y:XE}(g:L[i]? =some x)(h:L[k]? =some y)(a:x.b=y.b):i=k:=by
 obtain⟨c,rfl⟩:=abZ.1 g
 obtain⟨d,rfl⟩:=abZ.1 h
 exact(List.getElem_inj (xs:=L.map λe:XE=>e.b) (i:=i) (j:=k) (h₀:=by simpa using c) (h₁:=by simpa using d) f).1 (by simpa using a)
theorem qR{L:List XE}{n:ay}(q:n.Perm (eI L))(m:(L.map (·.b)).Nodup){i k:Nat}{x y:XE}(c:L[i]? =some x)(a:L[k]? =some y):
  (ei (ei n y.b (y.obj i)) x.b (x.obj k)).Perm (eI (bi L i k)):=by
 have g:=(abZ.1 c).1
 have l:=(abZ.1 a).1
 refine(pL (pL q)).trans ?_
 have r:(bi L i k)[k]? =some x:=by rw[cR g l,abI rfl,c]
 have s:(bi L i k)[i]? =some y:=by
  rw[cR g l]
  split
  ·rename_i e;subst e;rw[c]at a;cases a;exact c
  ·rw[abI rfl,a]
 have t:ei (ei (eI L) y.b (y.obj i)) x.b (x.obj k)=bi (eI (bi L i k)) i k:=by
  apply List.ext_getElem?
  intro j
  rw[pJ,pJ,lh,cR (by rw[nO,eh];exact g) (by rw[nO,eh];exact l)]
  simp only[lh]
  by_cases d:j=k
  ·subst d
   rw[abI rfl,s,a]
   simp only[Option.map_some,if_true,Option.some.injEq]
   split
   ·rename_i e
    have:=jY m a c e
    subst this
    rw[c]at a;cases a;rfl
   ·rfl
  ·rw[abH d]
   by_cases f:j=i
   ·subst f
    rw[abI rfl,r,c]
    have:x.b≠y.b:=λe=>d (jY m c a e)
    simp[this]
   ·rw[abH f,cR g l,abH d,abH f]
    cases he:L[j]? with
    |none=>rfl
    |some e=>
     have o:e.b≠y.b:=λh=>d (jY m he a h)
     have p:e.b≠x.b:=λh=>f (jY m he c h)
     simp[o,p]
 rw[t]
 exact lR
theorem Cy(n:Value)(L:List XE)(o f:ay)(R:aC)(h:OS 373 1 gG n L o)(g:f.Perm (eI L))(i k:Nat)(j:i<L.length)(l:k<L.length):
  Spec prog 493 [n,.int .i64 i,.int .i64 k] R [o,f] λv H'=>∃Tt' Te',H'=[Tt',Te']/\OS 373 1 gG n (bi L i k) Tt'/\Te'.Perm (eI (bi L i k)):=by
 refine Spec.nodup λs=>?_
 have r:(L.map (·.b)).Nodup:=by
  rw[<-qQ, <-(g.map (·.1)).nodup_iff]
  simp only[ab0,ab1,abU,abY,List.nodup_append]at s
  exact s.2.1
 obtain⟨x,c⟩:=eo j
 obtain⟨y,a⟩:=eo l
 obtain⟨_,A⟩:∃u,(L.set k x)[i]? =some u:=⟨_,aE (by simpa using j)⟩
 obtain⟨_,C⟩:∃u,(L.set i y)[k]? =some u:=⟨_,aE (by simpa using l)⟩
 have F:=h.aF
 refine Spec.body func493 rfl results493 ntmps493 rfl ?_
 refine .seq<|.bN [13,15] mixed ?_
 refine .tO 0 rfl .move<|.tO 1 rfl .move<|.tK 2 rfl .move<|.tK 3 rfl .move<|.tO 4 rfl .move<|.tO 5 rfl .move ?_
 refine RA.ar 6 rfl k h a rfl rfl rfl (by kernel_rfl) (λG=>?_)
 refine .tO 7 rfl (.cj rfl)<|.tO 8 rfl .move<|.tO 9 rfl .move ?_
 refine RA.ar 10 rfl i h c rfl rfl rfl (by kernel_rfl) (λH=>?_)
 refine .tO 11 rfl (.cj rfl) ?_
 refine RA.ar 12 rfl i h c rfl rfl rfl (by kernel_rfl) (λI=>?_)
 refine .sT 13 rfl ?_
 first
  |refine aH.lQ i d A y (λp q=>?_)
  |refine aH.lQ i h c y (λw q=>?_)
 refine .nil (Next.mod rfl ?_)
 refine RA.ar 14 rfl k h a rfl rfl rfl (by kernel_rfl) (λJ=>?_)
 refine .sT 15 rfl ?_
 first
  |refine aH.lQ k q C x (λp d=>?_)
  |refine aH.lQ k h a x (λw d=>?_)
 refine .nil (Next.mod rfl ?_)
 refine RA.nil (by kernel_rfl) ?_
 have B:(bi L i k)[k]? =some x:=by rw[cR j l,abI rfl,c]
 have D:(bi L i k)[i]? =some y:=by
  rw[cR j l]
  split
  ·rename_i e;subst e;rw[c]at a;cases a;exact c
  ·rw[abI rfl,a]
 rw[<-bP c a]at d
 have m:=g.mem_iff.2 (jX c)
 have t:=g.mem_iff.2 (jX a)
 have N:PS f (.pointer (some ⟨x.b,0,none⟩)) (x.cells i):=PS.of m
 have O:PS f (.pointer (some ⟨y.b,0,none⟩)) (y.cells k):=PS.of t
 refine aI<|.bN [12,15] mixed ?_
 refine .tO 0 rfl .move<|.tO 1 rfl .move ?_
 refine RA.ar 2 rfl i d D rfl rfl rfl (by kernel_rfl) (λK=>?_)
 refine .tO 3 rfl (.cj rfl)<|.tO 4 rfl .move<|.tO 5 rfl .move ?_
 refine RA.ar 6 rfl k d B rfl rfl rfl (by kernel_rfl) (λM=>?_)
 refine .tO 7 rfl (.cj rfl)<|.tO 8 rfl .move<|.tK 9 rfl .move<|.tO 10 rfl (.nilCheck rfl)<|.tO 11 rfl (.fieldAddr rfl) ?_
 refine .sT 12 rfl ?_
 refine .pt (vs:=y.cells k) (off:=2) t ?_
 rw[show Obj.cells (cg (y.cells k) 2 [iN i]).toArray 372 (0,0)=y.obj i from rfl]
 refine .nil (Next.mod rfl ?_)
 refine .tK 13 rfl (.mW rfl) ?_
 refine .tK 14 rfl (.ee rfl) ?_
 refine .sT 15 rfl ?_
 have E:(x.b,x.obj i)∈ei f y.b (y.obj i):=by
  by_cases e:x.b=y.b
  ·have z:=jY r c a e
   subst z
   rw[c]at a;cases a
   exact CB m
  ·exact Cz m e
 refine .pt (vs:=x.cells i) (off:=2) E ?_
 rw[show Obj.cells (cg (x.cells i) 2 [iN k]).toArray 372 (0,0)=x.obj k from rfl]
 refine .nil (Next.mod rfl ?_)
 refine RA.nil (by kernel_rfl) ?_
 refine cz _ .none rH ?_
 ·exact⟨p,_,rfl,d,qR g r c a⟩
theorem jV{e f:XE}:gg e f=true↔e.at_<f.at_\/e.at_=f.at_/\dP e.key f.key=true:=by
 unfold gg mF
 rw[abF,gO]
 unfold dU
 simp only[dE]
 by_cases a:e.at_<f.at_
 ·simp[a]
 ·by_cases b:f.at_<e.at_
  ·have:¬e.at_=f.at_:=by omega
   simp[a,b,this]
  ·have:e.at_=f.at_:=by omega
   simp only[this,if_true,Int.lt_irrefl,if_false,false_or,true_and]
   split
   ·rename_i h;rw[h]
   ·rfl
theorem mH:SO gg:=by
 have f:∀x y z,gg x y=true->gg y z=true->gg x z=true:=λx y z h1 h2=>by
  rw[jV]at *
  rcases h1 with h1|⟨h1,a⟩<;>rcases h2 with h2|⟨h2,d⟩
  ·exact .inl (by omega)
  ·exact .inl (by omega)
  ·exact .inl (by omega)
  ·exact .inr ⟨by omega,lN a d⟩
 have e:∀x,gg x x=false:=λx=>by
  rw[abV];intro h
  rw[jV,o4]at h
  rcases h with h|⟨_,h⟩
  ·omega
  ·cases h
 refine⟨e,f,λx y z h1 h2=>?_⟩
 rw[abV]at *
 rw[ne_eq,jV]at *
 rintro(h|⟨h,a⟩)
 ·simp only[not_or]at h1 h2;omega
 ·simp only[not_or,not_and]at h1 h2
  have b:x.at_=y.at_:=by omega
  have c:y.at_=z.at_:=by omega
  have:=gl.dD x.key y.key z.key (by simpa using h1.2 b) (by simpa using h2.2 c)
  rw[this]at a;cases a
def TJ(q:Nat)(vm:Value)(x:XE)(L:List XE)(T:ay):Prop:=∃T1 i,T.Perm (T1++[(x.b,x.obj i)])/\TI q vm L T1
theorem Cv(q:Nat)(vm:Value)(L:List XE)(x:XE)(T:ay)(h:TI q vm (L++[x]) T)(R:aC):
  Spec prog 496 [pT q] R [T] λv H'=>∃T',H'=[T']/\v=.iface 373 x.ptr/\TJ q vm x L T':=by
 obtain⟨j,c,g,rfl,a,d,i⟩:=h
 simp only[List.length_append,List.length_singleton]at i
 refine Spec.eg (H':=[bl q [j,vm] 378,c,g]) (by simp) ?_
 have k:=a.aF
 refine Spec.body func496 rfl results496 ntmps496 rfl ?_
 refine .sr<|.ag rfl<|.z<|.mo rfl<|.nc rfl<|.lo rfl<|.ag rfl<|.z<|.mo rfl<|.mo rfl<|.q (.gL a) ?_
 refine .q (.i64 ((L.length:Nat):Int) .sub ⟨by simp,by omega,by omega⟩) ?_
 refine .ar L.length a (z:=x) (by simp) (λm=>?_)
 refine .lo rfl<|.ag rfl<|.z<|.mo rfl<|.mo rfl<|.mo rfl<|.q (.gL a) ?_
 refine .q (.i64 ((L.length:Nat):Int) .sub ⟨by simp,by omega,by omega⟩) ?_
 refine .kH 0 L.length a rfl ⟨_,rfl⟩ (by omega) (by simp) (λf e=>?_)
 have l:=e.aF
 refine .nc rfl<|.cC rfl rfl<|.z<|.mo rfl<|.q .makeInterface<|.az rfl ?_
 refine .ret (bb _ (.one (.tmp rfl)) (.one [0,0,0] _) ?_)
 ·refine⟨_,rfl,rfl,(q,.cells [f,vm].toArray 378 (0,0))::(c++eI L),L.length,?_,f,c,eI L,rfl,by simpa using e,.refl _,by omega⟩
  have:eI (L++[x])=eI L++[(x.b,x.obj L.length)]:=by simp[eI,List.zipIdx_append]
  rw[this]at d
  simp only[take,bM,ab2,ab0,ab1,abU,List.cons_append,List.nil_append,ab3]
  exact(d.append_left c).cons _
theorem lp:∀w,(typeInfo 380).run prog w=.ok t380 w:=typeInfo380
theorem Cw(q:Nat)(vm:Value)(R:aC):mg prog R 380 (pT q) gg (TI q vm) where
 bQ L T h:=by obtain⟨a,c,b,rfl,e,d,g⟩:=h;exact g
 len L T h:=by
  obtain⟨a,c,b,rfl,e,d,g⟩:=h
  have l:RS (Rx R [(q,.cells [a,vm].toArray 378 (0,0))::(c++b)]) 1 gG a L:=e.rs λp j=>.inr (by simp[j])
  refine(eO.eK (r:=a) (f:=491) (fq.val lp (by kernel_rfl) inferInstance (by kernel_rfl) inferInstance (PC.of (vs:=[a,vm]) (E:=378) (fr:=(0,0)) (.inr (by simp)))) (Cr a L _ l)).mono λu s m=>?_
  obtain⟨rfl,rfl⟩:=m
  exact⟨rfl,a,c,b,rfl,e,d,g⟩
 less L T i k x y h hx hy:=by
  obtain⟨a,c,b,rfl,e,d,g⟩:=h
  have l:RS (Rx R [(q,.cells [a,vm].toArray 378 (0,0))::(c++b)]) 1 gG a L:=e.rs λp j=>.inr (by simp[j])
  have A:=d.mem_iff.2 (jX hx)
  have B:=d.mem_iff.2 (jX hy)
  refine(eO.eK (r:=a) (f:=492) (fq.val lp (by kernel_rfl) inferInstance (by kernel_rfl) inferInstance (PC.of (vs:=[a,vm]) (E:=378) (fr:=(0,0)) (.inr (by simp)))) (Cs a L _ l i k x y hx hy (.inr (by simp[A])) (.inr (by simp[B])))).mono λu s m=>?_
  obtain⟨rfl,rfl⟩:=m
  exact⟨rfl,a,c,b,rfl,e,d,g⟩
 swap L T i k h hi hk:=by
  obtain⟨a,c,b,rfl,e,d,g⟩:=h
  refine⟨493,a,fq.val lp (by kernel_rfl) inferInstance (by kernel_rfl) inferInstance (PC.of (vs:=[a,vm]) (E:=378) (fr:=(0,0)) (.inr (by simp))),inferInstance,?_⟩
  refine Spec.eg (H':=[bl q [a,vm] 378,c,b]) (by simp) ?_
  refine Spec.flat ((Spec.kp [1,1] (Cy a L c b _ e d i k hi hk)).mono λv H' z=>?_)
  obtain⟨C,rfl,o,n,rfl,w,t⟩:=z
  refine⟨_,(q,.cells [a,vm].toArray 378 (0,0))::(o++n),rfl,?_,_,rfl,a,o,n,rfl,w,t,by rw[eh];exact g⟩
  simp only[rest,bM,List.flatten_append,ab0,ab1,abU]
  exact abW
theorem Cx(q:Nat)(vm:Value)(L:List XE)(x:XE)(T:ay)(h:TI q vm (L++[x]) T)(R:aC):eO Tryz.prog 380 (.pointer (some ⟨q,0,none⟩)) "Pop" [] R T fun v T'=>v=.iface 373 x.ptr∧TJ q vm x L T':=
 ⟨496,_,fq.ptr lp (by kernel_rfl) inferInstance (by kernel_rfl),inferInstance,Cv q vm L x T h R⟩
abbrev Br(b:Nat):Value:=pT b
def XE.kb(e:XE):ByteArray×Nat:=(e.key,e.b)
def XE.ka(e:XE):ByteArray×Int:=(e.key,e.at_)
def QI(q:Nat)(A:List (ByteArray×Int))(T:ay):Prop:=∃L vm M T1 Tm,T=T1++Tm/\TI q vm L T1/\MS (λs:ByteArray=>.string s) Br vm M Tm/\
 M.Perm (L.map XE.kb)/\dZ gg L L.length/\(L.map XE.ka).Perm A
theorem QI.len{q:Nat}{A:List (ByteArray×Int)}{T:ay}(h:QI q A T):A.length<=1000000000:=by
 obtain⟨L,k,M,b,d,rfl,⟨l,e,c,_,_,_,i⟩,f,j,g,a⟩:=h
 have:=a.length_eq
 simp at this;omega
theorem QI.perm{q:Nat}{A B:List (ByteArray×Int)}{T:ay}(h:QI q A T)(j:A.Perm B):QI q B T:=by
 obtain⟨L,k,M,a,b,c,d,e,f,g,i⟩:=h
 exact⟨L,k,M,a,b,c,d,e,f,g,i.trans j⟩
theorem oT(R:aC):Spec prog 262 [] R [] λv H'=>∃T,H'=[T]/\∃q,v=pT q/\QI q [] T:=by
 refine Spec.body func262 rfl results262 ntmps262 rfl ?_
 refine .sr<|.ag rfl<|.z ?_
 refine .makeMap (λa=>?_)
 refine .q .ek ?_
 refine .cQ rfl (λb=>?_)
 refine .az rfl ?_
 refine .ret (bb _ (.one (.tmp rfl)) (.one [0,0] _) ?_)
 ·exact⟨_,rfl,_,rfl,[],_,[],bl b [sZ,.map (some a)] 378,_,rfl,⟨_,[],[],rfl,OS.nil,.refl _,by simp⟩,MS.nil,.refl _,λk d c=>by simp at c,.refl _⟩
theorem Bv(q:Nat)(a:Value)(b:Nat)(R:aC) [pc:PC R (pT q) [a,.map (some b)]]:
  Spec prog 366 [pT q] R [] λv H'=>v=.bool true/\H'=[]:=by
 refine Spec.body func366 rfl results366 ntmps366 rfl ?_
 refine .sr<|.ag rfl<|.z<|.mo rfl<|.q (.hN rfl rfl) ?_
 refine .mo rfl<|.gt rfl ?_
 refine .mo rfl<|.gt rfl ?_
 refine .nc rfl<|.gt rfl ?_
 refine .fa rfl<|.gt rfl ?_
 refine .lo rfl<|.gt rfl ?_
 refine .q (.lu rfl rfl) ?_
 refine .q .eX<|.az rfl ?_
 refine .ret (cf rfl ?_)
 ·exact⟨rfl,rfl⟩
theorem Bu(q:Nat)(A:List (ByteArray×Int))(T:ay)(h:QI q A T)(R:aC)(f:∀p∈T,R p.1 p.2):
  Spec prog 263 [pT q] R [] λv H'=>v=.int .i64 A.length/\H'=[]:=by
 obtain⟨L,l,M,m,o,rfl,⟨a,r,n,rfl,d,s,u⟩,i,e,t,g⟩:=h
 obtain⟨c,rfl⟩:∃b,l=.map (some b):=by obtain⟨b,es,clock,h1,_⟩:=i;exact⟨b,h1⟩
 have x:PC R (pT q) [a,.map (some c)]:=PC.of (E:=378) (fr:=(0,0)) (f (q,.cells [a,.map (some c)].toArray 378 (0,0)) (by simp))
 have j:RS R 1 gG a L:=d.rs λp e=>f p (by simp[e])
 have w:=d.aF
 refine Spec.body func263 rfl results263 ntmps263 rfl ?_
 refine .sr<|.ag rfl<|.zs<|.sr<|.mo rfl ?_
 refine .bx (Bv q a c _) (λv k=>?_)
 subst k
 refine .q .not<|.zn<|.bB<|.kn<|.sr<|.mo rfl<|.nc rfl<|.fa rfl<|.lo rfl<|.q (.dw j) ?_
 refine .az rfl ?_
 refine .ret (cf rfl ?_)
 ·exact⟨by rw[<-g.length_eq];simp,rfl⟩
set_option maxRecDepth 4000
theorem TI.ps{q:Nat}{vm:Value}{L:List XE}{T:ay}(h:TI q vm L T):∃vt,One vt/\PS T (pT q) [vt,vm]:=by
 obtain⟨vt,c,b,rfl,a,d,e⟩:=h
 exact⟨vt,a.aF,PS.of (E:=378) (fr:=(0,0)) (by simp)⟩
theorem TI.mem{q:Nat}{vm:Value}{L:List XE}{T:ay}(h:TI q vm L T){i:Nat}{e:XE}(c:L[i]? =some e):(e.b,e.obj i)∈T:=by
 obtain⟨k,f,d,rfl,g,a,j⟩:=h
 have:=a.mem_iff.2 (jX c)
 simp[this]
theorem BF{L a:List XE}{x:XE}{M:List (ByteArray×Nat)}{A:List (ByteArray×Int)}(f:(M.map (·.1)).Nodup)(i:M.Perm (L.map XE.kb))(h:(L.map XE.ka).Perm A)(e:L.Perm (x::a)):
  (eu x.key M).Perm (a.map XE.kb)/\(a.map XE.ka).Perm (et x.key A):=by
 have d:M.Perm ((x.key,x.b)::a.map XE.kb):=i.trans (e.map _)
 have g:A.Perm ((x.key,x.at_)::a.map XE.ka):=h.symm.trans (e.map _)
 have c:=(d.map (·.1)).nodup_iff.1 f
 simp only[abK,abQ]at c
 have j:x.key∉(a.map XE.ka).map (·.1):=by rw[ab4]at c⊢;exact c.1
 refine⟨?_,?_⟩
 ·rw[lq f]
  have:=ol (k:=x.key) d
  rwa [kk c.1]at this
 ·have:=ol (k:=x.key) g
  rw[kk j]at this
  exact this.symm
def kj(p r:ByteArray×Int):Bool:=decide (p.2<r.2)||decide (p.2=r.2)&&dP p.1 r.1
theorem qN{e f:XE}:gg e f=kj e.ka f.ka:=by
 rw[show kj e.ka f.ka=(decide (e.at_<f.at_)||decide (e.at_=f.at_)&&dP e.key f.key)from rfl,abL,jV]
 simp only[abN,abJ,abF]
theorem TI.read{q:Nat}{vm:Value}{L:List XE}{T:ay}(h:TI q vm L T):∃vt,One vt/\PS T (pT q) [vt,vm]/\RS (sg T) 1 gG vt L/\∀(i:Nat) (e:XE),L[i]? =some e->PS T (.pointer (some ⟨e.b,0,none⟩)) (e.cells i):=by
 have d:=λ(i:Nat) (e:XE) (a:L[i]? =some e)=>h.mem a
 obtain⟨vt,j,g,rfl,c,k,l⟩:=h
 exact⟨vt,c.aF,PS.of (E:=378) (fr:=(0,0)) (by simp),c.rs λp f=>by simp[sg,f],λi e a=>PS.of (d i e a)⟩
structure kQ(A:List (ByteArray×Int))(now:Int)(B A':List (ByteArray×Int)):Prop where
 pm:A.Perm (B++A')
 ord:B.Pairwise λp r=>kj r p=false
 le:∀p∈B,p.2<=now
 front:∀p∈B,∀r∈A',kj r p=false
theorem kQ.filter{A B a:List (ByteArray×Int)}{now:Int}(h:kQ A now B a)(f:∀p∈a,now<p.2):a.Perm (A.filter λp=>decide (now<p.2)):=by
 have b:=h.pm.filter (λp=>decide (now<p.2))
 rw[List.filter_append]at b
 have d:B.filter (λp=>decide (now<p.2))=[]:=by
  rw[List.filter_eq_nil_iff]
  intro p c
  have:=h.le p c
  simp;omega
 have e:a.filter (λp=>decide (now<p.2))=a:=by
  rw[abX]
  intro p c
  simpa using f p c
 rw[d,e]at b
 exact b.symm
theorem oS(q:Nat)(A:List (ByteArray×Int))(T:ay)(h:QI q A T)(now:Int)(R:aC):
  Spec prog 171 [pT q,.int .i64 now] R [T] λv H'=>∃T' To B A',H'=[T',To]/\OS 9 1 di v (B.map (·.1)) To/\QI q A' T'/\kQ A now B A'/\∀p∈A',now<p.2:=by
 refine Spec.eg (H':=[T,[]]) (by simp) ?_
 refine Spec.body func171 rfl results171 ntmps171 rfl ?_
 refine .sr<|.ag rfl<|.z<|.ag rfl<|.zs<|.block ?_
 refine .loop (X:=List (ByteArray×Int)×List (ByteArray×Int)×Value×ay×ay) (λy=>QI q y.1 y.2.2.2.1/\OS 9 1 di y.2.2.1 (y.2.1.map (·.1)) y.2.2.2.2/\kQ A now y.2.1 y.1) (λy=>[(0,pT q),(1,.int .i64 now),(5,y.2.2.1)]) (λy=>[y.2.2.2.1,y.2.2.2.2]) (λy=>y.1.length) (A,[],sZ,T,[]) ⟨h,OS.nil,⟨.refl _,by simp,by simp,by simp⟩⟩ kE.c.c.c rH ?_
 rintro⟨g,B,v,Q,To⟩ ⟨u,o,i⟩
 simp only at u o i⊢
 have F:=u
 have b6:=u.len
 have a4:=i.pm.length_eq
 have b4:=h.len
 obtain⟨L,O,M,j,m,Y,W,V,hp,I,n⟩:=u
 obtain⟨vt,i1,ps,hs,pe⟩:=W.read
 have i2:=o.aF
 have b5:g.length=L.length:=by simpa using n.length_eq.symm
 have b2:bJ [Q,To] [j,m,To]:=bJ.cW (by rw[Y];simp)
 refine .seq<|.sr<|.mo rfl ?_
 refine .bx (Bu q g _ F _ (λp hp=>.inr (by simp[hp]))) (λv N=>?_)
 subst N
 refine .q .gtr<|.mo rfl ?_
 refine .split (t:=10) rfl (λd=>?_) (λd=>?_)
 obtain⟨e,l⟩:∃e,L[0]? =some e:=⟨_,aE (by simp at d;omega)⟩
 have b8:=pe 0 e l
 have px:PS j (eB vt (0*1)) (gG e):=⟨hs.pc l⟩
 refine .sub b2 ?_
 refine .gT d<|.mo rfl<|.gT d<|.nc rfl<|.gT d<|.fa rfl<|.gT d<|.lo rfl<|.gT d<|.q (.dm 0 hs l rfl rfl rfl) ?_
 refine .gT d<|.lo rfl<|.gT d ?_
 refine .nc rfl<|.gT d<|.fa rfl<|.gT d<|.lo rfl<|.gT d<|.mo rfl<|.gT d<|.q .leq<|.q (.bX d) ?_
 refine .zn ?_
 refine .cond rfl (λD=>?_) λD=>?_
 refine .kn<|.block<|.sr<|.mo rfl<|.nc rfl<|.fa rfl<|.q .makeInterface ?_
 refine .aQ (Bo (Cw q O _) mH L j W e l I (λx=>.iface 373 x.ptr) (TJ q O e) (λL' T' h' _=>Cx q _ L' e T' h' _)) (λv j N=>?_)
 obtain⟨rfl,L2,⟨s,C,b0,Z⟩,a1,a7⟩:=N
 obtain⟨c1,b7,c0⟩:=Z.ps
 have b9:PS [(e.b,e.obj C)] (.pointer (some ⟨e.b,0,none⟩)) (e.cells C):=PS.of (E:=372) (fr:=(0,0)) (by simp[XE.obj])
 refine .sub (H':=[s,m,To,[(e.b,e.obj C)]]) (bJ.cW (by
  simp only[ab0,ab1,abU]
  refine(b0.append_right _).trans ?_
  simpa[ab3]using(abW (l₁:=[(e.b,e.obj C)]) (l₂:=m++To)).append_left s)) ?_
 refine .q (.p3) ?_
 refine .ag rfl<|.zs ?_
 refine .bO 8 mixed (by kernel_rfl) ?_
 conv=>arg 6;dsimp only[List.take]
 refine .mo rfl<|.nc rfl<|.fa rfl<|.lo rfl<|.mo rfl ?_
 refine .nc rfl<|.fa rfl<|.lo rfl<|.nil ?_
 obtain⟨g1,U⟩:=BF V.nd hp n a1
 refine .delete V rfl (show _=some (Value.string e.key)from rfl) (λS a5 _=>?_)
 refine .zn<|.region<|.mo rfl<|.mo rfl<|.nc rfl<|.fa rfl<|.lo rfl ?_
 refine .jg (λb3=>?_)
 refine .append o (RS.lits (xs:=[e.key]) rfl (by simp[di]) (by simp[di,aF])) (by simp at a4⊢;omega) (λv3 a3 a6=>?_)
 refine .ag rfl<|.nil<|bg ?_
 ·have a0:e.at_<=now:=by simpa using D
  have a9:∀r∈g,kj r e.ka=false:=λr b1=>by
   obtain⟨f,G,rfl⟩:=abG.1 (n.mem_iff.2 b1)
   obtain⟨k,J,H⟩:=List.mem_iff_getElem.1 G
   rw[<-qN]
   exact I.least mH l k f (by rw[aE J,H])
  have K:g.Perm (e.ka::et e.key g):=n.symm.trans ((a1.map _).trans (U.cons _))
  have a8:e.ka∈g:=K.mem_iff.2 (by simp)
  refine aS (et e.key g,B++[e.ka],v3,s++S,a3) ⟨⟨L2,O,_,s,S,rfl,Z,a5,g1,a7,U⟩,by rw[abY];exact a6,⟨?_,?_,?_,?_⟩⟩ ?_ kE.c.c.c ?_
  ·refine i.pm.trans ?_
   simp only[ab3]
   exact K.append_left B
  ·rw[List.pairwise_append]
   exact⟨i.ord,by simp,λp hp r w=>by simp at w;subst w;exact i.front p hp _ a8⟩
  ·intro p hp
   rcases ab5.1 hp with hp|hp
   ·exact i.le p hp
   ·simp at hp;subst hp;exact a0
  ·intro p hp r w
   have a2:r∈g:=(abM.1 w).1
   rcases ab5.1 hp with hp|hp
   ·exact i.front p hp r a2
   ·simp at hp;subst hp;exact a9 r a2
  ·have:=K.length_eq
   simp at this⊢;omega
  ·exact(cw [1,1,1]).trans (bJ.cW (by simp[take,bM]))
 refine .exit<|aT<|aW<|aU<|aI<|.sr<|.mo rfl<|.az rfl ?_
 refine .ret (bb _ (.one (.tmp rfl)) (bJ.cW (H':=[j++m,To]) (by simp)) ?_)
 ·refine⟨j++m,To,B,g,rfl,o,Y▸F,i,λp hp=>?_⟩
  have a0:now<e.at_:=by simpa using D
  obtain⟨f,G,rfl⟩:=abG.1 (n.mem_iff.2 hp)
  obtain⟨k,J,H⟩:=List.mem_iff_getElem.1 G
  have h3:=I.least mH l k f (by rw[aE J,H])
  rw[abV,ne_eq,jV]at h3
  have h4:e.at_<=f.at_:=by omega
  show now<f.at_
  omega
 refine .gF d<|.gF d<|.gF d<|.gF d<|.gF d<|.gF d<|.gF d<|.gF d<|.gF d<|.gF d<|.gF d<|.q (.bU d) ?_
 refine .zn<|.bB<|.exit<|aT<|aW<|aU<|aI<|.sr<|.mo rfl<|.az rfl ?_
 refine .ret (bb _ (.one (.tmp rfl)) rH ?_)
 ·have hz:g=[]:=by
   rcases g with _|⟨a,r⟩
   ·rfl
   ·simp at d
  exact⟨Q,To,B,g,rfl,o,F,i,by rw[hz];simp⟩
def short(s:ByteArray)(n:Nat):ByteArray:=if n<s.size then s.extract 0 n else s
theorem kF(v:Value)(xs:List ByteArray)(R:aC)(h:RS R 1 di v xs)(i:xs.length<=1000000):
  Spec prog 152 [v] R [] λv' H'=>∃T,H'=[T]/\OS 9 1 di v' xs T:=by
 obtain⟨b,d,rfl⟩:=h.val
 have f:∀H,RS (Rx R H) 1 di (.slice b xs.length d) xs:=λH=>h.rx
 refine Spec.eg (H':=[[]]) (by simp) ?_
 refine Spec.body func152 rfl results152 ntmps152 rfl ?_
 refine .sr<|.ag rfl<|.zs<|.sr<|.mo rfl<|.q (.mJ rfl rfl) ?_
 refine .zn ?_
 refine .cond rfl (λa=>?_) λa=>?_
 refine .sr<|.az rfl ?_
 refine .ret (bq (bb _ (.one (.tmp rfl)) (.one [0] _) ?_))
 ·obtain rfl:b=none:=by simpa using a
  have:=h.AZ
  subst this
  exact⟨[],rfl,OS.nil⟩
 refine .kn<|.sr ?_
 refine .nF (λg=>?_)
 refine .mo rfl ?_
 refine .append (OS.empty (enc:=di) (sz:=1)) (f _) (by simp;omega) (λv' c e=>?_)
 refine .az rfl ?_
 refine .ret (bb _ (.one (.tmp rfl)) (.one [0] _) ?_)
 ·exact⟨c,by simp[take],by simpa using e⟩
def texts(l:List ByteArray)(n k:Nat):List ByteArray:=(l.take n).map λs=>short s k
def dV(T:ay):aC:=λb o=>(b,o)∈T/\∃c E,o=.cells c E (0,0)
theorem OS.dV{α:Type}{E sz:Nat}{enc:α->List Value}{v:Value}{xs:List α}{T:ay}(h:OS E sz enc v xs T):RS (Go.Proofs.YtgppncmdpcefhaaGreatDoor.dV T) sz enc v xs:=
 ⟨h.len,h.one,by
  rcases h.h with⟨rfl,rfl,rfl⟩|⟨b,a,c,d,rfl,rfl,e,f,i,g⟩
  ·exact⟨none,0,rfl,Nat.le_refl _,Nat.zero_le _,.inl rfl⟩
  ·exact⟨some ⟨b,a,none⟩,d,rfl,e,f,.inr ⟨b,a,c,E,(0,0),rfl,⟨by simp,c,E,rfl⟩,g⟩⟩⟩
theorem nl{A B:ay}{b:Nat}{o:Obj}(h:dV A b o):dV (A++B) b o:=⟨aca B h.1,h.2⟩
theorem nm{A B:ay}{b:Nat}{o:Obj}(h:dV B b o):dV (A++B) b o:=⟨List.mem_append_right A h.1,h.2⟩
section
variable{κ β γ:Type}
def dv(f:β->γ)(A:List (κ×β)):List (κ×γ):=A.map λp=>(p.1,f p.2)
theorem jr{f:β->γ}{A:List (κ×β)}:(dv f A).map (·.1)=A.map (·.1):=by rw[dv,ab4];rfl
theorem AN{f:β->γ}{A:List (κ×β)}:(dv f A).length=A.length:=by simp[dv]
theorem kl{f:β->γ}{A:List (κ×β)}{p:κ×β}(h:p∈A):(p.1,f p.2)∈dv f A:=abG.2 ⟨p,h,rfl⟩
theorem ox{f:β->γ}{A:List (κ×β)}{p:κ×γ}(h:p∈dv f A):∃q∈A,p=(q.1,f q.2):=let ⟨q,h1,h2⟩:=abG.1 h;⟨q,h1,h2.symm⟩
variable [DecidableEq κ]
theorem oB{k:κ}{x:β}:∀{M:List (κ×β)},(M.map (·.1)).Nodup->(gM k x M).Perm (km k x M)
 |[],_=>by simp[gM,km,et]
 |(k',x')::M,hn=>by
  rw[abK,abQ]at hn
  simp only[gM]
  split
  ·rename_i h
   subst h
   unfold km
   rw[kk hn.1]
   exact abW (l₁:=[(k,x)])
  ·rename_i h
   have a:=(oB (k:=k) (x:=x) hn.2).cons (k',x')
   refine a.trans (List.Perm.of_eq ?_)
   unfold km et
   have:decide ((k',x').1≠k)=true:=ab6 λe=>h e.symm
   rw[abP,abI this]
   rfl
end
theorem filter_one{k:ByteArray}:∀{l:List ByteArray},l.Nodup->k∈l->l.Perm (k::l.filter λk'=>decide (k'≠k))
 |[],_,h=>by cases h
 |x::l,hn,h=>by
  have b:=abQ.1 hn
  by_cases a:x=k
  ·subst a
   have:l.filter (λk'=>decide (k'≠x))=l:=abX.2 λy f=>by
    have:y≠x:=λe=>b.1 (e▸f)
    simp[this]
   rw[abP]
   simp only[ne_eq,not_true_eq_false,decide_false,Bool.false_eq_true,if_false]
   have c:l.filter (λk'=> !decide (k'=x))=l:=by simpa using this
   simp only[decide_not,c]
   exact .refl _
  ·have d:k∈l:=by
    rcases abR.1 h with e|h
    ·exact absurd e.symm a
    ·exact h
   have:=(filter_one b.2 d).cons x
   rw[abP,abI (by simp[a])]
   exact this.trans (List.Perm.swap k x _)
structure Tok where
 text:ByteArray
 kind:Int
 jT:ByteArray
 user:ByteArray
 scopes:List ByteArray
 family:Int
 dj:Int
 rev:Int
 used:Bool
abbrev TP:Type:=Value×Tok
def bA(p:TP):List Value:=[.string p.2.text,.int .i64 p.2.kind,.string p.2.jT,.string p.2.user,p.1,.int .i64 p.2.family,.int .i64 p.2.dj,.int .u64 p.2.rev,.bool p.2.used]
def gw(R:aC)(p:TP):Prop:=RS R 1 di p.1 p.2.scopes
theorem gw.mono{R R':aC}{p:TP}(h:gw R p)(a:∀b o,R b o->R' b o):gw R' p:=RS.mono h a
theorem gw.dx{R:aC}{p:TP}(h:gw R p):∀u∈bA p,aF u=true:=by
 have b:=h.aF.h
 intro u a
 simp only[bA,abR,acb,or_false]at a
 rcases a with rfl|rfl|rfl|rfl|rfl|rfl|rfl|rfl|rfl<;>first|rfl|assumption
def Tok.iC(t:Tok):Prop:=t.scopes.length<=1000000
def Tok.zero:Tok:=⟨⟨#[]⟩,0,⟨#[]⟩,⟨#[]⟩,[],0,0,0,false⟩
theorem Cp(w:Value)(t:Tok)(R:aC)(h:gw R (w,t))(c:t.iC):Spec prog 159 [.agg (bA (w,t)).toArray] R [] λv H'=>∃T,H'=[T]/\∃w',v=.agg (bA (w',t)).toArray/\gw (dV T) (w',t):=by
 have k:cB (bA (w,t)):=⟨h.dx⟩
 have i:One w:=h.aF
 have d:RS R 1 di w t.scopes:=h
 refine Spec.body func159 rfl results159 ntmps159 rfl ?_
 refine .sr ?_
 refine .cQ rfl (λf=>?_)
 refine .dM (λg=>?_)
 refine .z<|.fa rfl<|.lo rfl ?_
 refine .bY (kF w t.scopes _ d.rx c) (λe b a=>?_)
 have j:=a.aF
 refine .fa rfl<|.cC rfl rfl<|.z<|.q (.aD rfl)<|.dA rfl rfl<|.zn ?_
 refine .ret (bb _ (.one (.gd rfl rfl)) (.one [0] _) ?_)
 ·exact⟨b,by simp[take],e,rfl,a.dV⟩
def VJ(g:Nat)(A:List (ByteArray×Tok))(last:Int)(Td T0:ay):Prop:=∃vm M q Tm Tq,T0=(g,.cells [vm,pT q,.int .i64 last].toArray 241 (0,0))::(Tm++Tq)/\
 MS (λs:ByteArray=>.string s) (λp:TP=>.agg (bA p).toArray) vm M Tm/\(∀p∈M,p.1=p.2.2.text/\gw (dV Td) p.2/\p.2.2.iC)/\(dv (λp:TP=>p.2) M).Perm A/\QI q (dv (λt:Tok=>t.dj) A) Tq
def VI(g:Nat)(A:List (ByteArray×Tok))(last:Int)(T:ay):Prop:=∃Td T0,T=T0++Td/\VJ g A last Td T0
theorem CG{M:List (ByteArray×TP)}{A:List (ByteArray×Tok)}(b:(M.map (·.1)).Nodup)(a:(dv (λp:TP=>p.2) M).Perm A):(A.map (·.1)).Nodup:=((a.map (·.1)).nodup_iff).1 (by rw[jr];exact b)
theorem VI.keys{g:Nat}{A:List (ByteArray×Tok)}{last:Int}{T:ay}(h:VI g A last T):∀p∈A,p.1=p.2.text:=by
 obtain⟨e,_,rfl,l,M,q,f,i,rfl,j,b,a,k⟩:=h
 intro p c
 obtain⟨x,d,rfl⟩:=ox (a.mem_iff.2 c)
 exact(b x d).1
theorem VI.nd{g:Nat}{A:List (ByteArray×Tok)}{last:Int}{T:ay}(h:VI g A last T):(A.map (·.1)).Nodup:=by
 obtain⟨c,_,rfl,j,M,q,d,e,rfl,b,f,a,i⟩:=h
 exact CG b.nd a
theorem CL(R:aC):Spec prog 170 [] R [] λv H'=>∃T,H'=[T]/\∃g,v=pT g/\VI g [] 0 T:=by
 refine Spec.body func170 rfl results170 ntmps170 rfl ?_
 refine .sr<|.ag rfl<|.z ?_
 refine .makeMap (λa=>?_)
 refine .bY (oT _) (λu b e=>?_)
 obtain⟨q,rfl,d⟩:=e
 refine .q .ek ?_
 refine .cQ rfl (λc=>?_)
 refine .az rfl ?_
 refine .ret (bb _ (.one (.tmp rfl)) ((cw [0,1,0]).trans (bJ.cW (H':=[(c,.cells [.map (some a),pT q,.int .i64 0].toArray 241 (0,0))::([(a,.map #[] 0)]++b)++[]]) (by simp[take,bM];exact .refl _))) ?_)
 ·exact⟨_,rfl,_,rfl,[],_,rfl,.map (some a),[],q,_,b,rfl,MS.nil,by simp,.refl _,d⟩
theorem nu(g b:Nat)(x y:Value)(R:aC) [pc:PC R (pT g) [.map (some b),x,y]]:Spec prog 158 [pT g] R [] λv H'=>v=.bool true/\H'=[]:=by
 refine Spec.body func158 rfl results158 ntmps158 rfl ?_
 refine .sr<|.ag rfl<|.z<|.mo rfl<|.q (.hN rfl rfl) ?_
 refine .mo rfl<|.gt rfl ?_
 refine .mo rfl<|.gt rfl ?_
 refine .nc rfl<|.gt rfl ?_
 refine .fa rfl<|.gt rfl ?_
 refine .lo rfl<|.gt rfl ?_
 refine .q (.lu rfl rfl) ?_
 refine .q .eX<|.az rfl ?_
 refine .ret (cf rfl ?_)
 ·exact⟨rfl,rfl⟩
theorem CH(g:Nat)(A:List (ByteArray×Tok))(last:Int)(T:ay)(h:VI g A last T)(R:aC)(d:∀p∈T,R p.1 p.2):
  Spec prog 83 [pT g] R [] λv H'=>v=.int .i64 last/\H'=[]:=by
 obtain⟨i,_,rfl,f,M,q,j,k,rfl,c,m,l,n⟩:=h
 obtain⟨a,rfl⟩:∃b,f=.map (some b):=by obtain⟨b,es,clock,h1,_⟩:=c;exact⟨b,h1⟩
 have o:PC R (pT g) [.map (some a),pT q,.int .i64 last]:=PC.of (E:=241) (fr:=(0,0)) (d (g,.cells [.map (some a),pT q,.int .i64 last].toArray 241 (0,0)) (by simp))
 refine Spec.body func83 rfl results83 ntmps83 rfl ?_
 refine .sr<|.ag rfl<|.zs<|.sr<|.mo rfl ?_
 refine .bx (nu g a _ _ _) (λv e=>?_)
 subst e
 refine .q .not<|.zn<|.bB<|.kn<|.sr<|.mo rfl<|.nc rfl<|.fa rfl<|.lo rfl<|.az rfl ?_
 refine .ret (cf rfl ?_)
 ·exact⟨rfl,rfl⟩
structure cY where
 text:ByteArray
 jT:ByteArray
 user:ByteArray
 uri:ByteArray
 scopes:List ByteArray
 nK:ByteArray
 dj:Int
 family:Int
 used:Bool
abbrev GP:Type:=Value×cY
def bz(p:GP):List Value:=[.string p.2.text,.string p.2.jT,.string p.2.user,.string p.2.uri,p.1,.string p.2.nK,.int .i64 p.2.dj,.int .i64 p.2.family,.bool p.2.used]
def gp(R:aC)(p:GP):Prop:=RS R 1 di p.1 p.2.scopes
theorem gp.mono{R R':aC}{p:GP}(h:gp R p)(a:∀b o,R b o->R' b o):gp R' p:=RS.mono h a
theorem gp.dx{R:aC}{p:GP}(h:gp R p):∀u∈bz p,aF u=true:=by
 have b:=h.aF.h
 intro u a
 simp only[bz,abR,acb,or_false]at a
 rcases a with rfl|rfl|rfl|rfl|rfl|rfl|rfl|rfl|rfl<;>first|rfl|assumption
def cY.iC(t:cY):Prop:=t.scopes.length<=1000000
def cY.zero:cY:=⟨⟨#[]⟩,⟨#[]⟩,⟨#[]⟩,⟨#[]⟩,[],⟨#[]⟩,0,0,false⟩
theorem Aw(w:Value)(t:cY)(R:aC)(h:gp R (w,t))(c:t.iC):Spec prog 155 [.agg (bz (w,t)).toArray] R [] λv H'=>∃T,H'=[T]/\∃w',v=.agg (bz (w',t)).toArray/\gp (dV T) (w',t):=by
 have k:cB (bz (w,t)):=⟨h.dx⟩
 have i:One w:=h.aF
 have d:RS R 1 di w t.scopes:=h
 refine Spec.body func155 rfl results155 ntmps155 rfl ?_
 refine .sr ?_
 refine .cQ rfl (λf=>?_)
 refine .dM (λg=>?_)
 refine .z<|.fa rfl<|.lo rfl ?_
 refine .bY (kF w t.scopes _ d.rx c) (λe b a=>?_)
 have j:=a.aF
 refine .fa rfl<|.cC rfl rfl<|.z<|.q (.aD rfl)<|.dA rfl rfl<|.zn ?_
 refine .ret (bb _ (.one (.gd rfl rfl)) (.one [0] _) ?_)
 ·exact⟨b,by simp[take],e,rfl,a.dV⟩
abbrev dW:Type:=ByteArray×ByteArray
def jW(k:dW):List Value:=[.string k.1,.string k.2]
instance Dg(k:dW):cB (jW k):=⟨by simp[jW,aF]⟩
abbrev WS:Type:=Value×List ByteArray
def GJ(g:Nat)(C:List (dW×List ByteArray))(A:List (ByteArray×cY))(Td T0:ay):Prop:=∃vc MC vm M q Tc Tm Tq,T0=(g,.cells [vc,vm,pT q].toArray 230 (0,0))::(Tc++(Tm++Tq))/\
 (MS (λk:dW=>.agg (jW k).toArray) (λp:WS=>p.1) vc MC Tc/\(∀p∈MC,RS (dV Td) 1 di p.2.1 p.2.2)/\(dv (λp:WS=>p.2) MC).Perm C)/\
 (MS (λs:ByteArray=>.string s) (λp:GP=>.agg (bz p).toArray) vm M Tm/\(∀p∈M,p.1=p.2.2.text/\gp (dV Td) p.2/\p.2.2.iC)/\(dv (λp:GP=>p.2) M).Perm A/\QI q (dv (λt:cY=>t.dj) A) Tq)
def GI(g:Nat)(C:List (dW×List ByteArray))(A:List (ByteArray×cY))(T:ay):Prop:=∃Td T0,T=T0++Td/\GJ g C A Td T0
theorem AA{M:List (ByteArray×GP)}{A:List (ByteArray×cY)}(b:(M.map (·.1)).Nodup)(a:(dv (λp:GP=>p.2) M).Perm A):(A.map (·.1)).Nodup:=((a.map (·.1)).nodup_iff).1 (by rw[jr];exact b)
theorem GI.keys{g:Nat}{C:List (dW×List ByteArray)}{A:List (ByteArray×cY)}{T:ay}(h:GI g C A T):∀p∈A,p.1=p.2.text:=by
 obtain⟨i,_,rfl,s,e,t,M,q,f,j,k,rfl,⟨o,m,l⟩,n,b,a,r⟩:=h
 intro p c
 obtain⟨x,d,rfl⟩:=ox (a.mem_iff.2 c)
 exact(b x d).1
theorem GI.nd{g:Nat}{C:List (dW×List ByteArray)}{A:List (ByteArray×cY)}{T:ay}(h:GI g C A T):(A.map (·.1)).Nodup:=by
 obtain⟨e,_,rfl,o,c,p,M,q,d,f,i,rfl,⟨m,l,j⟩,b,k,a,n⟩:=h
 exact AA b.nd a
theorem AD(R:aC):Spec prog 169 [] R [] λv H'=>∃T,H'=[T]/\∃g,v=pT g/\GI g [] [] T:=by
 refine Spec.body func169 rfl results169 ntmps169 rfl ?_
 refine .sr<|.ag rfl<|.z ?_
 refine .makeMap (λa=>?_)
 refine .makeMap (λb=>?_)
 refine .bY (oT _) (λu c f=>?_)
 obtain⟨q,rfl,e⟩:=f
 refine .q .ek ?_
 refine .cQ rfl (λd=>?_)
 refine .az rfl ?_
 refine .ret (bb _ (.one (.tmp rfl)) ((cw [0,2,1,0]).trans (bJ.cW (H':=[(d,.cells [.map (some a),.map (some b),pT q].toArray 230 (0,0))::([(a,.map #[] 0)]++([(b,.map #[] 0)]++c))++[]]) (by simp[take,bM];exact .refl _))) ?_)
 ·exact⟨_,rfl,_,rfl,[],_,rfl,.map (some a),[],.map (some b),[],q,_,_,c,rfl,⟨MS.nil,by simp,.refl _⟩,MS.nil,by simp,.refl _,e⟩
theorem mO(g b:Nat)(x y:Value)(R:aC) [pc:PC R (pT g) [x,.map (some b),y]]:Spec prog 151 [pT g] R [] λv H'=>v=.bool true/\H'=[]:=by
 refine Spec.body func151 rfl results151 ntmps151 rfl ?_
 refine .sr<|.ag rfl<|.z<|.mo rfl<|.q (.hN rfl rfl) ?_
 refine .mo rfl<|.gt rfl ?_
 refine .mo rfl<|.gt rfl ?_
 refine .nc rfl<|.gt rfl ?_
 refine .fa rfl<|.gt rfl ?_
 refine .lo rfl<|.gt rfl ?_
 refine .q (.lu rfl rfl) ?_
 refine .q .eX<|.az rfl ?_
 refine .ret (cf rfl ?_)
 ·exact⟨rfl,rfl⟩
def cY.fresh(t:cY):cY:=⟨t.text,t.jT,t.user,t.uri,t.scopes,t.nK,t.dj,t.family,false⟩
def nB(s:ByteArray)(p:Int->Bool):Bool:=s.data.toList.all λc=>p (c.toNat:Int)
def ny(z:Int):Bool:=decide (97<=z)&&decide (z<=122)
def pU(z:Int):Bool:=(decide (48<=z)&&decide (z<=57))||z==95
def CY(z:Int):Bool:=ny z||pU z||(decide (65<=z)&&decide (z<=90))||z==46||z==45
def CZ(z:Int):Bool:=ny z||pU z
def ob(s:ByteArray):Bool:=nB s CY&&decide (1<=s.size)&&decide (s.size<=32)
def BE(s:ByteArray):Bool:=decide (s=⟨#[117,115,101,114]⟩)||decide (s=⟨#[116,104,105,115]⟩)||decide (s=⟨#[110,97,109,101,115,112,97,99,101]⟩)||decide (s=⟨#[114,101,108,97,116,105,111,110]⟩)||decide (s=⟨#[115,99,111,112,101]⟩)
def isWord(s:ByteArray):Bool:= !BE s&&(nB s CZ&&decide (1<=s.size)&&decide (s.size<=32))&&(if h:0<s.size then ny (s[0]'h).toNat else false)
structure dy where
 id:ByteArray
 dY:ByteArray
 iK:List ByteArray
 scopes:List ByteArray
structure CR where
 id:ByteArray
 dY:ByteArray
 vu:Value
 vs:Value
def CR.cells(r:CR):List Value:=[.string r.id,.string r.dY,r.vu,r.vs]
structure eT(R:aC)(r:CR)(c:dy):Prop where
 id:r.id=c.id
 dY:r.dY=c.dY
 u:RS R 1 di r.vu c.iK
 s:RS R 1 di r.vs c.scopes
theorem eT.mono{R R':aC}{r:CR}{c:dy}(h:eT R r c)(a:∀b o,R b o->R' b o):eT R' r c:=⟨h.id,h.dY,h.u.mono a,h.s.mono a⟩
theorem eT.dx{R:aC}{r:CR}{c:dy}(h:eT R r c):∀u∈r.cells,aF u=true:=by
 have a:=h.u.aF.h
 have b:=h.s.aF.h
 simp[CR.cells,a,b]
 exact⟨rfl,rfl⟩
def dy.iC(c:dy):Prop:=c.iK.length<=1000000/\c.scopes.length<=1000000
def dy.zero:dy:=⟨⟨#[]⟩,⟨#[]⟩,[],[]⟩
theorem qC(r:CR)(c:dy)(R:aC)(h:eT R r c)(i:c.iC):Spec prog 147 [.agg r.cells.toArray] R [] λv H'=>∃T,H'=[T]/\∃r',v=.agg r'.cells.toArray/\eT (sg T) r' c:=by
 have y:cB r.cells:=⟨h.dx⟩
 obtain⟨z,A,o,n⟩:=r
 obtain⟨d,e,b,a⟩:=h
 simp only at d e b a
 subst d;subst e
 have t:=b.aF
 have u:=a.aF
 refine Spec.body func147 rfl results147 ntmps147 rfl ?_
 refine .sr ?_
 refine .cQ rfl (λp=>?_)
 refine .dM (λs=>?_)
 refine .zs<|.bN [7,9] mixed ?_
 refine .tO 0 rfl (.fieldAddr rfl)<|.tO 1 rfl (.cj rfl)<|.tO 3 rfl (.fieldAddr rfl)<|.tO 4 rfl (.cj rfl) ?_
 refine .sT 2 rfl ?_
 refine .bY (kF o c.iK _ b.rx i.1) (λl j f=>?_)
 have w:=f.aF
 refine .nil (Next.sub ?_)
 refine .tO 6 rfl (.fieldAddr rfl) ?_
 refine .sT 5 rfl ?_
 refine .bY (kF n c.scopes _ a.rx i.2) (λm k g=>?_)
 have x:=g.aF
 refine .nil (Next.sub ?_)
 refine .sT 7 rfl ?_
 refine .cC rfl rfl ?_
 refine .nil (Next.mod rfl ?_)
 refine .tK 8 rfl (.ee rfl) ?_
 refine .sT 9 rfl ?_
 refine .cC rfl rfl ?_
 refine .nil (Next.mod rfl ?_)
 refine RA.nil (by kernel_rfl) ?_
 refine aI<|.sr<|.q (.aD rfl)<|.dA rfl rfl<|.zn ?_
 refine .ret (bb _ (.one (.gd rfl rfl)) (.one [0,0] _) ?_)
 ·exact⟨k++j,by simp[take,bM],⟨c.id,c.dY,l,m⟩,rfl,rfl,rfl,f.sg.right,g.sg.left⟩
def RI(g:Nat)(A:List dy)(T:ay):Prop:=∃vm M Tm Ti,T=(g,.cells [vm].toArray 222 (0,0))::(Tm++Ti)/\MS (λs:ByteArray=>.string s) (λp:CR×dy=>.agg p.1.cells.toArray) vm M Tm/\
 (∀p∈M,p.1=p.2.2.id/\eT (sg Ti) p.2.1 p.2.2/\p.2.2.iC)/\(M.map (·.2.2)).Perm A
theorem qv(R:aC):Spec prog 168 [] R [] λv H'=>∃T,H'=[T]/\∃g,v=pT g/\RI g [] T:=by
 refine Spec.body func168 rfl results168 ntmps168 rfl ?_
 refine .sr<|.ag rfl<|.z ?_
 refine .makeMap (λa=>?_)
 refine .q .ek ?_
 refine .cQ rfl (λb=>?_)
 refine .az rfl ?_
 refine .ret (bb _ (.one (.tmp rfl)) (.one [0,0] _) ?_)
 ·exact⟨_,rfl,_,rfl,.map (some a),[],_,[],by simp[take,bM];rfl,MS.nil,by simp,.refl _⟩
theorem qx(g b:Nat)(R:aC) [pc:PC R (pT g) [.map (some b)]]:Spec prog 146 [pT g] R [] λv H'=>v=.bool true/\H'=[]:=by
 refine Spec.body func146 rfl results146 ntmps146 rfl ?_
 refine .sr<|.ag rfl<|.z<|.mo rfl<|.q (.hN rfl rfl) ?_
 refine .mo rfl<|.gt rfl ?_
 refine .mo rfl<|.gt rfl ?_
 refine .nc rfl<|.gt rfl ?_
 refine .fa rfl<|.gt rfl ?_
 refine .lo rfl<|.gt rfl ?_
 refine .q (.lu rfl rfl) ?_
 refine .q .eX<|.az rfl ?_
 refine .ret (cf rfl ?_)
 ·exact⟨rfl,rfl⟩
structure dr{α:Type}(c:α->α->Int):Prop where
 sw:∀x y,c x y<0↔0<c y x
 tr:∀x y z,c x y<=0->c y z<=0->c x z<=0
 tl:∀x y z,c x y<0->c y z<=0->c x z<0
section
variable{α β:Type}{c d:α->α->Int}
theorem dr.refl(h:dr c)(x:α):c x x=0:=by have:=h.sw x x;omega
theorem dr.C1(h:dr c){x y:α}(a:c x y=0):c y x=0:=by have b:=h.sw x y;have d:=h.sw y x;omega
theorem dr.t2(h:dr c)(x y z:α)(a:c x y<=0)(b:c y z<0):c x z<0:=by
 have d:=h.tr x y z a (by omega)
 rcases Int.lt_or_eq_of_le d with h4|h4
 ·exact h4
 ·have f:=h.C1 h4
  have e:=h.tl y z x b (by omega)
  have g:=(h.sw y x).1 e
  omega
theorem dr.map(h:dr c)(f:β->α):dr (λx y=>c (f x) (f y)):=⟨λx y=>h.sw _ _,λx y z=>h.tr _ _ _,λx y z=>h.tl _ _ _⟩
theorem dr.so(h:dr c):SO (ap c) where
 cG x:=by unfold ap;rw[h.refl];rfl
 tr x y z a b:=by
  unfold ap at *
  have a:=bp a
  have b:=bp b
  exact ab6 (h.tl x y z a (by omega))
 dD x y z a b:=by
  unfold ap at *
  have a:=bc a
  have b:=bc b
  refine decide_eq_false λf=>?_
  have d:c y x<=0:=by have:=h.sw y x;have:=h.sw x y;omega
  have e:c z y<=0:=by have:=h.sw y z;have:=h.sw z y;omega
  have g:=h.tr z y x e d
  have i:=(h.sw x z).1 f
  omega
theorem jw(a:Int)(l:List Int):dE (a::l)=if a=0 then dE l else a:=rfl
theorem dr.nil:dr (λ_ _:α=>dE []):=⟨λx y=>by simp[dE],λx y z _ _=>by simp[dE],λx y z h _=>by simp[dE]at h⟩
theorem dr.cons{L:α->α->List Int}(d:dr c)(g:dr λa b=>dE (L a b)):dr (λa b=>dE (c a b::L a b)) where
 sw x y:=by
  simp only[jw]
  have e:=d.sw x y
  have f:=d.sw y x
  have s:=g.sw x y
  split<;>split<;>omega
 tr x y z e f:=by
  simp only[jw]at *
  have h:=d.tr x y z
  have i:=d.tl x y z
  have j:=d.t2 x y z
  have k:=g.tr x y z
  have l:=d.tr z y x
  have m:=d.sw x y
  have n:=d.sw y x
  have o:=d.sw z y
  have p:=d.sw y z
  have q:=d.sw x z
  have r:=d.sw z x
  split<;>(try split at e)<;>(try split at f)<;>omega
 tl x y z e f:=by
  simp only[jw]at *
  have h:=d.tr x y z
  have i:=d.tl x y z
  have j:=d.t2 x y z
  have k:=g.tl x y z
  have l:=d.tr z y x
  have m:=d.sw x y
  have n:=d.sw y x
  have o:=d.sw z y
  have p:=d.sw y z
  have q:=d.sw x z
  have r:=d.sw z x
  split<;>(try split at e)<;>(try split at f)<;>omega
theorem iD{a:Int}{l:List Int}(h:dE (a::l)=0):a=0/\dE l=0:=by
 rw[jw]at h
 split at h
 ·rename_i b;exact⟨b,h⟩
 ·omega
end
theorem ik:dr dc where
 sw x y:=by rw[<-gO, <-kC]
 tr x y z h1 h2:=by
  have a:dP y x=false:=abV.2 λh=>by have:=kC.1 h;omega
  have c:dP z y=false:=abV.2 λh=>by have:=kC.1 h;omega
  have b:=gl.dD z y x c a
  rcases Int.lt_or_le 0 (dc x z)with h|h
  ·rw[kC.2 h]at b;cases b
  ·exact h
 tl x y z h1 h2:=by
  have a:=gO.2 h1
  rcases Int.lt_or_eq_of_le h2 with h|h
  ·exact gO.1 (lN a (gO.2 h))
  ·rw[lO]at h;subst h;exact h1
theorem oa:dr dU where
 sw x y:=by unfold dU;split<;>split<;>(try split)<;>(try split)<;>omega
 tr x y z h1 h2:=by unfold dU at *;split at h1<;>split at h2<;>(try split at h1)<;>(try split at h2)<;>split<;>(try split)<;>omega
 tl x y z h1 h2:=by unfold dU at *;split at h1<;>split at h2<;>(try split at h1)<;>(try split at h2)<;>split<;>(try split)<;>omega
theorem qu{α:Type}{c:α->α->Int}(h:dr c)(f:∀x y,c x y=0->x=y){xs ys:List α}(g:ys.Perm xs)(i:xs.Pairwise λa b=>ap c b a=false)(j:ys.Pairwise λa b=>ap c b a=false):ys=xs:=by
 refine List.Perm.eq_of_pairwise (le:=λa b:α=>ap c b a=false) (λa b _ _ d e=>?_) j i g
 unfold ap at d e
 have d:=bc d
 have e:=bc e
 have:=h.sw b a
 have:=h.sw a b
 exact f a b (by omega)
structure bs where
 os:ByteArray
 oi:ByteArray
 rel:ByteArray
 us:ByteArray
 ss:ByteArray
 si:ByteArray
 sr:ByteArray
def bs.enc(t:bs):List Value:=[.string t.os,.string t.oi,.string t.rel,.string t.us,.string t.ss,.string t.si,.string t.sr]
theorem bs.eq_iff(a b:bs):fi a.enc b.enc=true↔a=b:=by
 cases a;cases b
 simp only[bs.enc,fi,iS,bs.mk.injEq]
 simp
instance C5:DecidableEq bs:=λa b=>decidable_of_iff _ (bs.eq_iff a b)
theorem bs.eq(a b:bs):fi a.enc b.enc=decide (a=b):=by rw[abL,abF];exact bs.eq_iff a b
instance bs.one(t:bs):cB t.enc:=⟨by simp[bs.enc,aF]⟩
structure Sub where
 us:ByteArray
 ss:ByteArray
 si:ByteArray
 sr:ByteArray
def Sub.enc(t:Sub):List Value:=[.string t.us,.string t.ss,.string t.si,.string t.sr]
theorem Sub.eq_iff(a b:Sub):fi a.enc b.enc=true↔a=b:=by
 cases a;cases b
 simp only[Sub.enc,fi,iS,Sub.mk.injEq]
 simp
instance C4:DecidableEq Sub:=λa b=>decidable_of_iff _ (Sub.eq_iff a b)
theorem Sub.eq(a b:Sub):fi a.enc b.enc=decide (a=b):=by rw[abL,abF];exact Sub.eq_iff a b
instance Sub.one(t:Sub):cB t.enc:=⟨by simp[Sub.enc,aF]⟩
structure ej where
 os:ByteArray
 oi:ByteArray
 rel:ByteArray
def ej.enc(t:ej):List Value:=[.string t.os,.string t.oi,.string t.rel]
theorem ej.eq_iff(a b:ej):fi a.enc b.enc=true↔a=b:=by
 cases a;cases b
 simp only[ej.enc,fi,iS,ej.mk.injEq]
 simp
instance C3:DecidableEq ej:=λa b=>decidable_of_iff _ (ej.eq_iff a b)
theorem ej.eq(a b:ej):fi a.enc b.enc=decide (a=b):=by rw[abL,abF];exact ej.eq_iff a b
def bs.sub(t:bs):Sub:=⟨t.us,t.ss,t.si,t.sr⟩
def bs.dN(t:bs):ej:=⟨t.os,t.oi,t.rel⟩
def gP(u:ByteArray):Int:=if u=⟨#[]⟩then 1 else 0
def gn(a b:bs):Int:=dE [dc a.os b.os,dc a.oi b.oi,dc a.rel b.rel,dU (gP a.us) (gP b.us),dc a.us b.us,dc a.ss b.ss,dc a.si b.si,dc a.sr b.sr]
def dH(a b:bs):Bool:=decide (gn a b<0)
theorem fB:dr gn:=
 (ik.map bs.os).cons ((ik.map bs.oi).cons ((ik.map bs.rel).cons ((oa.map λt:bs=>gP t.us).cons ((ik.map bs.us).cons ((ik.map bs.ss).cons ((ik.map bs.si).cons ((ik.map bs.sr).cons .nil)))))))
theorem pH{a b:bs}(h:gn a b=0):a=b:=by
 unfold gn at h
 obtain⟨c,h⟩:=iD h
 obtain⟨d,h⟩:=iD h
 obtain⟨e,h⟩:=iD h
 obtain⟨k,h⟩:=iD h
 obtain⟨f,h⟩:=iD h
 obtain⟨g,h⟩:=iD h
 obtain⟨i,h⟩:=iD h
 obtain⟨j,h⟩:=iD h
 rw[lO]at c d e f g i j
 cases a;cases b
 simp_all
def og(s i:ByteArray):Bool:=isWord s&&ob i
def AL(t:Sub):Bool:=if t.us=⟨#[]⟩then og t.ss t.si&&isWord t.sr else ob t.us&&(decide (t.ss=⟨#[]⟩)&&decide (t.si=⟨#[]⟩)&&decide (t.sr=⟨#[]⟩))
def iY(t:bs):Bool:=og t.os t.oi&&isWord t.rel&&AL t.sub
def nt(f t:bs):Bool:=(decide (f.os=⟨#[]⟩)||decide (f.os=t.os))&&(decide (f.oi=⟨#[]⟩)||decide (f.oi=t.oi))&&(decide (f.rel=⟨#[]⟩)||decide (f.rel=t.rel))&&(decide (f.us=⟨#[]⟩)||decide (f.us=t.us))&&(decide (f.ss=⟨#[]⟩)||decide (f.ss=t.ss))&&(decide (f.si=⟨#[]⟩)||decide (f.si=t.si))&&(decide (f.sr=⟨#[]⟩)||decide (f.sr=t.sr))
structure aM where
 t:bs
 fr:Int
 to:Int
def aM.enc(x:aM):List Value:=x.t.enc++[.int .u64 x.fr,.int .u64 x.to]
structure cN where
 put:Bool
 t:bs
def cN.enc(c:cN):List Value:=.bool c.put::c.t.enc
instance cN.one(c:cN):cB c.enc:=⟨by simp[cN.enc,bs.enc,aF]⟩
def iB(b:Nat):List Value:=[pT b]
def aM.there(x:aM)(r:Int):Bool:=decide (x.fr<=r)&&(x.to==0||decide (r<x.to))
def aM.fL(t:bs)(x:aM):Bool:=decide (x.t=t)&&x.to==0
def fc(L:List aM)(t:bs):Bool:=L.any (aM.fL t)
def o7(cD no:List bs)(cs:List cN):Int:=
 if 32<cs.length\/cs.length=0\/32<cD.length\/32<no.length then 25
 else if cD.any (λt=> !iY t)||no.any (λt=> !iY t)||cs.any (λc=> !iY c.t)then 9
 else if ¬(cs.map (·.t)).Nodup then 2 else 0
def jf(cs:List cN):Nat:=(cs.filter (·.put)).length
def B0(L:List aM)(head:Int)(cD no:List bs)(cs:List cN):Int:=
 if cD.any (λt=> !fc L t)||no.any (λt=>fc L t)then 13
 else if cs.any (λc=>c.put&&fc L c.t)then 10
 else if cs.any (λc=> !c.put&& !fc L c.t)then 11
 else if 4611686018427387903<=head\/4096<L.length+jf cs/\0<jf cs then 8 else 0
def aM.close(t:bs)(r:Int)(x:aM):aM:=if x.fL t then⟨x.t,x.fr,r⟩else x
def fl(r:Int)(L:List aM)(c:cN):List aM:=if c.put then L++[⟨c.t,r,0⟩]else L.map (aM.close c.t r)
structure cZ where
 rows:List aM
 head:Int
 dk:Int
def o8(S:cZ)(cD no:List bs)(cs:List cN):Int:=if o7 cD no cs≠0 then o7 cD no cs else B0 S.rows S.head cD no cs
def nr(S:cZ)(cD no:List bs)(cs:List cN):cZ:=if o8 S cD no cs=0 then⟨cs.foldl (fl (S.head+1)) S.rows,S.head+1,S.dk⟩else S
def scan(S:cZ)(r:Int):Bool:=decide (S.dk<=r)&&decide (r<=S.head)
def pi(h:Int)(x:aM):Bool:=x.to==0||decide (h<x.to)
def o9(S:cZ)(h:Int):cZ:=if scan S h then⟨S.rows.filter (pi h),S.head,h⟩else S
def Tok.fresh(t:Tok):Tok:=⟨t.text,t.kind,t.jT,t.user,t.scopes,t.family,t.dj,t.rev,false⟩
theorem lk{κ β γ:Type}{f:β->γ}{q:γ->Bool}{A:List (κ×β)}:(dv f A).filter (λx=>q x.2)=dv f (A.filter λx=>q (f x.2)):=by unfold dv;rw[List.filter_map];rfl
theorem pB{β:Type}{M:List (ByteArray×β)}{a:List ByteArray}{k:ByteArray}:et k (M.filter λx=>decide (x.1∉a))=M.filter λx=>decide (x.1∉a++[k]):=by
 unfold et
 rw[List.filter_filter]
 refine List.filter_congr λx _=>?_
 by_cases h:x.1=k<;>simp[h]
theorem CM(g:Nat)(A:List (ByteArray×Tok))(last:Int)(T:ay)(h:VI g A last T)(now:Int)(R:aC):
  Spec prog 110 [pT g,.int .i64 now] R [T] λv H'=>∃T',H'=[T']/\v=.tuple #[]/\VI g (A.filter λx=>decide (now<x.2.dj)) last T':=by
 have J:=h.nd
 obtain⟨d,_,rfl,vm,M,q,n,G,rfl,L,Y,I,hQ⟩:=h
 obtain⟨a,rfl⟩:∃b,vm=.map (some b):=by obtain⟨b,es,clock,h1,_⟩:=L;exact⟨b,h1⟩
 refine Spec.eg (H':=[bl g [.map (some a),pT q,.int .i64 last] 241,n,G,d]) (by simp) ?_
 refine Spec.body func110 rfl results110 ntmps110 rfl ?_
 refine .seq<|.sr<|.mo rfl ?_
 refine .bx (nu g a _ _ _) (λv hv=>?_)
 subst hv
 refine .q .not<|.zn<|.bB<|.kn<|.sr<|.mo rfl<|.nc rfl<|.fa rfl<|.lo rfl<|.mo rfl ?_
 refine .call [2] (oS q _ G hQ now _) (λu H' hu=>?_)
 obtain⟨e,F,B,A',rfl,C,a0,r,K⟩:=hu
 show aH _ _ _ _ _ _ _ [e,F,bl g [.map (some a),pT q,.int .i64 last] 241,n,d] _
 have a4:=C.le
 refine .q (.gL C) ?_
 refine .mo rfl<|.zn<|.block ?_
 refine .loop (X:=Nat×List (ByteArray×TP)×ay) (λy=>(y.1<=B.length/\y.2.1=M.filter λx=>decide (x.1∉(B.map (·.1)).take y.1))/\MS (λs:ByteArray=>.string s) (λp:TP=>.agg (bA p).toArray) (.map (some a)) y.2.1 y.2.2) (λy=>[(0,pT g),(14,u),(15,.int .i64 ((B.map (·.1)).length:Nat)),(16,iN y.1)]) (λy=>[e,F,bl g [.map (some a),pT q,.int .i64 last] 241,y.2.2,d]) (λy=>B.length-y.1) (0,M,n) ⟨⟨by omega,by simp only[List.take_zero];exact(abX.2 λx _=>by simp).symm⟩,L⟩ kE.c.c.c.c rH ?_
 rintro⟨i,m,E⟩ ⟨⟨hi,w⟩,j⟩
 simp only at hi w j⊢
 refine .sr<|.q .lss<|.zs ?_
 refine .cond rfl (λo=>?_) λo=>?_
 have Q:i<(B.map (·.1)).length:=by have:=bp o;omega
 obtain⟨k,O⟩:=eo Q
 have a5:i<B.length:=by simpa using Q
 refine .kn<|.seq<|.block<|.sr ?_
 refine .ar i C O (λa6=>?_)
 refine .lo rfl<|.az rfl<|.region<|.mo rfl ?_
 refine .nc rfl<|.fa rfl<|.lo rfl<|.mo rfl ?_
 refine .delete j rfl (show _=some (Value.string k)from rfl) (λV Z _=>?_)
 refine .nil<|bg<|aI<|.region ?_
 refine .ia (i+1) .add ?_
 refine .mo rfl<|.nil ?_
 ·exact aS (i+1,eu k m,V) ⟨⟨by simp only;omega,by simp only;rw[lq j.nd,w,pB,List.take_add_one,O];rfl⟩,Z⟩ (by simp only;omega) kE.c.c.c.c rH
 have a1:i=B.length:=by have:=bc o;simp at this;omega
 have N:m=M.filter λx=>decide (now<x.2.2.dj):=by
  rw[w,a1,List.take_of_length_le (by simp)]
  refine List.filter_congr λx hx=>?_
  have S:=r.pm
  have a3:(x.1,x.2.2)∈A:=I.mem_iff.1 (kl hx)
  have U:(x.1,x.2.2.dj)∈dv (λt:Tok=>t.dj) A:=kl a3
  by_cases D:now<x.2.2.dj
  ·have:x.1∉B.map (·.1):=λhm=>by
    obtain⟨p,l,a2⟩:=abG.1 hm
    have h5:p∈dv (λt:Tok=>t.dj) A:=S.mem_iff.2 (aca _ l)
    have W:da x.1 (dv (λt:Tok=>t.dj) A)=some p.2:=gj (by rw[jr];exact J) (by rw[<-a2];exact h5)
    have H:da x.1 (dv (λt:Tok=>t.dj) A)=some x.2.2.dj:=gj (by rw[jr];exact J) U
    rw[W]at H
    have h8:=r.le p l
    simp only[Option.some.injEq]at H
    omega
   rw[ab6 this,ab6 D]
  ·have:x.1∈B.map (·.1):=by
    rcases ab5.1 (S.mem_iff.1 U)with h5|h5
    ·exact abG.2 ⟨_,h5,rfl⟩
    ·exact absurd (K _ h5) D
   rw[decide_eq_false D,decide_eq_false (λhh=>hh this)]
 refine .exit<|aT<|aW<|aU ?_
 refine cz _ .none ((cw [2,2,0,1]).trans (bJ.cW (H':=[((g,.cells [.map (some a),pT q,.int .i64 last].toArray 241 (0,0))::(E++e))++d]) (by simp[take,bM]))) ?_
 ·refine⟨_,rfl,rfl,d,_,rfl,_,m,q,E,e,rfl,j,λp l=>Y p (abM.1 (N▸l)).1,?_,?_⟩
  ·rw[N, <-lk (q:=λt:Tok=>decide (now<t.dj))]
   exact I.filter _
  ·refine a0.perm ((r.filter K).trans (List.Perm.of_eq ?_))
   exact lk (f:=λt:Tok=>t.dj) (q:=λz:Int=>decide (now<z))
abbrev CP:Type:=CR×dy
def bD(p:CP):List Value:=p.1.cells
def mc(p:CP):Prop:=∀u∈bD p,aF u=true
def ji(p q:CP):Int:=dc p.1.id q.1.id
theorem qp(p q:CP)(R:aC)(g:mc p)(h:mc q):Spec prog 149 [.agg (bD p).toArray,.agg (bD q).toArray] R [] λv H'=>v=.int .i64 (ji p q)/\H'=[]:=by
 have n:cB (bD p):=⟨g⟩
 have o:cB (bD q):=⟨h⟩
 obtain⟨⟨a,j,k,l⟩,c⟩:=p
 obtain⟨⟨b,e,f,m⟩,d⟩:=q
 refine Spec.body func149 rfl results149 ntmps149 rfl ?_
 refine .sr ?_
 refine .cQ rfl (λe=>?_)
 refine .cQ rfl (λf=>?_)
 refine .ag rfl<|.z<|.fa rfl<|.lo rfl<|.fa rfl<|.lo rfl ?_
 refine .bx (fH a b _) (λv i=>?_)
 subst i
 refine .az rfl ?_
 refine .ret (cf rfl ?_)
 ·exact⟨rfl,rfl⟩
theorem qo:SO (ap ji):=by
 have e:∀p q:CP,ap ji p q=dP p.1.id q.1.id:=λp q=>by
  unfold ap ji
  rw[abL,gO,abF]
 exact⟨λx=>by rw[e];exact gl.cG _,λx y z a b=>by rw[e]at *;exact gl.tr _ _ _ a b,λx y z a b=>by rw[e]at *;exact gl.dD _ _ _ a b⟩
structure eH(S:cZ):Prop where
 ok:∀x∈S.rows,iY x.t=true/\1<=x.fr/\x.fr<=S.head/\(x.to=0\/(x.fr<x.to/\S.dk<x.to/\x.to<=S.head))
 pw:S.rows.Pairwise λx y=>x.t=y.t->x.to≠0/\x.to<=y.fr
 len:S.rows.length<=4096
 h0:0<=S.dk
 h1:S.dk<=S.head
 h2:S.head<=4611686018427387903
def jJ(S:cZ)(f:bs)(r:Int):List bs:=(S.rows.filter λx=>x.there r&&nt f x.t).map (·.t)
def eQ(cs:List cN)(r:Int)(x:aM):aM:=if x.to=0/\cs.any (λc=> !c.put&&decide (c.t=x.t))=true then⟨x.t,x.fr,r⟩else x
def news(cs:List cN)(r:Int):List aM:=(cs.filter (·.put)).map λc=>⟨c.t,r,0⟩
theorem kY{cs:List cN}{r:Int}{x:aM}:(eQ cs r x).t=x.t/\(eQ cs r x).fr=x.fr:=by unfold eQ;split<;>exact⟨rfl,rfl⟩
theorem mx{cs:List cN}{r:Int}{x:aM}(h:x.to≠0):eQ cs r x=x:=by unfold eQ;rw[abH λa=>h a.1]
theorem qt{r:Int}{x:aM}:eQ [] r x=x:=by unfold eQ;rw[abH (by simp)]
theorem o5{r:Int}(l:r≠0):∀(cs:List cN) (L:List aM),(cs.map (·.t)).Nodup->cs.foldl (fl r) L=L.map (eQ cs r)++news cs r
 |[],L,_=>by
  have:L.map (eQ [] r)=L:=by
   conv=>rhs;rw[<-List.map_id L]
   exact List.map_congr_left λx _=>qt
  simp[news,this]
 |c::cs,L,hn=>by
  rw[abK,abQ]at hn
  rw[List.foldl_cons,o5 l cs _ hn.2]
  have p:∀x:aM,x.t=c.t->eQ cs r x=x:=λx m=>by
   unfold eQ
   rw[abH]
   rintro⟨_,h⟩
   obtain⟨d,o,k⟩:=List.any_eq_true.1 h
   simp only[abJ,abF]at k
   exact hn.1 (abG.2 ⟨d,o,k.2.trans m⟩)
  cases hp:c.put with
  |true=>
   have n:eQ (c::cs) r=eQ cs r:=by
    funext x
    unfold eQ
    simp only[List.any_cons,hp,Bool.not_true,Bool.false_and,Bool.false_or]
   have f:news (c::cs) r=⟨c.t,r,0⟩::news cs r:=by unfold news;rw[abP,abI hp];rfl
   rw[n,f]
   unfold fl
   rw[abI hp,abY,ab3]
   congr 1
   rw[abK,List.map_nil,p _ rfl];rfl
  |false=>
   have f:news (c::cs) r=news cs r:=by unfold news;rw[abP,abH (by simp[hp])]
   rw[f]
   unfold fl
   rw[abH (by simp[hp]),ab4]
   congr 1
   refine List.map_congr_left λx m=>?_
   simp only[Function.comp]
   by_cases b:x.fL c.t=true
   ·have e:x.t=c.t/\x.to=0:=by unfold aM.fL at b;simpa using b
    have g:aM.close c.t r x=⟨x.t,x.fr,r⟩:=by unfold aM.close;rw[abI b]
    rw[g,mx l]
    unfold eQ
    rw[abI ⟨e.2,by simp[hp,e.1]⟩]
   ·have g:aM.close c.t r x=x:=by unfold aM.close;rw[abH b]
    rw[g]
    unfold eQ
    have e:x.to=0->¬c.t=x.t:=λa i=>b (by unfold aM.fL;simp[a,i])
    by_cases a:x.to=0
    ·have i:=e a
     simp[a,hp,i]
    ·rw[abH λj=>a j.1,abH λj=>a j.1]
structure jP(S:cZ)(cs:List cN):Prop where
 right:∀c∈cs,iY c.t=true
 nd:(cs.map (·.t)).Nodup
 mq:∀c∈cs,c.put=true->fc S.rows c.t=false
 there:∀c∈cs,c.put=false->fc S.rows c.t=true
 head:S.head<4611686018427387903
 len:S.rows.length+jf cs<=4096\/jf cs=0
theorem po{L:List aM}{t:bs}:fc L t=false↔∀x∈L,x.t=t->x.to≠0:=by
 unfold fc
 rw[List.any_eq_false]
 refine forall_congr' λx=>forall_congr' λa=>?_
 unfold aM.fL
 simp
theorem oC{cs:List cN}{r:Int}{x:aM}:x∈news cs r↔∃c∈cs,c.put=true/\x=⟨c.t,r,0⟩:=by
 unfold news
 rw[abG]
 constructor
 ·rintro⟨c,a,rfl⟩
  have:=abM.1 a
  exact⟨c,this.1,this.2,rfl⟩
 ·rintro⟨c,a,b,rfl⟩
  exact⟨c,abM.2 ⟨a,b⟩,rfl⟩
theorem eH.collect{S:cZ}(a:eH S)(h:Int):eH (o9 S h):=by
 unfold o9
 split
 ·rename_i c
  unfold scan at c
  simp only[abJ,abF]at c
  have k:=a.h0;have l:=a.h1;have d:=a.h2
  refine⟨λx j=>?_,a.pw.sublist List.filter_sublist,Nat.le_trans (List.length_filter_le _ _) a.len,by simp only;omega,by simp only;omega,d⟩
  obtain⟨i,b⟩:=abM.1 j
  obtain⟨e,f,g,m⟩:=a.ok x i
  refine⟨e,f,g,?_⟩
  unfold pi at b
  simp only[abN,abS,abF]at b
  simp only
  omega
 ·exact a
theorem eH.Cq{S:cZ}(c:eH S)(f:bs)(r:Int):(jJ S f r).Nodup:=by
 unfold jJ
 rw[List.Nodup,ab7]
 refine(c.pw.filter _).imp_of_mem λ{x y} e h g d=>?_
 obtain⟨i,j⟩:=g d
 have a:=(abM.1 e).2
 have b:=(abM.1 h).2
 unfold aM.there at a b
 simp only[abJ,abF,abN,abS]at a b
 omega
set_option linter.unusedSimpArgs false
theorem Cc{cs:List cN}{i:Nat}:jf (cs.take i)<=jf cs:=(List.Sublist.filter _ (acd i cs)).length_le
theorem jP.take{S:cZ}{cs:List cN}(h:jP S cs)(i:Nat):jP S (cs.take i):=by
 have b:∀c∈cs.take i,c∈cs:=λc a=>(acd i cs).subset a
 refine⟨λc a=>h.right c (b c a),h.nd.sublist ((acd i cs).map _),λc a=>h.mq c (b c a),λc a=>h.there c (b c a),h.head,?_⟩
 have d:=h.len
 have e:=Cc (cs:=cs) (i:=i)
 omega
theorem eH.fold{S:cZ}(a:eH S){cs:List cN}(d:jP S cs):eH ⟨cs.foldl (fl (S.head+1)) S.rows,S.head+1,S.dk⟩:=by
 have n:=a.h0;have u:=a.h1;have v:=a.h2;have w:=d.head
 rw[o5 (by omega) _ _ d.nd]
 refine⟨λx hx=>?_,?_,?_,n,by simp only;omega,by simp only;omega⟩
 ·simp only at hx⊢
  rcases ab5.1 hx with hx|hx
  ·obtain⟨y,i,rfl⟩:=abG.1 hx
   obtain⟨o,p,A,b4⟩:=a.ok y i
   obtain⟨e,f⟩:=kY (cs:=cs) (r:=S.head+1) (x:=y)
   rw[e,f]
   refine⟨o,p,by omega,?_⟩
   unfold eQ
   split
   ·right;simp only;omega
   ·rcases b4 with b4|b4
    ·exact .inl b4
    ·right;omega
  ·obtain⟨c,g,l,rfl⟩:=oC.1 hx
   exact⟨d.right c g,by simp only;omega,by simp only;omega,.inl rfl⟩
 ·simp only
  rw[List.pairwise_append]
  refine⟨?_,?_,λx hx y i=>?_⟩
  ·rw[ab7]
   refine a.pw.imp λ{x y} h b=>?_
   obtain⟨e,f⟩:=kY (cs:=cs) (r:=S.head+1) (x:=x)
   obtain⟨q,s⟩:=kY (cs:=cs) (r:=S.head+1) (x:=y)
   rw[e,q]at b
   obtain⟨j,t⟩:=h b
   rw[mx j,s]
   exact⟨j,t⟩
  ·unfold news
   rw[ab7]
   have:=d.nd
   rw[List.Nodup,ab7]at this
   exact(this.sublist List.filter_sublist).imp λ{x y} h b=>absurd b h
  ·intro b
   obtain⟨z,m,rfl⟩:=abG.1 hx
   obtain⟨c,g,l,rfl⟩:=oC.1 i
   obtain⟨e,f⟩:=kY (cs:=cs) (r:=S.head+1) (x:=z)
   rw[e]at b
   have k:=po.1 (d.mq c g l) z m b
   rw[mx k]
   refine⟨k,?_⟩
   obtain⟨_,_,_,B⟩:=a.ok z m
   simp only
   omega
 ·simp only[List.length_append,List.length_map,news]
  have C:=a.len
  have:=d.len
  unfold jf at this
  omega
theorem Bc{t u:bs}{r:Int}{x:aM}(h:u≠t):(aM.close u r x).fL t=x.fL t:=by
 unfold aM.close
 split
 ·rename_i a
  unfold aM.fL at a⊢
  simp only[abJ,abF]at a
  have b:¬x.t=t:=λe=>h (a.1.symm.trans e)
  simp[b]
 ·rfl
theorem pp{r:Int}{t:bs}:∀(cs:List cN) (L:List aM),t∉cs.map (·.t)->fc (cs.foldl (fl r) L) t=fc L t
 |[],_,_=>rfl
 |c::cs,L,h=>by
  rw[abK,abR,not_or]at h
  rw[List.foldl_cons,pp cs _ h.2]
  unfold fl fc
  split
  ·rw[List.any_append]
   have:aM.fL t ⟨c.t,r,0⟩=false:=by
    unfold aM.fL
    have a:¬c.t=t:=λe=>h.1 e.symm
    simp[a]
   simp[this]
  ·rw[List.any_map]
   congr 1
   funext x
   exact Bc λe=>h.1 e.symm
abbrev RB:Type:=Nat×aM
def qO(p:RB):List Value:=iB p.1
theorem RS.of_map{α β:Type}{R:aC}{sz:Nat}{enc:α->List Value}{f:β->α}{v:Value}{xs:List β}(h:RS R sz enc v (xs.map f)):RS R sz (λx=>enc (f x)) v xs:=by
 refine⟨λx a=>h.len _ (abG.2 ⟨x,a,rfl⟩),λx a=>h.one _ (abG.2 ⟨x,a,rfl⟩),?_⟩
 obtain⟨p,g,d,e,j,h4⟩:=h.h
 rw[List.length_map]at d e
 refine⟨p,g,d,e,j,?_⟩
 rcases h4 with h4|⟨b,n,c,E,i,k,l,m⟩
 ·exact .inl (List.map_eq_nil_iff.1 h4)
 ·exact .inr ⟨b,n,c,E,i,k,l,by rwa [List.flatMap_map]at m⟩
def m7(x:aM):Obj:=.cells x.enc.toArray 152 (0,0)
def lI(ps:List RB):ay:=ps.map λp=>(p.1,m7 p.2)
def ids{κ:Type} [DecidableEq κ](key:aM->κ)(k:κ)(ps:List RB):List Nat:=(ps.filter λx=>decide (key x.2=k)).map (·.1)
section
variable{κ:Type} [DecidableEq κ]{encK:κ->Value}{key:aM->κ}
structure fG(encK:κ->Value)(key:aM->κ)(ps:List RB)(vm:Value)(M:List (κ×(Value×ay)))(Tm Ts:ay):Prop where
 ms:MS encK (λp:Value×ay=>p.1) vm M Tm
 pm:Ts.Perm (M.flatMap λp=>p.2.2)
 os:∀p∈M,OS 248 1 iB p.2.1 (ids key p.1 ps) p.2.2
 ne:∀p∈M,ids key p.1 ps≠[]
 al:∀x∈ps,key x.2∈M.map (·.1)
theorem AJ{k:κ}{ps:List RB}(h:∀x∈ps,key x.2≠k):ids key k ps=[]:=by
 unfold ids
 rw[List.filter_eq_nil_iff.2 λx a=>by simpa using h x a];rfl
theorem fG.nil{b:Nat}:fG encK key [] (.map (some b)) [] [(b,.map #[] 0)] []:=⟨MS.nil,by simp,by simp,by simp,by simp⟩
theorem fG.get{ps:List RB}{vm:Value}{M:List (κ×(Value×ay))}{f a:ay}(h:fG encK key ps vm M f a)(k:κ):∃v Tk Tr,((da k M).map λp:Value×ay=>p.1).getD (sZ)=v/\OS 248 1 iB v (ids key k ps) Tk/\a.Perm (Tk++Tr)/\(∀v' Tk',((gM k (v',Tk') M).flatMap λp=>p.2.2).Perm (Tk'++Tr)):=by
 cases hm:da k M with
 |none=>
  have d:=oz.1 hm
  have i:ids key k ps=[]:=AJ λx j g=>d (g▸h.al x j)
  refine⟨sZ,[],a,rfl,by rw[i];exact OS.nil,.refl _,λv' Tk'=>?_⟩
  rw[oA d,ab8]
  exact(abW).trans (by simpa using h.pm.symm.append_left Tk')
 |some p=>
  obtain⟨v,Tk⟩:=p
  have e:=iZ hm
  obtain⟨X,Y,c⟩:=List.append_of_mem e
  have b:=h.ms.nd
  refine⟨v,Tk,(X.flatMap λp=>p.2.2)++(Y.flatMap λp=>p.2.2),rfl,h.os _ e,?_,λv' Tk'=>?_⟩
  ·refine h.pm.trans ?_
   rw[c,ab8,List.flatMap_cons]
   exact List.perm_append_comm_assoc _ _ _
  ·refine((oB b).flatMap_right _).trans ?_
   unfold km
   rw[c]at b⊢
   rw[AM b,ab8,ab8]
   simp only[List.flatMap_cons,List.flatMap_nil,abU]
   exact abW
theorem fG.rows{ps qs:List RB}{vm:Value}{M:List (κ×(Value×ay))}{b c:ay}(h:fG encK key ps vm M b c)(f:qs.map (λp=>(p.1,key p.2))=ps.map (λp=>(p.1,key p.2))):fG encK key qs vm M b c:=by
 have d:∀k,ids key k qs=ids key k ps:=λk=>by
  have e:∀L:List RB,ids key k L=((L.map λp=>(p.1,key p.2)).filter λp=>decide (p.2=k)).map (·.1):=λL=>by
   unfold ids
   rw[List.filter_map,ab4];rfl
  rw[e,e,f]
 refine⟨h.ms,h.pm,λp a=>by rw[d];exact h.os p a,λp a=>by rw[d];exact h.ne p a,λx i=>?_⟩
 have:(x.1,key x.2)∈ps.map (λp=>(p.1,key p.2)):=f▸abG.2 ⟨x,i,rfl⟩
 obtain⟨y,j,l⟩:=abG.1 this
 have g:key y.2=key x.2:=congrArg Prod.snd l
 rw[<-g]
 exact h.al y j
end
def SI(g:Nat)(S:cZ)(T:ay):Prop:=∃ps vf vr Mf Mr Tf Tr Sf Sr,T=(g,.cells [.bool true,.int .u64 S.head,.int .u64 S.dk,iN ps.length,vf,vr].toArray 182 (0,0))::(Tf++(Sf++(Tr++(Sr++lI ps))))/\
 fG (λk:ej=>.agg k.enc.toArray) (λx=>x.t.dN) ps vf Mf Tf Sf/\fG (λk:Sub=>.agg k.enc.toArray) (λx=>x.t.sub) ps vr Mr Tr Sr/\ps.map (·.2)=S.rows
theorem od(a:Int)(R:aC):Spec prog 463 [.int .i64 a] R [] λu H'=>u=.bool false/\H'=[]:=by
 refine Spec.body func463 rfl results463 ntmps463 rfl ?_
 refine .sr<|.ag rfl<|.z<|.mo rfl<|.mo rfl<|.q .eS<|.az rfl ?_
 refine .ret (cf rfl ?_)
 ·exact⟨by simp,rfl⟩
theorem qz(a b:Int)(R:aC):Spec prog 452 [.int .i64 a,.int .i64 b] R [] λu H'=>u=.int .i64 (dU a b)/\H'=[]:=by
 refine Spec.body func452 rfl results452 ntmps452 rfl ?_
 refine .sr<|.ag rfl<|.z<|.mo rfl ?_
 refine .bx (od a _) (λv e=>?_)
 subst e
 refine .ag rfl<|.z<|.mo rfl ?_
 refine .bx (od b _) (λv e=>?_)
 subst e
 refine .ag rfl<|.zs<|.sr<|.mo rfl<|.zn<|.bB<|.kn<|.seq<|.sr<|.mo rfl<|.zn<|.bB<|.kn<|.seq<|.sr<|.mo rfl<|.mo rfl<|.q .lss<|.zn ?_
 refine .cond rfl (λc=>?_) λc=>?_
 refine .sr<|.az rfl ?_
 refine .ret (bq (cf rfl ?_))
 ·refine⟨?_,rfl⟩
  simp at c
  try simp at d
  unfold dU
  congr 1
  split
  ·first|rfl|omega
  ·first|rfl|(exfalso;omega)|(split<;>first|rfl|omega)
 refine .kn<|.seq<|.sr<|.mo rfl<|.mo rfl<|.q .gtr<|.zn ?_
 refine .cond rfl (λd=>?_) λd=>?_
 refine .sr<|.az rfl ?_
 refine .ret (bq (cf rfl ?_))
 ·refine⟨?_,rfl⟩
  simp at c
  try simp at d
  unfold dU
  congr 1
  split
  ·first|rfl|omega
  ·first|rfl|(exfalso;omega)|(split<;>first|rfl|omega)
 refine .kn<|.sr<|.az rfl ?_
 refine .ret (cf rfl ?_)
 ·refine⟨?_,rfl⟩
  simp at c
  try simp at d
  unfold dU
  congr 1
  split
  ·first|rfl|omega
  ·first|rfl|(exfalso;omega)|(split<;>first|rfl|omega)
theorem oe(a:Int)(R:aC):Spec prog 362 [.int .u64 a] R [] λu H'=>u=.bool false/\H'=[]:=by
 refine Spec.body func362 rfl results362 ntmps362 rfl ?_
 refine .sr<|.ag rfl<|.z<|.mo rfl<|.mo rfl<|.q .eS<|.az rfl ?_
 refine .ret (cf rfl ?_)
 ·exact⟨by simp,rfl⟩
theorem qA(a b:Int)(R:aC):Spec prog 240 [.int .u64 a,.int .u64 b] R [] λu H'=>u=.int .i64 (dU a b)/\H'=[]:=by
 refine Spec.body func240 rfl results240 ntmps240 rfl ?_
 refine .sr<|.ag rfl<|.z<|.mo rfl ?_
 refine .bx (oe a _) (λv e=>?_)
 subst e
 refine .ag rfl<|.z<|.mo rfl ?_
 refine .bx (oe b _) (λv e=>?_)
 subst e
 refine .ag rfl<|.zs<|.sr<|.mo rfl<|.zn<|.bB<|.kn<|.seq<|.sr<|.mo rfl<|.zn<|.bB<|.kn<|.seq<|.sr<|.mo rfl<|.mo rfl<|.q .lss<|.zn ?_
 refine .cond rfl (λc=>?_) λc=>?_
 refine .sr<|.az rfl ?_
 refine .ret (bq (cf rfl ?_))
 ·refine⟨?_,rfl⟩
  simp at c
  try simp at d
  unfold dU
  congr 1
  split
  ·first|rfl|omega
  ·first|rfl|(exfalso;omega)|(split<;>first|rfl|omega)
 refine .kn<|.seq<|.sr<|.mo rfl<|.mo rfl<|.q .gtr<|.zn ?_
 refine .cond rfl (λd=>?_) λd=>?_
 refine .sr<|.az rfl ?_
 refine .ret (bq (cf rfl ?_))
 ·refine⟨?_,rfl⟩
  simp at c
  try simp at d
  unfold dU
  congr 1
  split
  ·first|rfl|omega
  ·first|rfl|(exfalso;omega)|(split<;>first|rfl|omega)
 refine .kn<|.sr<|.az rfl ?_
 refine .ret (cf rfl ?_)
 ·refine⟨?_,rfl⟩
  simp at c
  try simp at d
  unfold dU
  congr 1
  split
  ·first|rfl|omega
  ·first|rfl|(exfalso;omega)|(split<;>first|rfl|omega)
theorem oV(s:Sub)(R:aC):Spec prog 453 [.agg s.enc.toArray] R [] λv H'=>v=.int .i64 (gP s.us)/\H'=[]:=by
 refine Spec.body func453 rfl results453 ntmps453 rfl ?_
 refine .sr ?_
 refine .cQ rfl (λc=>?_)
 refine .ag rfl<|.zs<|.sr<|.fa rfl<|.lo rfl<|.q .AX<|.zn ?_
 refine .cond rfl (λa=>?_) λa=>?_
 refine .sr<|.az rfl ?_
 refine .ret (bq (cf rfl ?_))
 ·have b:¬s.us=⟨#[]⟩:=by simpa using a
  exact⟨by unfold gP;rw[abH b],rfl⟩
 refine .kn<|.sr<|.az rfl ?_
 refine .ret (cf rfl ?_)
 ·have b:s.us=⟨#[]⟩:=by simpa using a
  exact⟨by unfold gP;rw[abI b],rfl⟩
theorem Co(a b:bs)(R:aC):Spec prog 424 [.agg a.enc.toArray,.agg b.enc.toArray] R [] λv H'=>v=.int .i64 (gn a b)/\H'=[]:=by
 obtain⟨o,p,q,e,g,h,i⟩:=a
 obtain⟨r,s,t,f,l,m,n⟩:=b
 have A:cB (Sub.enc ⟨e,g,h,i⟩):=inferInstance
 have B:cB (Sub.enc ⟨f,l,m,n⟩):=inferInstance
 refine Spec.body func424 rfl results424 ntmps424 rfl ?_
 refine .sr ?_
 refine .cQ rfl (λu=>?_)
 refine .cQ rfl (λw=>?_)
 refine .ag rfl<|.zs ?_
 refine bk.cut (X:=Nat×Nat) (λ_=>True) (λy=>[(2,pT u),(3,pT w),(5,.pointer (some ⟨y.1,0,none⟩)),(6,.pointer (some ⟨y.2,0,none⟩))]) (λy=>[[(y.1,.cells (Sub.enc ⟨e,g,h,i⟩).toArray 71 (0,0))],[(y.2,.cells (Sub.enc ⟨f,l,m,n⟩).toArray 71 (0,0))],bl w (bs.enc ⟨r,s,t,f,l,m,n⟩) 73,bl u (bs.enc ⟨o,p,q,e,g,h,i⟩) 73]) ?_ ?_
 refine .jE [] [6,7] mixed ?_
 conv=>arg 3;simp only[take,rest,bM,ab2,ace]
 conv=>arg 5;simp only[take,rest,bM,ab2,ace]
 conv=>arg 9;simp only[take,rest,bM,ab2,ace]
 refine .tO 0 rfl (.fieldAddr rfl) ?_
 refine .tO 1 rfl (.loadT rfl) ?_
 refine .tK 2 rfl (.ee rfl) ?_
 refine .tK 3 rfl (.loadT rfl) ?_
 refine RA.Cg 4 5 rfl rfl (by kernel_rfl) rfl ?_ ?_
 refine .dM (λj=>?_)
 refine .nil (Next.sub ?_)
 refine .sT 5 rfl ?_
 refine .dM (λk=>?_)
 refine .nil (Next.sub ?_)
 refine .sT 6 rfl ?_
 refine .dA rfl rfl ?_
 refine .nil (Next.mod rfl ?_)
 refine .sT 7 rfl ?_
 refine .dA rfl rfl ?_
 refine .nil (Next.mod rfl ?_)
 refine RA.nil (by kernel_rfl) ?_
 ·first
   |exact ax (j,k) trivial kE.c.c.c.c (cw [1,0,0,0])
   |exact ax (j,k) trivial kE.c.c.c.c (cw [0,0,0,0])
 refine .dM (λk=>?_)
 refine .nil (Next.sub ?_)
 refine .sT 4 rfl ?_
 refine .dM (λj=>?_)
 refine .nil (Next.sub ?_)
 refine .sT 6 rfl ?_
 refine .dA rfl rfl ?_
 refine .nil (Next.mod rfl ?_)
 refine .sT 7 rfl ?_
 refine .dA rfl rfl ?_
 refine .nil (Next.mod rfl ?_)
 refine RA.nil (by kernel_rfl) ?_
 ·first
   |exact ax (j,k) trivial kE.c.c.c.c (cw [1,0,0,0])
   |exact ax (j,k) trivial kE.c.c.c.c (cw [0,0,0,0])
 intro y z
 obtain⟨j,k⟩:=y
 simp only
 refine aI<|.seq<|.bN [] mixed ?_
 refine .tO 0 rfl (.fieldAddr rfl)<|.tO 1 rfl (.fieldAddr rfl)<|.tO 2 rfl (.cj rfl)<|.tO 3 rfl (.fieldAddr rfl)<|.tO 4 rfl (.fieldAddr rfl)<|.tO 5 rfl (.cj rfl)<|.tO 7 rfl (.fieldAddr rfl)<|.tO 8 rfl (.fieldAddr rfl)<|.tO 9 rfl (.cj rfl)<|.tO 10 rfl (.fieldAddr rfl)<|.tO 11 rfl (.fieldAddr rfl)<|.tO 12 rfl (.cj rfl)<|.tO 14 rfl (.fieldAddr rfl)<|.tO 15 rfl (.cj rfl)<|.tO 16 rfl (.fieldAddr rfl)<|.tO 17 rfl (.cj rfl)<|.tO 19 rfl (.aD rfl)<|.tO 21 rfl (.aD rfl)<|.tO 24 rfl (.fieldAddr rfl)<|.tO 25 rfl (.cj rfl)<|.tO 26 rfl (.fieldAddr rfl)<|.tO 27 rfl (.cj rfl)<|.tO 29 rfl (.fieldAddr rfl)<|.tO 30 rfl (.fieldAddr rfl)<|.tO 31 rfl (.cj rfl)<|.tO 32 rfl (.fieldAddr rfl)<|.tO 33 rfl (.fieldAddr rfl)<|.tO 34 rfl (.cj rfl)<|.tO 36 rfl (.fieldAddr rfl)<|.tO 37 rfl (.fieldAddr rfl)<|.tO 38 rfl (.cj rfl)<|.tO 39 rfl (.fieldAddr rfl)<|.tO 40 rfl (.fieldAddr rfl)<|.tO 41 rfl (.cj rfl)<|.tO 43 rfl (.fieldAddr rfl)<|.tO 44 rfl (.cj rfl)<|.tO 45 rfl (.fieldAddr rfl)<|.tO 46 rfl (.cj rfl) ?_
 refine .sT 6 rfl ?_
 refine .bx (fH o r _) (λv d=>?_)
 subst d
 refine .nil (Next.sub ?_)
 refine .sT 13 rfl ?_
 refine .bx (fH p s _) (λv d=>?_)
 subst d
 refine .nil (Next.sub ?_)
 refine .sT 18 rfl ?_
 refine .bx (fH q t _) (λv d=>?_)
 subst d
 refine .nil (Next.sub ?_)
 refine .sT 20 rfl ?_
 refine .bx (oV ⟨e,g,h,i⟩ _) (λv d=>?_)
 subst d
 refine .nil (Next.sub ?_)
 refine .sT 22 rfl ?_
 refine .bx (oV ⟨f,l,m,n⟩ _) (λv d=>?_)
 subst d
 refine .nil (Next.sub ?_)
 refine .sT 23 rfl ?_
 refine .bx (qz (gP e) (gP f) _) (λv d=>?_)
 subst d
 refine .nil (Next.sub ?_)
 refine .sT 28 rfl ?_
 refine .bx (fH e f _) (λv d=>?_)
 subst d
 refine .nil (Next.sub ?_)
 refine .sT 35 rfl ?_
 refine .bx (fH g l _) (λv d=>?_)
 subst d
 refine .nil (Next.sub ?_)
 refine .sT 42 rfl ?_
 refine .bx (fH h m _) (λv d=>?_)
 subst d
 refine .nil (Next.sub ?_)
 refine .sT 47 rfl ?_
 refine .bx (fH i n _) (λv d=>?_)
 subst d
 refine .nil (Next.sub ?_)
 refine .sT 48 rfl ?_
 refine .iR [_,_,_,_,_,_,_,_] (λx=>?_)
 refine .nil (Next.sub ?_)
 refine .sT 49 rfl ?_
 refine .bx (lx _ [dc o r,dc p s,dc q t,dU (gP e) (gP f),dc e f,dc g l,dc h m,dc i n] _ (RS.lits rfl (by simp[gZ]) (by simp[gZ,aF]))) (λv d=>?_)
 subst d
 refine .nil (Next.sub ?_)
 refine .tO 50 rfl .assign ?_
 refine RA.nil (by kernel_rfl) ?_
 refine aI ?_
 refine .ret (cf rfl ?_)
 ·exact⟨rfl,rfl⟩
theorem pE(a b:bs)(R:aC):Spec prog 361 [.agg a.enc.toArray,.agg b.enc.toArray] R [] λv H'=>v=.bool (dH a b)/\H'=[]:=by
 refine Spec.body func361 rfl results361 ntmps361 rfl ?_
 refine .sr ?_
 refine .cQ rfl (λd=>?_)
 refine .cQ rfl (λe=>?_)
 refine .ag rfl<|.z<|.q (.aD rfl)<|.q (.aD rfl) ?_
 refine .bx (Co a b _) (λv c=>?_)
 subst c
 refine .q .lss<|.az rfl ?_
 refine .ret (cf rfl ?_)
 ·exact⟨rfl,rfl⟩
def fJ{κ:Type} [DecidableEq κ](key:aM->κ)(k:κ)(ps:List RB):List RB:=ps.filter λx=>decide (key x.2=k)
theorem AI{κ:Type} [DecidableEq κ]{key:aM->κ}{k:κ}{ps:List RB}:ids key k ps=(fJ key k ps).map (·.1):=rfl
theorem fG.look{κ:Type} [DecidableEq κ]{encK:κ->Value}{key:aM->κ}{ps:List RB}{vm:Value}{M:List (κ×(Value×ay))}{d a:ay}{R:aC}(h:fG encK key ps vm M d a)(j:∀p∈a,R p.1 p.2)(k:κ):∃p c,((da k M).map λp:Value×ay=>p.1).getD (sZ)=.slice p (ids key k ps).length c/\RS R 1 iB (.slice p (ids key k ps).length c) (ids key k ps):=by
 obtain⟨v,m,n,f,g,i,_⟩:=h.get k
 have b:RS R 1 iB v (ids key k ps):=g.rs λp l=>j p (i.mem_iff.2 (aca _ l))
 obtain⟨p,c,e⟩:=b.val
 subst e
 exact⟨p,c,f,b⟩
structure SV(R:aC)(g:Nat)(S:cZ)(ps:List RB)(vf vr:Value)(Mf:List (ej×(Value×ay)))(Mr:List (Sub×(Value×ay))):Prop where
 pc:PC R (pT g) [.bool true,.int .u64 S.head,.int .u64 S.dk,iN ps.length,vf,vr]
 of:One vf
 or:One vr
 mf:RM R (λk:ej=>.agg k.enc.toArray) (λp:Value×ay=>p.1) vf Mf
 mr:RM R (λk:Sub=>.agg k.enc.toArray) (λp:Value×ay=>p.1) vr Mr
 lf:∀k,∃p c,((da k Mf).map λp:Value×ay=>p.1).getD (sZ)=.slice p (ids (λx=>x.t.dN) k ps).length c/\RS R 1 iB (.slice p (ids (λx=>x.t.dN) k ps).length c) (ids (λx=>x.t.dN) k ps)
 lr:∀k,∃p c,((da k Mr).map λp:Value×ay=>p.1).getD (sZ)=.slice p (ids (λx=>x.t.sub) k ps).length c/\RS R 1 iB (.slice p (ids (λx=>x.t.sub) k ps).length c) (ids (λx=>x.t.sub) k ps)
 af:∀x∈ps,x.2.t.dN∈Mf.map (·.1)
 nf:(Mf.map (·.1)).Nodup
 pr:∀p∈ps,PC R (.pointer (some ⟨p.1,0,none⟩)) p.2.enc
 eq:ps.map (·.2)=S.rows
theorem SV.mono{R R':aC}{g:Nat}{S:cZ}{ps:List RB}{vf m:Value}{j:List (ej×(Value×ay))}{l:List (Sub×(Value×ay))}(h:SV R g S ps vf m j l)(e:∀b o,R b o->R' b o):SV R' g S ps vf m j l:=by
 refine⟨h.pc.mono e,h.of,h.or,?_,?_,λk=>?_,λk=>?_,h.af,h.nf,λp n=>(h.pr p n).mono e,h.eq⟩
 ·obtain⟨b,f,c,a,d,i⟩:=h.mf
  exact⟨b,f,c,a,e _ _ d,i⟩
 ·obtain⟨b,f,c,a,d,i⟩:=h.mr
  exact⟨b,f,c,a,e _ _ d,i⟩
 ·obtain⟨p,c,a,d⟩:=h.lf k
  exact⟨p,c,a,d.mono e⟩
 ·obtain⟨p,c,a,d⟩:=h.lr k
  exact⟨p,c,a,d.mono e⟩
theorem SI.view{g:Nat}{S:cZ}{T:ay}{R:aC}(h:SI g S T)(b:∀p∈T,R p.1 p.2):∃ps vf vr Mf Mr,SV R g S ps vf vr Mf Mr:=by
 obtain⟨ps,vf,vr,Mf,Mr,j,l,f,i,rfl,c,d,e⟩:=h
 refine⟨ps,vf,vr,Mf,Mr,⟨PC.of (E:=182) (fr:=(0,0)) (b (g,_) (by simp)),c.ms.one,d.ms.one,c.ms.rm λp a=>b p (by simp[a]),d.ms.rm λp a=>b p (by simp[a]),λk=>c.look (λp a=>b p (by simp[a])) k,λk=>d.look (λp a=>b p (by simp[a])) k,c.al,c.ms.nd,λp a=>?_,e⟩⟩
 exact PC.of (E:=152) (fr:=(0,0)) (b (p.1,m7 p.2) (by
  have:(p.1,m7 p.2)∈lI ps:=abG.2 ⟨p,a,rfl⟩
  simp[this]))
theorem B8(g:Nat)(R:aC)(a b c d e:Value) [i1:One a] [i2:One b] [f:One c] [h:One d] [i:One e] [pc:PC R (pT g) [.bool true,a,b,c,d,e]]:Spec prog 108 [pT g] R [] λv H'=>v=.bool true/\H'=[]:=by
 refine Spec.body func108 rfl results108 ntmps108 rfl ?_
 refine .sr<|.ag rfl<|.z<|.mo rfl<|.q (.hN rfl rfl) ?_
 refine .mo rfl<|.gt rfl ?_
 refine .mo rfl<|.gt rfl ?_
 refine .nc rfl<|.gt rfl ?_
 refine .fa rfl<|.gt rfl ?_
 refine .lo rfl<|.q .eX<|.az rfl ?_
 refine .ret (cf rfl ?_)
 ·exact⟨rfl,rfl⟩
section
variable{R:aC}{g:Nat}{S:cZ}{ps:List RB}{vf vr:Value}{Mf:List (ej×(Value×ay))}{Mr:List (Sub×(Value×ay))}
theorem SV.ok(h:SV R g S ps vf vr Mf Mr):Spec prog 108 [pT g] R [] λv H'=>v=.bool true/\H'=[]:=by
 have:=h.pc
 have:=h.of
 have:=h.or
 exact B8 g R _ _ _ _ _
theorem SV.head(h:SV R g S ps vf vr Mf Mr):Spec prog 58 [pT g] R [] λv H'=>v=.int .u64 S.head/\H'=[]:=by
 have d:=h.pc
 refine Spec.body func58 rfl results58 ntmps58 rfl ?_
 refine .sr<|.ag rfl<|.zs<|.sr<|.mo rfl ?_
 refine .bx (h.mono λb o a=>.inl a).ok (λv c=>?_)
 subst c
 refine .q .not<|.zn<|.bB<|.kn<|.sr<|.mo rfl<|.nc rfl<|.fa rfl<|.lo rfl<|.az rfl ?_
 refine .ret (cf rfl ?_)
 ·exact⟨rfl,rfl⟩
theorem SV.AH(h:SV R g S ps vf vr Mf Mr):Spec prog 87 [pT g] R [] λv H'=>v=.int .u64 S.dk/\H'=[]:=by
 have d:=h.pc
 refine Spec.body func87 rfl results87 ntmps87 rfl ?_
 refine .sr<|.ag rfl<|.zs<|.sr<|.mo rfl ?_
 refine .bx (h.mono λb o a=>.inl a).ok (λv c=>?_)
 subst c
 refine .q .not<|.zn<|.bB<|.kn<|.sr<|.mo rfl<|.nc rfl<|.fa rfl<|.lo rfl<|.az rfl ?_
 refine .ret (cf rfl ?_)
 ·exact⟨rfl,rfl⟩
end
theorem B7(R:aC):Spec prog 105 [] R [] λv H'=>∃T,H'=[T]/\∃g,v=pT g/\SI g ⟨[],0,0⟩ T:=by
 refine Spec.body func105 rfl results105 ntmps105 rfl ?_
 refine .sr<|.ag rfl<|.z ?_
 refine .makeMap (λa=>?_)
 refine .makeMap (λb=>?_)
 refine .q .ek ?_
 refine .cQ rfl (λc=>?_)
 refine .az rfl ?_
 refine .ret (bb _ (.one (.tmp rfl)) ((cw [0,1,0]).trans (bJ.cW (H':=[(c,.cells [.bool true,.int .u64 0,.int .u64 0,.int .i64 0,.map (some a),.map (some b)].toArray 182 (0,0))::([(a,.map #[] 0)]++([]++([(b,.map #[] 0)]++([]++lI []))))]) (by simp[take,bM,cg,lI]))) ?_)
 ·exact⟨_,rfl,c,rfl,[],_,_,[],[],_,_,_,_,rfl,fG.nil,fG.nil,rfl⟩
def nz(ps:List RB)(S:cZ)(t:bs)(u:Value):Prop:=(∃b x,(b,x)∈ps/\x.fL t=true/\u=pT b)\/(fc S.rows t=false/\u=.pointer none)
theorem nz.ptr{ps:List RB}{S:cZ}{t:bs}{u:Value}(h:nz ps S t u)(d:ps.map (·.2)=S.rows):∃o,u=.pointer o/\fc S.rows t= !o.isNone:=by
 rcases h with⟨b,x,a,c,rfl⟩|⟨a,rfl⟩
 ·exact⟨_,rfl,by rw[fc,List.any_eq_true.2 ⟨x,d▸abG.2 ⟨_,a,rfl⟩,c⟩];rfl⟩
 ·exact⟨_,rfl,by rw[a];rfl⟩
theorem SI.cells{g:Nat}{S:cZ}{T:ay}(h:SI g S T):∃n vf vr Rest,One vf/\One vr/\T=(g,.cells [.bool true,.int .u64 S.head,.int .u64 S.dk,.int .i64 n,vf,vr].toArray 182 (0,0))::Rest/\∀head dk,SI g ⟨S.rows,head,dk⟩ ((g,.cells [.bool true,.int .u64 head,.int .u64 dk,.int .i64 n,vf,vr].toArray 182 (0,0))::Rest):=by
 obtain⟨l,vf,vr,c,d,i,j,e,f,rfl,a,b,k⟩:=h
 exact⟨_,vf,vr,_,a.ms.one,b.ms.one,rfl,λhead dk=>⟨l,vf,vr,c,d,i,j,e,f,rfl,a,b,k⟩⟩
abbrev NP:Type:=Value×(dW×List ByteArray)
def bC(p:NP):List Value:=[.string p.2.1.1,.string p.2.1.2,p.1]
def iw(R:aC)(p:NP):Prop:=RS R 1 di p.1 p.2.2
theorem iw.mono{R R':aC}{p:NP}(h:iw R p)(a:∀b o,R b o->R' b o):iw R' p:=RS.mono h a
theorem iw.dx{R:aC}{p:NP}(h:iw R p):∀u∈bC p,aF u=true:=by
 have b:=h.aF.h
 intro u a
 simp only[bC,abR,acb,or_false]at a
 rcases a with rfl|rfl|rfl<;>first|rfl|assumption
def mh(p:NP):Prop:=∀u∈bC p,aF u=true
def pO(a b:dW):Int:=dE [dc a.1 b.1,dc a.2 b.2]
def ls(p q:NP):Int:=pO p.2.1 q.2.1
theorem CO:dr pO:=dr.cons (ik.map λp:dW=>p.1) (dr.cons (ik.map λp:dW=>p.2) dr.nil)
theorem AW:dr ls:=CO.map λp:NP=>p.2.1
theorem p6(p q:NP)(R:aC)(b:mh p)(c:mh q):Spec prog 154 [.agg (bC p).toArray,.agg (bC q).toArray] R [] λv H'=>v=.int .i64 (ls p q)/\H'=[]:=by
 have g:cB (bC p):=⟨b⟩
 have h:cB (bC q):=⟨c⟩
 refine Spec.body func154 rfl results154 ntmps154 rfl ?_
 refine .sr ?_
 refine .cQ rfl (λe=>?_)
 refine .cQ rfl (λf=>?_)
 refine .ag rfl<|.zs<|.bN [] mixed ?_
 refine .tO 0 rfl (.fieldAddr rfl)<|.tO 1 rfl (.cj rfl)<|.tO 2 rfl (.fieldAddr rfl)<|.tO 3 rfl (.cj rfl)<|.tO 5 rfl (.fieldAddr rfl)<|.tO 6 rfl (.cj rfl)<|.tO 7 rfl (.fieldAddr rfl)<|.tO 8 rfl (.cj rfl) ?_
 refine .sT 4 rfl ?_
 refine .bx (fH p.2.1.1 q.2.1.1 _) (λv a=>?_)
 subst a
 refine .nil (Next.sub ?_)
 refine .sT 9 rfl ?_
 refine .bx (fH p.2.1.2 q.2.1.2 _) (λv a=>?_)
 subst a
 refine .nil (Next.sub ?_)
 refine .sT 10 rfl ?_
 refine .iR [_,_] (λd=>?_)
 refine .nil (Next.sub ?_)
 refine .sT 11 rfl ?_
 refine .bx (lx _ [dc p.2.1.1 q.2.1.1,dc p.2.1.2 q.2.1.2] _ (RS.lits rfl (by simp[gZ]) (by simp[gZ,aF]))) (λv a=>?_)
 subst a
 refine .nil (Next.sub ?_)
 refine .tO 12 rfl .assign ?_
 refine RA.nil (by kernel_rfl) ?_
 refine aI ?_
 refine .ret (cf rfl ?_)
 ·exact⟨rfl,rfl⟩
def me(p:GP):Prop:=∀u∈bz p,aF u=true
def ke(p q:GP):Int:=dc p.2.text q.2.text
theorem At(p q:GP)(R:aC)(a:me p)(b:me q):Spec prog 157 [.agg (bz p).toArray,.agg (bz q).toArray] R [] λv H'=>v=.int .i64 (ke p q)/\H'=[]:=by
 have f:cB (bz p):=⟨a⟩
 have g:cB (bz q):=⟨b⟩
 refine Spec.body func157 rfl results157 ntmps157 rfl ?_
 refine .sr ?_
 refine .cQ rfl (λd=>?_)
 refine .cQ rfl (λe=>?_)
 refine .ag rfl<|.z<|.fa rfl<|.lo rfl<|.fa rfl<|.lo rfl ?_
 refine .bx (fH p.2.text q.2.text _) (λv c=>?_)
 subst c
 refine .az rfl ?_
 refine .ret (cf rfl ?_)
 ·exact⟨rfl,rfl⟩
theorem lm(p q:GP):ap ke p q=dP p.2.text q.2.text:=by
 unfold ap ke
 rw[abL,gO,abF]
theorem As:SO (ap ke):=⟨λx=>by rw[lm];exact gl.cG _,λx y z a b=>by rw[lm]at *;exact gl.tr _ _ _ a b,λx y z a b=>by rw[lm]at *;exact gl.dD _ _ _ a b⟩
def mm(p:TP):Prop:=∀u∈bA p,aF u=true
def kL(p q:TP):Int:=dc p.2.text q.2.text
theorem Cn(p q:TP)(R:aC)(a:mm p)(b:mm q):Spec prog 161 [.agg (bA p).toArray,.agg (bA q).toArray] R [] λv H'=>v=.int .i64 (kL p q)/\H'=[]:=by
 have f:cB (bA p):=⟨a⟩
 have g:cB (bA q):=⟨b⟩
 refine Spec.body func161 rfl results161 ntmps161 rfl ?_
 refine .sr ?_
 refine .cQ rfl (λd=>?_)
 refine .cQ rfl (λe=>?_)
 refine .ag rfl<|.z<|.fa rfl<|.lo rfl<|.fa rfl<|.lo rfl ?_
 refine .bx (fH p.2.text q.2.text _) (λv c=>?_)
 subst c
 refine .az rfl ?_
 refine .ret (cf rfl ?_)
 ·exact⟨rfl,rfl⟩
theorem ln(p q:TP):ap kL p q=dP p.2.text q.2.text:=by
 unfold ap kL
 rw[abL,gO,abF]
theorem Cm:SO (ap kL):=⟨λx=>by rw[ln];exact gl.cG _,λx y z a b=>by rw[ln]at *;exact gl.tr _ _ _ a b,λx y z a b=>by rw[ln]at *;exact gl.dD _ _ _ a b⟩
end Go.Proofs.YtgppncmdpcefhaaGreatDoor
