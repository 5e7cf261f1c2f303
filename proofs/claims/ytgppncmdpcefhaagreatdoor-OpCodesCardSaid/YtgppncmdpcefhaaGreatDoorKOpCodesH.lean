/- What the law 'OpCodes' uses. No condition. -/
import Derived.Test.YtgppncmdpcefhaaGreatDoorKOpCodesA
import Derived.Test.YtgppncmdpcefhaaGreatDoorKOpCodesB
import Derived.Test.YtgppncmdpcefhaaGreatDoorKOpCodesF
import Derived.Test.YtgppncmdpcefhaaGreatDoorKOpCodesG
namespace Go.Proofs.YtgppncmdpcefhaaGreatDoor
set_option linter.defProp false
def abF:=@decide_eq_true_eq
def abG:=@List.mem_map
def abH:=@if_neg
def abI:=@if_pos
def abJ:=@Bool.and_eq_true
def abK:=@List.map_cons
def abL:=@Bool.eq_iff_iff
def abM:=@List.mem_filter
def abN:=@Bool.or_eq_true
def abO:=@UInt8.not_lt
def abP:=@List.filter_cons
def abQ:=@List.nodup_cons
def abR:=@List.mem_cons
def abS:=@beq_iff_eq
def abT:=@UInt8.lt_irrefl
def abU:=@List.append_nil
def abV:=@Bool.eq_false_iff
def abW:=@List.perm_append_comm
def abX:=@List.filter_eq_self
def abY:=@List.map_append
def abZ:=@List.getElem?_eq_some_iff
def ab0:=@List.flatten_cons
def ab1:=@List.flatten_nil
def ab2:=@List.getD_cons_zero
def ab3:=@List.append_assoc
def ab4:=@List.map_map
def ab5:=@List.mem_append
def ab6:=@decide_eq_true
def ab7:=@List.pairwise_map
def ab8:=@List.flatMap_append
def ab9:=@UInt8.le_antisymm
def aca:=@List.take_of_length_le
def acb:=@List.mem_append_left
def acd:=@List.not_mem_nil
def ace:=@List.take_sublist
def acf:=@List.getD_cons_succ
open Tryz
set_option linter.unusedVariables false
theorem Spec.pJ{P:Program}{f:FuncId}{a:List Value}{v:Value}(h:∀w,Calls P f a.toArray w λe w'=>e=.returned v/\w'=w)(R:aC):Spec P f a R [] λu H'=>u=v/\H'=[]:=
 λw _ _=>(h w).mono λe w' ⟨c,b⟩=>⟨v,[],c,⟨rfl,rfl⟩,by subst b;exact⟨by simp,by simp⟩,by subst b;exact .refl _ _⟩
def dn(a b:ByteArray):Int:=Lib.compareBytes a.data.toList b.data.toList
theorem oB:∀(a b:List UInt8),Lib.compareBytes a b<0↔Op.bytesLess a b=true
 |[],[]=>by simp[Lib.compareBytes,Op.bytesLess]
 |[],_::_=>by simp[Lib.compareBytes,Op.bytesLess]
 |_::_,[]=>by simp[Lib.compareBytes,Op.bytesLess]
 |x::a,y::b=>by
  have f:=oB a b
  simp only[Lib.compareBytes,Op.bytesLess,abN,abJ,abF,abS]
  by_cases c:x<y
  ·simp[c]
  ·by_cases d:y<x
   ·have:x≠y:=λe=>by subst e;exact abT _ d
    simp[c,d,this]
   ·have:x=y:=ab9 (abO.1 d) (abO.1 c)
    subst this
    simp[c,f]
theorem oA:∀(a b:List UInt8),0<Lib.compareBytes a b↔Op.bytesLess b a=true
 |[],[]=>by simp[Lib.compareBytes,Op.bytesLess]
 |[],_::_=>by simp[Lib.compareBytes,Op.bytesLess]
 |_::_,[]=>by simp[Lib.compareBytes,Op.bytesLess]
 |x::a,y::b=>by
  have f:=oA a b
  simp only[Lib.compareBytes,Op.bytesLess,abN,abJ,abF,abS]
  by_cases c:x<y
  ·have d:¬y<x:=λh=>abT _ (UInt8.lt_trans c h)
   have:¬y=x:=λe=>by subst e;exact abT _ c
   simp[c,d,this]
  ·by_cases d:y<x
   ·simp[c,d]
   ·have:x=y:=ab9 (abO.1 d) (abO.1 c)
    subst this
    simp[c,f]
theorem oz:∀(a b:List UInt8),Lib.compareBytes a b=0↔a=b
 |[],[]=>by simp[Lib.compareBytes]
 |[],_::_=>by simp[Lib.compareBytes]
 |_::_,[]=>by simp[Lib.compareBytes]
 |x::a,y::b=>by
  have f:=oz a b
  simp only[Lib.compareBytes,List.cons.injEq]
  by_cases c:x<y
  ·have:¬x=y:=λe=>by subst e;exact abT _ c
   simp[c,this]
  ·by_cases d:y<x
   ·have:¬x=y:=λe=>by subst e;exact abT _ d
    simp[c,d,this]
   ·have:x=y:=ab9 (abO.1 d) (abO.1 c)
    subst this
    simp[c,f]
theorem ou:∀(a b c:List UInt8),Op.bytesLess a b=true->Op.bytesLess b c=true->Op.bytesLess a c=true
 |_,[],_,h,_=>by simp[Op.bytesLess]at h
 |_,_::_,[],_,h=>by simp[Op.bytesLess]at h
 |[],_::_,_::_,_,_=>by simp[Op.bytesLess]
 |x::a,y::b,z::c,h1,h2=>by
  simp only[Op.bytesLess,abN,abJ,abF,abS]at h1 h2⊢
  rcases h1 with h1|⟨rfl,h1⟩
  ·rcases h2 with h2|⟨rfl,h2⟩
   ·exact .inl (UInt8.lt_trans h1 h2)
   ·exact .inl h1
  ·rcases h2 with h2|⟨rfl,h2⟩
   ·exact .inl h2
   ·exact .inr ⟨rfl,ou a b c h1 h2⟩
theorem hJ{a b:ByteArray}:dW a b=true↔dn a b<0:=by
 unfold dW dn;rw[ByteArray.toList_eq,ByteArray.toList_eq,oB]
theorem ld{a b:ByteArray}:dW b a=true↔0<dn a b:=by
 unfold dW dn;rw[ByteArray.toList_eq,ByteArray.toList_eq,oA]
theorem mx{a b:ByteArray}:dn a b=0↔a=b:=by
 unfold dn
 rw[oz]
 exact⟨λh=>ByteArray.ext (Array.toList_inj.1 h),λh=>by rw[h]⟩
theorem qc(a:ByteArray):dW a a=false:=by
 cases h:dW a a with
 |false=>rfl
 |true=>have:=hJ.1 h;rw[mx.2 rfl]at this;omega
theorem mw{a b c:ByteArray}(d:dW a b=true)(e:dW b c=true):dW a c=true:=by
 unfold dW at *;exact ou _ _ _ d e
theorem DY{a b:ByteArray}(c:dW a b=false)(d:dW b a=false):a=b:=by
 refine mx.1 ?_
 rcases Int.lt_trichotomy (dn a b) 0 with h|h|h
 ·rw[hJ.2 h]at c;cases c
 ·exact h
 ·rw[ld.2 h]at d;cases d
theorem gD:SO dW:=⟨qc,λ_ _ _=>mw,λx y z b a=>by
 cases h:dW x z with
 |false=>rfl
 |true=>
  cases h3:dW y x with
  |true=>rw[mw h3 h]at a;cases a
  |false=>have:=DY b h3;subst this;rw[h]at a;cases a⟩
theorem fQ(a b:ByteArray)(R:aC):Spec prog 150 [.string a,.string b] R [] λv H'=>v=.int .i64 (dn a b)/\H'=[]:=
 Spec.pJ (Eo a b) R
def ed(a b:Int):Int:=if a<b then-1 else if b<a then 1 else 0
def dO:List Int->Int
 |[]=>0
 |x::l=>if x=0 then dO l else x
def ig(x:Int):List Value:=[.int .i64 x]
def cR(s:ByteArray):List Value:=[.string s]
instance E7(s:ByteArray)(l:List ByteArray):Decidable (s∈l):=decidable_of_iff (l.any (λx=>decide (x=s))=true) (by simp)
instance Ff:hS prog 9 (λs:ByteArray=>.string s):=hS.str m9 oO
theorem pN{l:List Int}{i:Nat}(h:∀j x,j<i->l[j]? =some x->x=0):dO l=dO (l.drop i):=by
 induction i generalizing l with
 |zero=>simp
 |succ i ih=>
  cases l with
  |nil=>simp
  |cons x l=>
   have:x=0:=h 0 x (by omega) rfl
   subst this
   simp only[dO,if_true,List.drop_succ_cons]
   exact ih λj x b a=>h (j+1) x (by omega) (by simpa using a)
theorem lX(v:Value)(l:List Int)(R:aC)(h:RS R 1 ig v l):Spec prog 235 [v] R [] λu H'=>u=.int .i64 (dO l)/\H'=[]:=by
 have p:=h.le
 refine Spec.body func235 rfl results235 ntmps235 rfl ?_
 refine .sr<|.ag rfl<|.z<|.ag rfl<|.zs<|.sr<|.mo rfl<|.q (.db h) ?_
 refine .mo rfl<|.zn<|.block ?_
 refine .loop (X:=Nat) (λi=>i<=l.length/\∀j x,j<i->l[j]? =some x->x=0) (λi=>[(3,.int .i64 0),(6,v),(7,.int .i64 l.length),(8,iN i)]) (λ_=>[]) (λi=>l.length-i) 0 ⟨by omega,by omega⟩ kE.c.c.c.c rH ?_
 rintro i ⟨m,g⟩
 refine .sr<|.q .lss<|.zs ?_
 refine .cond rfl (λb=>?_) λb=>?_
 have e:i<l.length:=by simp at b;omega
 obtain⟨z,a⟩:=eh e
 refine .kn<|.seq<|.block<|.sr ?_
 refine .da i h a (λr=>?_)
 refine .lo rfl<|.ag rfl<|.z<|.mo rfl<|.mo rfl<|.q .fo<|.zn ?_
 refine .cond rfl (λd=>?_) λd=>?_
 refine .sr<|.mo rfl<|.az rfl ?_
 refine .ret (bw (bs (cO (bw (bs (cw rfl ?_))))))
 ·refine⟨?_,rfl⟩
  have k:z≠0:=by simpa using d
  rw[pN g,List.drop_eq_getElem_cons e]
  rw[aE e]at a
  cases a
  simp[dO,k]
 refine .skip<|bd<|aF<|.region ?_
 refine .q (.inc (n:=i) (by omega)) ?_
 refine .mo rfl<|.nil ?_
 ·exact aT (i+1) ⟨by omega,λj x o f=>by
   rcases Nat.lt_or_ge j i with hh|hh
   ·exact g j x hh f
   ·obtain rfl:j=i:=by omega
    rw[a]at f;cases f;simpa using d⟩ (by omega) kE.c.c.c.c rH
 refine .exit<|aU<|aY<|aW<|aF<|.sr<|.mo rfl<|.az rfl ?_
 refine .ret (cw rfl ?_)
 ·refine⟨?_,rfl⟩
  have:i=l.length:=by simp at b;omega
  rw[pN g,this];simp[dO]
theorem pb(a:Int)(R:aC):Spec prog 495 [.int .i64 a] R [] λu H'=>u=.bool false/\H'=[]:=by
 refine Spec.body func495 rfl results495 ntmps495 rfl ?_
 refine .sr<|.ag rfl<|.z<|.mo rfl<|.mo rfl<|.q .fo<|.az rfl ?_
 refine .ret (cw rfl ?_)
 ·exact⟨by simp,rfl⟩
theorem rV(a b:Int)(R:aC):Spec prog 494 [.int .i64 a,.int .i64 b] R [] λu H'=>u=.int .i64 (ed a b)/\H'=[]:=by
 refine Spec.body func494 rfl results494 ntmps494 rfl ?_
 refine .sr<|.ag rfl<|.z<|.mo rfl ?_
 refine .br (pb a _) (λv e=>?_)
 subst e
 refine .ag rfl<|.z<|.mo rfl ?_
 refine .br (pb b _) (λv e=>?_)
 subst e
 refine .ag rfl<|.zs<|.sr<|.mo rfl<|.zn<|.bD<|.kn<|.seq<|.sr<|.mo rfl<|.zn<|.bD<|.kn<|.seq<|.sr<|.mo rfl<|.mo rfl<|.q .lss<|.zn ?_
 refine .cond rfl (λc=>?_) λc=>?_
 refine .sr<|.az rfl ?_
 refine .ret (bs (cw rfl ?_))
 ·refine⟨?_,rfl⟩
  simp at c
  try simp at d
  unfold ed
  congr 1
  split
  ·first|rfl|omega
  ·first|rfl|(exfalso;omega)|(split<;>first|rfl|omega)
 refine .kn<|.seq<|.sr<|.mo rfl<|.mo rfl<|.q .gtr<|.zn ?_
 refine .cond rfl (λd=>?_) λd=>?_
 refine .sr<|.az rfl ?_
 refine .ret (bs (cw rfl ?_))
 ·refine⟨?_,rfl⟩
  simp at c
  try simp at d
  unfold ed
  congr 1
  split
  ·first|rfl|omega
  ·first|rfl|(exfalso;omega)|(split<;>first|rfl|omega)
 refine .kn<|.sr<|.az rfl ?_
 refine .ret (cw rfl ?_)
 ·refine⟨?_,rfl⟩
  simp at c
  try simp at d
  unfold ed
  congr 1
  split
  ·first|rfl|omega
  ·first|rfl|(exfalso;omega)|(split<;>first|rfl|omega)
section
variable{κ β:Type} [DecidableEq κ]
def eF(k:κ)(A:List (κ×β)):List (κ×β):=A.filter λp=>decide (p.1≠k)
def kQ(k:κ)(x:β)(A:List (κ×β)):List (κ×β):=eF k A++[(k,x)]
theorem pi{k:κ}{A B:List (κ×β)}(h:A.Perm B):(eF k A).Perm (eF k B):=h.filter _
theorem ph{k:κ}{A:List (κ×β)}(h:k∉A.map (·.1)):eF k A=A:=by
 unfold eF
 rw[abX]
 intro p a
 simp only[abF]
 exact λe=>h (e▸List.mem_map_of_mem a)
theorem kO{k:κ}{x:β}{A:List (κ×β)}(h:k∉A.map (·.1)):eF k ((k,x)::A)=A:=by
 have:=ph h
 unfold eF at *
 rw[abP,abH (by simp)]
 exact this
theorem CC{k:κ}{x:β}{A B:List (κ×β)}(a:((A++(k,x)::B).map (·.1)).Nodup):eF k (A++(k,x)::B)=A++B:=by
 simp only[abY,abK,List.nodup_append,abQ,abR]at a
 obtain⟨_,⟨d,_⟩,e⟩:=a
 have b:eF k A=A:=ph λf=>e k f k (.inl rfl) rfl
 have c:eF k ((k,x)::B)=B:=kO d
 unfold eF at *
 rw[List.filter_append,b,c]
theorem lS{k:κ}:∀{M:List (κ×β)},(M.map (·.1)).Nodup->eG k M=eF k M
 |[],_=>rfl
 |(k',y)::r,hn=>by
  simp only[abK,abQ]at hn
  simp only[eG]
  split
  ·rename_i a;subst a;exact(kO hn.1).symm
  ·rename_i a
   rw[lS hn.2]
   simp[eF,Ne.symm a]
end
structure XE where
 b:Nat
 key:ByteArray
 at_:Int
def XE.cells(e:XE)(i:Nat):List Value:=[.string e.key,.int .i64 e.at_,.int .i64 i]
def XE.obj(e:XE)(i:Nat):Obj:=.cells (e.cells i).toArray 372 (0,0)
abbrev XE.ptr(e:XE):Value:=.pointer (some ⟨e.b,0,none⟩)
def gU(e:XE):List Value:=[e.ptr]
def eS(L:List XE):ax:=L.zipIdx.map λp=>(p.1.b,p.1.obj p.2)
def m2(e f:XE):Int:=dO [ed e.at_ f.at_,dn e.key f.key]
def gy(e f:XE):Bool:=decide (m2 e f<0)
theorem lK(L:List XE)(j:Nat):(eS L)[j]? =L[j]?.map λe=>(e.b,e.obj j):=by
 simp[eS,List.getElem?_zipIdx]
 cases L[j]? <;>rfl
theorem oK(L:List XE):(eS L).length=L.length:=by simp[eS]
theorem kC{L:List XE}{i:Nat}{e:XE}(h:L[i]? =some e):(e.b,e.obj i)∈eS L:=by
 refine aG (i:=i) ?_
 rw[lK,h];rfl
theorem sn(L:List XE):(eS L).map (·.1)=L.map (·.b):=by
 apply List.ext_getElem?
 intro j
 rw[List.getElem?_map,lK,List.getElem?_map]
 cases L[j]? <;>rfl
def TI(q:Nat)(vm:Value)(L:List XE)(T:ax):Prop:=∃vt Tt Te,T=(q,.cells [vt,vm].toArray 378 (0,0))::(Tt++Te)/\OS 373 1 gU vt L Tt/\Te.Perm (eS L)/\L.length<=1000000000
theorem sh(e f:XE)(i k:Nat)(R:aC)(c:R e.b (e.obj i))(d:R f.b (f.obj k)):Spec prog 490 [e.ptr,f.ptr] R [] λv H'=>v=.int .i64 (m2 e f)/\H'=[]:=by
 have h:PC R (.pointer (some ⟨e.b,0,none⟩)) (e.cells i):=PC.of c
 have j:PC R (.pointer (some ⟨f.b,0,none⟩)) (f.cells k):=PC.of d
 refine Spec.body func490 rfl results490 ntmps490 rfl ?_
 refine .sr<|.ag rfl<|.zs<|.bK [] mixed ?_
 refine .tO 0 rfl .move<|.tO 1 rfl (.nilCheck rfl)<|.tO 2 rfl (.fieldAddr rfl)<|.tO 3 rfl (.bN rfl)<|.tO 4 rfl .move<|.tO 5 rfl (.nilCheck rfl)<|.tO 6 rfl (.fieldAddr rfl)<|.tO 7 rfl (.bN rfl)<|.tO 9 rfl .move<|.tO 10 rfl (.nilCheck rfl)<|.tO 11 rfl (.fieldAddr rfl)<|.tO 12 rfl (.bN rfl)<|.tO 13 rfl .move<|.tO 14 rfl (.nilCheck rfl)<|.tO 15 rfl (.fieldAddr rfl)<|.tO 16 rfl (.bN rfl) ?_
 refine .sT 8 rfl ?_
 refine .br (rV e.at_ f.at_ _) (λv a=>?_)
 subst a
 refine .nil (Next.sub ?_)
 refine .sT 17 rfl ?_
 refine .br (fQ e.key f.key _) (λv a=>?_)
 subst a
 refine .nil (Next.sub ?_)
 refine .sT 18 rfl ?_
 refine .jn [_,_] (λg=>?_)
 refine .nil (Next.sub ?_)
 refine .sT 19 rfl ?_
 refine .br (lX _ [ed e.at_ f.at_,dn e.key f.key] _ (RS.lits rfl (by simp[ig]) (by simp[ig,aB]))) (λv a=>?_)
 subst a
 refine .nil (Next.sub ?_)
 refine .tO 20 rfl .assign ?_
 refine RA.nil (by kernel_rfl) ?_
 refine aF ?_
 refine .ret (cw rfl ?_)
 ·exact⟨rfl,rfl⟩
theorem Ez(a:Value)(L:List XE)(R:aC)(h:RS R 1 gU a L):Spec prog 491 [a] R [] λv H'=>v=.int .i64 L.length/\H'=[]:=by
 refine Spec.body func491 rfl results491 ntmps491 rfl ?_
 refine .sr<|.ag rfl<|.z<|.mo rfl<|.q (.db h) ?_
 refine .az rfl ?_
 refine .ret (cw rfl ?_)
 ·exact⟨rfl,rfl⟩
theorem EA(a:Value)(L:List XE)(R:aC)(h:RS R 1 gU a L)(i k:Nat)(e f:XE)(c:L[i]? =some e)(d:L[k]? =some f)(g:R e.b (e.obj i))(j:R f.b (f.obj k)):
  Spec prog 492 [a,.int .i64 i,.int .i64 k] R [] λv H'=>v=.bool (gy e f)/\H'=[]:=by
 refine Spec.body func492 rfl results492 ntmps492 rfl ?_
 refine .sr<|.ag rfl<|.zs ?_
 refine .bQ 8 mixed (by kernel_rfl) ?_
 conv=>arg 6;dsimp only[List.take]
 refine .mo rfl<|.mo rfl ?_
 refine .da i h c (λm=>?_)
 refine .lo rfl<|.mo rfl<|.mo rfl ?_
 refine .da k h d (λn=>?_)
 refine .lo rfl<|.nil ?_
 refine .br (sh e f i k _ (.inl g) (.inl j)) (λv l=>?_)
 subst l
 refine .q .lss<|.az rfl ?_
 refine .ret (cw rfl ?_)
 ·exact⟨rfl,rfl⟩
theorem kD{L:List XE}(f:(L.map (·.b)).Nodup){i k:Nat}{x y:XE}(g:L[i]? =some x)(h:L[k]? =some y)(a:x.b=y.b):i=k:=by
 obtain⟨c,rfl⟩:=abZ.1 g
 obtain⟨d,rfl⟩:=abZ.1 h
 exact(List.getElem_inj (xs:=L.map λe:XE=>e.b) (i:=i) (j:=k) (h₀:=by simpa using c) (h₁:=by simpa using d) f).1 (by simpa using a)
theorem sq{L:List XE}{n:ax}(q:n.Perm (eS L))(m:(L.map (·.b)).Nodup){i k:Nat}{x y:XE}(c:L[i]? =some x)(a:L[k]? =some y):
  (eA (eA n y.b (y.obj i)) x.b (x.obj k)).Perm (eS (bi L i k)):=by
 have g:=(abZ.1 c).1
 have l:=(abZ.1 a).1
 refine(qM (qM q)).trans ?_
 have r:(bi L i k)[k]? =some x:=by rw[cX g l,abI rfl,c]
 have s:(bi L i k)[i]? =some y:=by
  rw[cX g l]
  split
  ·rename_i e;subst e;rw[c]at a;cases a;exact c
  ·rw[abI rfl,a]
 have t:eA (eA (eS L) y.b (y.obj i)) x.b (x.obj k)=bi (eS (bi L i k)) i k:=by
  apply List.ext_getElem?
  intro j
  rw[qK,qK,lK,cX (by rw[oK,ez];exact g) (by rw[oK,ez];exact l)]
  simp only[lK]
  by_cases d:j=k
  ·subst d
   rw[abI rfl,s,a]
   simp only[Option.map_some,if_true,Option.some.injEq]
   split
   ·rename_i e
    have:=kD m a c e
    subst this
    rw[c]at a;cases a;rfl
   ·rfl
  ·rw[abH d]
   by_cases f:j=i
   ·subst f
    rw[abI rfl,r,c]
    have:x.b≠y.b:=λe=>d (kD m c a e)
    simp[this]
   ·rw[abH f,cX g l,abH d,abH f]
    cases he:L[j]? with
    |none=>rfl
    |some e=>
     have o:e.b≠y.b:=λh=>d (kD m he a h)
     have p:e.b≠x.b:=λh=>f (kD m he c h)
     simp[o,p]
 rw[t]
 exact mB
theorem EG(n:Value)(L:List XE)(o f:ax)(R:aC)(h:OS 373 1 gU n L o)(g:f.Perm (eS L))(i k:Nat)(j:i<L.length)(l:k<L.length):
  Spec prog 493 [n,.int .i64 i,.int .i64 k] R [o,f] λv H'=>∃Tt' Te',H'=[Tt',Te']/\OS 373 1 gU n (bi L i k) Tt'/\Te'.Perm (eS (bi L i k)):=by
 refine Spec.nodup λs=>?_
 have r:(L.map (·.b)).Nodup:=by
  rw[<-sn, <-(g.map (·.1)).nodup_iff]
  simp only[ab0,ab1,abU,abY,List.nodup_append]at s
  exact s.2.1
 obtain⟨x,c⟩:=eh j
 obtain⟨y,a⟩:=eh l
 obtain⟨_,A⟩:∃u,(L.set k x)[i]? =some u:=⟨_,aE (by simpa using j)⟩
 obtain⟨_,C⟩:∃u,(L.set i y)[k]? =some u:=⟨_,aE (by simpa using l)⟩
 have F:=h.aB
 refine Spec.body func493 rfl results493 ntmps493 rfl ?_
 refine .seq<|.bK [13,15] mixed ?_
 refine .tO 0 rfl .move<|.tO 1 rfl .move<|.tK 2 rfl .move<|.tK 3 rfl .move<|.tO 4 rfl .move<|.tO 5 rfl .move ?_
 refine RA.au 6 rfl k h a rfl rfl rfl (by kernel_rfl) (λG=>?_)
 refine .tO 7 rfl (.bN rfl)<|.tO 8 rfl .move<|.tO 9 rfl .move ?_
 refine RA.au 10 rfl i h c rfl rfl rfl (by kernel_rfl) (λH=>?_)
 refine .tO 11 rfl (.bN rfl) ?_
 refine RA.au 12 rfl i h c rfl rfl rfl (by kernel_rfl) (λI=>?_)
 refine .sT 13 rfl ?_
 first
  |refine aH.mA i d A y (λp q=>?_)
  |refine aH.mA i h c y (λw q=>?_)
 refine .nil (Next.mod rfl ?_)
 refine RA.au 14 rfl k h a rfl rfl rfl (by kernel_rfl) (λJ=>?_)
 refine .sT 15 rfl ?_
 first
  |refine aH.mA k q C x (λp d=>?_)
  |refine aH.mA k h a x (λw d=>?_)
 refine .nil (Next.mod rfl ?_)
 refine RA.nil (by kernel_rfl) ?_
 have B:(bi L i k)[k]? =some x:=by rw[cX j l,abI rfl,c]
 have D:(bi L i k)[i]? =some y:=by
  rw[cX j l]
  split
  ·rename_i e;subst e;rw[c]at a;cases a;exact c
  ·rw[abI rfl,a]
 rw[<-bR c a]at d
 have m:=g.mem_iff.2 (kC c)
 have t:=g.mem_iff.2 (kC a)
 have N:PS f (.pointer (some ⟨x.b,0,none⟩)) (x.cells i):=PS.of m
 have O:PS f (.pointer (some ⟨y.b,0,none⟩)) (y.cells k):=PS.of t
 refine aF<|.bK [12,15] mixed ?_
 refine .tO 0 rfl .move<|.tO 1 rfl .move ?_
 refine RA.au 2 rfl i d D rfl rfl rfl (by kernel_rfl) (λK=>?_)
 refine .tO 3 rfl (.bN rfl)<|.tO 4 rfl .move<|.tO 5 rfl .move ?_
 refine RA.au 6 rfl k d B rfl rfl rfl (by kernel_rfl) (λM=>?_)
 refine .tO 7 rfl (.bN rfl)<|.tO 8 rfl .move<|.tK 9 rfl .move<|.tO 10 rfl (.nilCheck rfl)<|.tO 11 rfl (.fieldAddr rfl) ?_
 refine .sT 12 rfl ?_
 refine .qv (vs:=y.cells k) (off:=2) t ?_
 rw[show Obj.cells (cx (y.cells k) 2 [iN i]).toArray 372 (0,0)=y.obj i from rfl]
 refine .nil (Next.mod rfl ?_)
 refine .tK 13 rfl (.nt rfl) ?_
 refine .tK 14 rfl (.dB rfl) ?_
 refine .sT 15 rfl ?_
 have E:(x.b,x.obj i)∈eA f y.b (y.obj i):=by
  by_cases e:x.b=y.b
  ·have z:=kD r c a e
   subst z
   rw[c]at a;cases a
   exact EK m
  ·exact EI m e
 refine .qv (vs:=x.cells i) (off:=2) E ?_
 rw[show Obj.cells (cx (x.cells i) 2 [iN k]).toArray 372 (0,0)=x.obj k from rfl]
 refine .nil (Next.mod rfl ?_)
 refine RA.nil (by kernel_rfl) ?_
 refine cF _ .none rH ?_
 ·exact⟨p,_,rfl,d,sq g r c a⟩
theorem kA{e f:XE}:gy e f=true↔e.at_<f.at_\/e.at_=f.at_/\dW e.key f.key=true:=by
 unfold gy m2
 rw[abF,hJ]
 unfold ed
 simp only[dO]
 by_cases a:e.at_<f.at_
 ·simp[a]
 ·by_cases b:f.at_<e.at_
  ·have:¬e.at_=f.at_:=by omega
   simp[a,b,this]
  ·have:e.at_=f.at_:=by omega
   simp only[this,if_true,Int.lt_irrefl,if_false,false_or,true_and]
   split
   ·rename_i h;rw[h]
   ·rfl
theorem m4:SO gy:=by
 have f:∀x y z,gy x y=true->gy y z=true->gy x z=true:=λx y z h1 h2=>by
  rw[kA]at *
  rcases h1 with h1|⟨h1,a⟩<;>rcases h2 with h2|⟨h2,d⟩
  ·exact .inl (by omega)
  ·exact .inl (by omega)
  ·exact .inl (by omega)
  ·exact .inr ⟨by omega,mw a d⟩
 have e:∀x,gy x x=false:=λx=>by
  rw[abV];intro h
  rw[kA,qc]at h
  rcases h with h|⟨_,h⟩
  ·omega
  ·cases h
 refine⟨e,f,λx y z h1 h2=>?_⟩
 rw[abV]at *
 rw[ne_eq,kA]at *
 rintro(h|⟨h,a⟩)
 ·simp only[not_or]at h1 h2;omega
 ·simp only[not_or,not_and]at h1 h2
  have b:x.at_=y.at_:=by omega
  have c:y.at_=z.at_:=by omega
  have:=gD.dN x.key y.key z.key (by simpa using h1.2 b) (by simpa using h2.2 c)
  rw[this]at a;cases a
def TJ(q:Nat)(vm:Value)(x:XE)(L:List XE)(T:ax):Prop:=∃T1 i,T.Perm (T1++[(x.b,x.obj i)])/\TI q vm L T1
theorem ED(q:Nat)(vm:Value)(L:List XE)(x:XE)(T:ax)(h:TI q vm (L++[x]) T)(R:aC):
  Spec prog 496 [pT q] R [T] λv H'=>∃T',H'=[T']/\v=.iface 373 x.ptr/\TJ q vm x L T':=by
 obtain⟨j,c,g,rfl,a,d,i⟩:=h
 simp only[List.length_append,List.length_singleton]at i
 refine Spec.ej (H':=[bl q [j,vm] 378,c,g]) (by simp) ?_
 have k:=a.aB
 refine Spec.body func496 rfl results496 ntmps496 rfl ?_
 refine .sr<|.ag rfl<|.z<|.mo rfl<|.nc rfl<|.lo rfl<|.ag rfl<|.z<|.mo rfl<|.mo rfl<|.q (.hB a) ?_
 refine .q (.i64 ((L.length:Nat):Int) .sub ⟨by simp,by omega,by omega⟩) ?_
 refine .au L.length a (z:=x) (by simp) (λm=>?_)
 refine .lo rfl<|.ag rfl<|.z<|.mo rfl<|.mo rfl<|.mo rfl<|.q (.hB a) ?_
 refine .q (.i64 ((L.length:Nat):Int) .sub ⟨by simp,by omega,by omega⟩) ?_
 refine .li 0 L.length a rfl ⟨_,rfl⟩ (by omega) (by simp) (λf e=>?_)
 have l:=e.aB
 refine .nc rfl<|.cv rfl rfl<|.z<|.mo rfl<|.q .makeInterface<|.az rfl ?_
 refine .ret (ba _ (.one (.tmp rfl)) (.one [0,0,0] _) ?_)
 ·refine⟨_,rfl,rfl,(q,.cells [f,vm].toArray 378 (0,0))::(c++eS L),L.length,?_,f,c,eS L,rfl,by simpa using e,.refl _,by omega⟩
  have:eS (L++[x])=eS L++[(x.b,x.obj L.length)]:=by simp[eS,List.zipIdx_append]
  rw[this]at d
  simp only[take,bF,ab2,ab0,ab1,abU,List.cons_append,List.nil_append,ab3]
  exact(d.append_left c).cons _
theorem lR:∀w,(typeInfo 380).run prog w=.ok t380 w:=typeInfo380
theorem EE(q:Nat)(vm:Value)(R:aC):mK prog R 380 (pT q) gy (TI q vm) where
 bT L T h:=by obtain⟨a,c,b,rfl,e,d,g⟩:=h;exact g
 len L T h:=by
  obtain⟨a,c,b,rfl,e,d,g⟩:=h
  have l:RS (Rx R [(q,.cells [a,vm].toArray 378 (0,0))::(c++b)]) 1 gU a L:=e.rs λp j=>.inr (by simp[j])
  refine(eZ.eU (r:=a) (f:=491) (fC.val lR (by kernel_rfl) inferInstance (by kernel_rfl) inferInstance (PC.of (vs:=[a,vm]) (E:=378) (fr:=(0,0)) (.inr (by simp)))) (Ez a L _ l)).mono λu s m=>?_
  obtain⟨rfl,rfl⟩:=m
  exact⟨rfl,a,c,b,rfl,e,d,g⟩
 less L T i k x y h hx hy:=by
  obtain⟨a,c,b,rfl,e,d,g⟩:=h
  have l:RS (Rx R [(q,.cells [a,vm].toArray 378 (0,0))::(c++b)]) 1 gU a L:=e.rs λp j=>.inr (by simp[j])
  have A:=d.mem_iff.2 (kC hx)
  have B:=d.mem_iff.2 (kC hy)
  refine(eZ.eU (r:=a) (f:=492) (fC.val lR (by kernel_rfl) inferInstance (by kernel_rfl) inferInstance (PC.of (vs:=[a,vm]) (E:=378) (fr:=(0,0)) (.inr (by simp)))) (EA a L _ l i k x y hx hy (.inr (by simp[A])) (.inr (by simp[B])))).mono λu s m=>?_
  obtain⟨rfl,rfl⟩:=m
  exact⟨rfl,a,c,b,rfl,e,d,g⟩
 swap L T i k h hi hk:=by
  obtain⟨a,c,b,rfl,e,d,g⟩:=h
  refine⟨493,a,fC.val lR (by kernel_rfl) inferInstance (by kernel_rfl) inferInstance (PC.of (vs:=[a,vm]) (E:=378) (fr:=(0,0)) (.inr (by simp))),inferInstance,?_⟩
  refine Spec.ej (H':=[bl q [a,vm] 378,c,b]) (by simp) ?_
  refine Spec.flat ((Spec.kS [1,1] (EG a L c b _ e d i k hi hk)).mono λv H' z=>?_)
  obtain⟨C,rfl,o,n,rfl,w,t⟩:=z
  refine⟨_,(q,.cells [a,vm].toArray 378 (0,0))::(o++n),rfl,?_,_,rfl,a,o,n,rfl,w,t,by rw[ez];exact g⟩
  simp only[rest,bF,List.flatten_append,ab0,ab1,abU]
  exact abW
theorem EF(q:Nat)(vm:Value)(L:List XE)(x:XE)(T:ax)(h:TI q vm (L++[x]) T)(R:aC):eZ Tryz.prog 380 (.pointer (some ⟨q,0,none⟩)) "Pop" [] R T fun v T'=>v=.iface 373 x.ptr∧TJ q vm x L T':=
 ⟨496,_,fC.ptr lR (by kernel_rfl) inferInstance (by kernel_rfl),inferInstance,ED q vm L x T h R⟩
abbrev Ds(b:Nat):Value:=pT b
def XE.kb(e:XE):ByteArray×Nat:=(e.key,e.b)
def XE.ka(e:XE):ByteArray×Int:=(e.key,e.at_)
def QI(q:Nat)(A:List (ByteArray×Int))(T:ax):Prop:=∃L vm M T1 Tm,T=T1++Tm/\TI q vm L T1/\MS (λs:ByteArray=>.string s) Ds vm M Tm/\
 M.Perm (L.map XE.kb)/\eo gy L L.length/\(L.map XE.ka).Perm A
theorem QI.len{q:Nat}{A:List (ByteArray×Int)}{T:ax}(h:QI q A T):A.length<=1000000000:=by
 obtain⟨L,k,M,b,d,rfl,⟨l,e,c,_,_,_,i⟩,f,j,g,a⟩:=h
 have:=a.length_eq
 simp at this;omega
theorem QI.perm{q:Nat}{A B:List (ByteArray×Int)}{T:ax}(h:QI q A T)(j:A.Perm B):QI q B T:=by
 obtain⟨L,k,M,a,b,c,d,e,f,g,i⟩:=h
 exact⟨L,k,M,a,b,c,d,e,f,g,i.trans j⟩
theorem pW(R:aC):Spec prog 262 [] R [] λv H'=>∃T,H'=[T]/\∃q,v=pT q/\QI q [] T:=by
 refine Spec.body func262 rfl results262 ntmps262 rfl ?_
 refine .sr<|.ag rfl<|.z ?_
 refine .makeMap (λa=>?_)
 refine .q .dA ?_
 refine .cK rfl (λb=>?_)
 refine .az rfl ?_
 refine .ret (ba _ (.one (.tmp rfl)) (.one [0,0] _) ?_)
 ·exact⟨_,rfl,_,rfl,[],_,[],bl b [sZ,.map (some a)] 378,_,rfl,⟨_,[],[],rfl,OS.nil,.refl _,by simp⟩,MS.nil,.refl _,λk d c=>by simp at c,.refl _⟩
theorem Dx(q:Nat)(a:Value)(b:Nat)(R:aC) [pc:PC R (pT q) [a,.map (some b)]]:
  Spec prog 366 [pT q] R [] λv H'=>v=.bool true/\H'=[]:=by
 refine Spec.body func366 rfl results366 ntmps366 rfl ?_
 refine .sr<|.ag rfl<|.z<|.mo rfl<|.q (.iy rfl rfl) ?_
 refine .mo rfl<|.gt rfl ?_
 refine .mo rfl<|.gt rfl ?_
 refine .nc rfl<|.gt rfl ?_
 refine .fa rfl<|.gt rfl ?_
 refine .lo rfl<|.gt rfl ?_
 refine .q (.lU rfl rfl) ?_
 refine .q .fV<|.az rfl ?_
 refine .ret (cw rfl ?_)
 ·exact⟨rfl,rfl⟩
theorem Dw(q:Nat)(A:List (ByteArray×Int))(T:ax)(h:QI q A T)(R:aC)(f:∀p∈T,R p.1 p.2):
  Spec prog 263 [pT q] R [] λv H'=>v=.int .i64 A.length/\H'=[]:=by
 obtain⟨L,l,M,m,o,rfl,⟨a,r,n,rfl,d,s,u⟩,i,e,t,g⟩:=h
 obtain⟨c,rfl⟩:∃b,l=.map (some b):=by obtain⟨b,es,clock,h1,_⟩:=i;exact⟨b,h1⟩
 have x:PC R (pT q) [a,.map (some c)]:=PC.of (E:=378) (fr:=(0,0)) (f (q,.cells [a,.map (some c)].toArray 378 (0,0)) (by simp))
 have j:RS R 1 gU a L:=d.rs λp e=>f p (by simp[e])
 have w:=d.aB
 refine Spec.body func263 rfl results263 ntmps263 rfl ?_
 refine .sr<|.ag rfl<|.zs<|.sr<|.mo rfl ?_
 refine .br (Dx q a c _) (λv k=>?_)
 subst k
 refine .q .not<|.zn<|.bD<|.kn<|.sr<|.mo rfl<|.nc rfl<|.fa rfl<|.lo rfl<|.q (.db j) ?_
 refine .az rfl ?_
 refine .ret (cw rfl ?_)
 ·exact⟨by rw[<-g.length_eq];simp,rfl⟩
set_option maxRecDepth 4000
theorem TI.ps{q:Nat}{vm:Value}{L:List XE}{T:ax}(h:TI q vm L T):∃vt,One vt/\PS T (pT q) [vt,vm]:=by
 obtain⟨vt,c,b,rfl,a,d,e⟩:=h
 exact⟨vt,a.aB,PS.of (E:=378) (fr:=(0,0)) (by simp)⟩
theorem TI.mem{q:Nat}{vm:Value}{L:List XE}{T:ax}(h:TI q vm L T){i:Nat}{e:XE}(c:L[i]? =some e):(e.b,e.obj i)∈T:=by
 obtain⟨k,f,d,rfl,g,a,j⟩:=h
 have:=a.mem_iff.2 (kC c)
 simp[this]
theorem DG{L a:List XE}{x:XE}{M:List (ByteArray×Nat)}{A:List (ByteArray×Int)}(f:(M.map (·.1)).Nodup)(i:M.Perm (L.map XE.kb))(h:(L.map XE.ka).Perm A)(e:L.Perm (x::a)):
  (eG x.key M).Perm (a.map XE.kb)/\(a.map XE.ka).Perm (eF x.key A):=by
 have d:M.Perm ((x.key,x.b)::a.map XE.kb):=i.trans (e.map _)
 have g:A.Perm ((x.key,x.at_)::a.map XE.ka):=h.symm.trans (e.map _)
 have c:=(d.map (·.1)).nodup_iff.1 f
 simp only[abK,abQ]at c
 have j:x.key∉(a.map XE.ka).map (·.1):=by rw[ab4]at c⊢;exact c.1
 refine⟨?_,?_⟩
 ·rw[lS f]
  have:=pi (k:=x.key) d
  rwa [kO c.1]at this
 ·have:=pi (k:=x.key) g
  rw[kO j]at this
  exact this.symm
def kN(p r:ByteArray×Int):Bool:=decide (p.2<r.2)||decide (p.2=r.2)&&dW p.1 r.1
theorem sj{e f:XE}:gy e f=kN e.ka f.ka:=by
 rw[show kN e.ka f.ka=(decide (e.at_<f.at_)||decide (e.at_=f.at_)&&dW e.key f.key)from rfl,abL,kA]
 simp only[abN,abJ,abF]
theorem TI.read{q:Nat}{vm:Value}{L:List XE}{T:ax}(h:TI q vm L T):∃vt,One vt/\PS T (pT q) [vt,vm]/\RS (sg T) 1 gU vt L/\∀(i:Nat) (e:XE),L[i]? =some e->PS T (.pointer (some ⟨e.b,0,none⟩)) (e.cells i):=by
 have d:=λ(i:Nat) (e:XE) (a:L[i]? =some e)=>h.mem a
 obtain⟨vt,j,g,rfl,c,k,l⟩:=h
 exact⟨vt,c.aB,PS.of (E:=378) (fr:=(0,0)) (by simp),c.rs λp f=>by simp[sg,f],λi e a=>PS.of (d i e a)⟩
structure lv(A:List (ByteArray×Int))(now:Int)(B A':List (ByteArray×Int)):Prop where
 pm:A.Perm (B++A')
 ord:B.Pairwise λp r=>kN r p=false
 le:∀p∈B,p.2<=now
 front:∀p∈B,∀r∈A',kN r p=false
theorem lv.filter{A B a:List (ByteArray×Int)}{now:Int}(h:lv A now B a)(f:∀p∈a,now<p.2):a.Perm (A.filter λp=>decide (now<p.2)):=by
 have b:=h.pm.filter (λp=>decide (now<p.2))
 rw[List.filter_append]at b
 have d:B.filter (λp=>decide (now<p.2))=[]:=by
  rw[List.filter_eq_nil_iff]
  intro p c
  have:=h.le p c
  simp;omega
 have e:a.filter (λp=>decide (now<p.2))=a:=by
  rw[abX]
  intro p c
  simpa using f p c
 rw[d,e]at b
 exact b.symm
theorem pV(q:Nat)(A:List (ByteArray×Int))(T:ax)(h:QI q A T)(now:Int)(R:aC):
  Spec prog 171 [pT q,.int .i64 now] R [T] λv H'=>∃T' To B A',H'=[T',To]/\OS 9 1 cR v (B.map (·.1)) To/\QI q A' T'/\lv A now B A'/\∀p∈A',now<p.2:=by
 refine Spec.ej (H':=[T,[]]) (by simp) ?_
 refine Spec.body func171 rfl results171 ntmps171 rfl ?_
 refine .sr<|.ag rfl<|.z<|.ag rfl<|.zs<|.block ?_
 refine .loop (X:=List (ByteArray×Int)×List (ByteArray×Int)×Value×ax×ax) (λy=>QI q y.1 y.2.2.2.1/\OS 9 1 cR y.2.2.1 (y.2.1.map (·.1)) y.2.2.2.2/\lv A now y.2.1 y.1) (λy=>[(0,pT q),(1,.int .i64 now),(5,y.2.2.1)]) (λy=>[y.2.2.2.1,y.2.2.2.2]) (λy=>y.1.length) (A,[],sZ,T,[]) ⟨h,OS.nil,⟨.refl _,by simp,by simp,by simp⟩⟩ kE.c.c.c rH ?_
 rintro⟨g,B,v,Q,To⟩ ⟨u,o,i⟩
 simp only at u o i⊢
 have F:=u
 have b6:=u.len
 have a4:=i.pm.length_eq
 have b4:=h.len
 obtain⟨L,O,M,j,m,Y,W,V,hp,I,n⟩:=u
 obtain⟨vt,i1,ps,hs,pe⟩:=W.read
 have i2:=o.aB
 have b5:g.length=L.length:=by simpa using n.length_eq.symm
 have b2:bJ [Q,To] [j,m,To]:=bJ.cY (by rw[Y];simp)
 refine .seq<|.sr<|.mo rfl ?_
 refine .br (Dw q g _ F _ (λp hp=>.inr (by simp[hp]))) (λv N=>?_)
 subst N
 refine .q .gtr<|.mo rfl ?_
 refine .split (t:=10) rfl (λd=>?_) (λd=>?_)
 obtain⟨e,l⟩:∃e,L[0]? =some e:=⟨_,aE (by simp at d;omega)⟩
 have b8:=pe 0 e l
 have px:PS j (eD vt (0*1)) (gU e):=⟨hs.pc l⟩
 refine .sub b2 ?_
 refine .gT d<|.mo rfl<|.gT d<|.nc rfl<|.gT d<|.fa rfl<|.gT d<|.lo rfl<|.gT d<|.q (.da 0 hs l rfl rfl rfl) ?_
 refine .gT d<|.lo rfl<|.gT d ?_
 refine .nc rfl<|.gT d<|.fa rfl<|.gT d<|.lo rfl<|.gT d<|.mo rfl<|.gT d<|.q .leq<|.q (.cb d) ?_
 refine .zn ?_
 refine .cond rfl (λD=>?_) λD=>?_
 refine .kn<|.block<|.sr<|.mo rfl<|.nc rfl<|.fa rfl<|.q .makeInterface ?_
 refine .aR (Dp (EE q O _) m4 L j W e l I (λx=>.iface 373 x.ptr) (TJ q O e) (λL' T' h' _=>EF q _ L' e T' h' _)) (λv j N=>?_)
 obtain⟨rfl,L2,⟨s,C,b0,Z⟩,a1,a7⟩:=N
 obtain⟨c1,b7,c0⟩:=Z.ps
 have b9:PS [(e.b,e.obj C)] (.pointer (some ⟨e.b,0,none⟩)) (e.cells C):=PS.of (E:=372) (fr:=(0,0)) (by simp[XE.obj])
 refine .sub (H':=[s,m,To,[(e.b,e.obj C)]]) (bJ.cY (by
  simp only[ab0,ab1,abU]
  refine(b0.append_right _).trans ?_
  simpa[ab3]using(abW (l₁:=[(e.b,e.obj C)]) (l₂:=m++To)).append_left s)) ?_
 refine .q (.q9) ?_
 refine .ag rfl<|.zs ?_
 refine .bQ 8 mixed (by kernel_rfl) ?_
 conv=>arg 6;dsimp only[List.take]
 refine .mo rfl<|.nc rfl<|.fa rfl<|.lo rfl<|.mo rfl ?_
 refine .nc rfl<|.fa rfl<|.lo rfl<|.nil ?_
 obtain⟨g1,U⟩:=DG V.nd hp n a1
 refine .delete V rfl (show _=some (Value.string e.key)from rfl) (λS a5 _=>?_)
 refine .zn<|.region<|.mo rfl<|.mo rfl<|.nc rfl<|.fa rfl<|.lo rfl ?_
 refine .jm (λb3=>?_)
 refine .append o (RS.lits (xs:=[e.key]) rfl (by simp[cR]) (by simp[cR,aB])) (by simp at a4⊢;omega) (λv3 a3 a6=>?_)
 refine .ag rfl<|.nil<|bd ?_
 ·have a0:e.at_<=now:=by simpa using D
  have a9:∀r∈g,kN r e.ka=false:=λr b1=>by
   obtain⟨f,G,rfl⟩:=abG.1 (n.mem_iff.2 b1)
   obtain⟨k,J,H⟩:=List.mem_iff_getElem.1 G
   rw[<-sj]
   exact I.least m4 l k f (by rw[aE J,H])
  have K:g.Perm (e.ka::eF e.key g):=n.symm.trans ((a1.map _).trans (U.cons _))
  have a8:e.ka∈g:=K.mem_iff.2 (by simp)
  refine aT (eF e.key g,B++[e.ka],v3,s++S,a3) ⟨⟨L2,O,_,s,S,rfl,Z,a5,g1,a7,U⟩,by rw[abY];exact a6,⟨?_,?_,?_,?_⟩⟩ ?_ kE.c.c.c ?_
  ·refine i.pm.trans ?_
   simp only[ab3]
   exact K.append_left B
  ·rw[List.pairwise_append]
   exact⟨i.ord,by simp,λp hp r w=>by simp at w;subst w;exact i.front p hp _ a8⟩
  ·intro p hp
   rcases ab5.1 hp with hp|hp
   ·exact i.le p hp
   ·simp at hp;subst hp;exact a0
  ·intro p hp r w
   have a2:r∈g:=(abM.1 w).1
   rcases ab5.1 hp with hp|hp
   ·exact i.front p hp r a2
   ·simp at hp;subst hp;exact a9 r a2
  ·have:=K.length_eq
   simp at this⊢;omega
  ·exact(cu [1,1,1]).trans (bJ.cY (by simp[take,bF]))
 refine .exit<|aU<|aY<|aW<|aF<|.sr<|.mo rfl<|.az rfl ?_
 refine .ret (ba _ (.one (.tmp rfl)) (bJ.cY (H':=[j++m,To]) (by simp)) ?_)
 ·refine⟨j++m,To,B,g,rfl,o,Y▸F,i,λp hp=>?_⟩
  have a0:now<e.at_:=by simpa using D
  obtain⟨f,G,rfl⟩:=abG.1 (n.mem_iff.2 hp)
  obtain⟨k,J,H⟩:=List.mem_iff_getElem.1 G
  have h3:=I.least m4 l k f (by rw[aE J,H])
  rw[abV,ne_eq,kA]at h3
  have h4:e.at_<=f.at_:=by omega
  show now<f.at_
  omega
 refine .gF d<|.gF d<|.gF d<|.gF d<|.gF d<|.gF d<|.gF d<|.gF d<|.gF d<|.gF d<|.gF d<|.q (.bW d) ?_
 refine .zn<|.bD<|.exit<|aU<|aY<|aW<|aF<|.sr<|.mo rfl<|.az rfl ?_
 refine .ret (ba _ (.one (.tmp rfl)) rH ?_)
 ·have hz:g=[]:=by
   rcases g with _|⟨a,r⟩
   ·rfl
   ·simp at d
  exact⟨Q,To,B,g,rfl,o,F,i,by rw[hz];simp⟩
def short(s:ByteArray)(n:Nat):ByteArray:=if n<s.size then s.extract 0 n else s
theorem eN{s:ByteArray}{n:Nat}:(short s n).size<=n:=by
 unfold short
 split
 ·rw[ByteArray.size_extract];omega
 ·omega
theorem fj(s:ByteArray)(n:Nat)(R:aC):Spec prog 52 [.string s,.int .i64 n] R [] λv H'=>v=.string (short s n)/\H'=[]:=by
 refine Spec.body func52 rfl results52 ntmps52 rfl ?_
 refine .sr<|.ag rfl<|.zs<|.sr<|.mo rfl<|.q .CG<|.mo rfl<|.q .gtr<|.zn ?_
 refine .cond rfl (λa=>?_) λa=>?_
 refine .sr<|.mo rfl<|.mo rfl ?_
 have b:n<s.size:=by simp at a;omega
 refine .q (.Ea (s:=s) 0 n rfl ⟨_,rfl⟩ (by omega) (by omega)) ?_
 refine .az rfl ?_
 refine .ret (bs (cw rfl ?_))
 ·exact⟨by unfold short;rw[abI (by simp at a;omega)],rfl⟩
 refine .kn<|.sr<|.mo rfl<|.az rfl ?_
 refine .ret (cw rfl ?_)
 ·exact⟨by unfold short;rw[abH (by simp at a;omega)],rfl⟩
theorem lg(v:Value)(xs:List ByteArray)(R:aC)(h:RS R 1 cR v xs)(i:xs.length<=1000000):
  Spec prog 152 [v] R [] λv' H'=>∃T,H'=[T]/\OS 9 1 cR v' xs T:=by
 obtain⟨b,d,rfl⟩:=h.val
 have f:∀H,RS (Rx R H) 1 cR (.slice b xs.length d) xs:=λH=>h.rx
 refine Spec.ej (H':=[[]]) (by simp) ?_
 refine Spec.body func152 rfl results152 ntmps152 rfl ?_
 refine .sr<|.ag rfl<|.zs<|.sr<|.mo rfl<|.q (.m6 rfl rfl) ?_
 refine .zn ?_
 refine .cond rfl (λa=>?_) λa=>?_
 refine .sr<|.az rfl ?_
 refine .ret (bs (ba _ (.one (.tmp rfl)) (.one [0] _) ?_))
 ·obtain rfl:b=none:=by simpa using a
  have:=h.CV
  subst this
  exact⟨[],rfl,OS.nil⟩
 refine .kn<|.sr ?_
 refine .ov (λg=>?_)
 refine .mo rfl ?_
 refine .append (OS.empty (enc:=cR) (sz:=1)) (f _) (by simp;omega) (λv' c e=>?_)
 refine .az rfl ?_
 refine .ret (ba _ (.one (.tmp rfl)) (.one [0] _) ?_)
 ·exact⟨c,by simp[take],by simpa using e⟩
def texts(l:List ByteArray)(n k:Nat):List ByteArray:=(l.take n).map λs=>short s k
theorem nY(v:Value)(l:List ByteArray)(n k:Nat)(C:n<=1000000)(R:aC)(h:RS R 1 cR v l):
  Spec prog 103 [v,.int .i64 n,.int .i64 k] R [] λv' H'=>∃T,H'=[T]/\OS 9 1 cR v' (texts l n k) T:=by
 have B:=h.le
 refine Spec.ej (H':=[[]]) (by simp) ?_
 refine Spec.body func103 rfl results103 ntmps103 rfl ?_
 refine .sr<|.ag rfl<|.z<|.ag rfl<|.zs<|.sr<|.az rfl<|.block ?_
 refine .loop (X:=Nat×Value×ax) (λy=>(y.1<=l.length/\y.1<=n)/\OS 9 1 cR y.2.1 (texts l y.1 k) y.2.2) (λy=>[(0,v),(1,iN n),(2,iN k),(7,y.2.1),(8,iN y.1)]) (λy=>[y.2.2]) (λy=>l.length-y.1) (0,sZ,[]) ⟨⟨by omega,by omega⟩,OS.nil⟩ kE.c.c.c.c.c rH ?_
 rintro⟨i,w,T⟩ ⟨⟨m,o⟩,b⟩
 simp only at m o b⊢
 have E:=b.aB
 refine .seq<|.sr<|.mo rfl<|.mo rfl<|.q (.db h) ?_
 refine .q .lss<|.mo rfl ?_
 refine .split (t:=13) rfl (λa=>?_) (λa=>?_)
 refine .gT a<|.mo rfl<|.gT a<|.mo rfl<|.gT a<|.q .lss<|.q (.cb a) ?_
 refine .zn ?_
 refine .cond rfl (λd=>?_) λd=>?_
 have p:i<l.length/\i<n:=by simp at a d;omega
 obtain⟨z,g⟩:∃z,l[i]? =some z:=⟨_,aE p.1⟩
 have D:(texts l i k).length<=i:=by simp[texts];omega
 have r:texts l (i+1) k=texts l i k++[short z k]:=by unfold texts;rw[List.take_add_one,g];simp
 refine .kn<|.seq<|.block<|.region<|.mo rfl<|.mo rfl<|.mo rfl ?_
 refine .da i h g (λF=>?_)
 refine .lo rfl<|.mo rfl ?_
 refine .br (fj z k _) (λu s=>?_)
 subst s
 refine .jm (λA=>?_)
 refine .append b (RS.lits (xs:=[short z k]) rfl (by simp[cR]) (by simp[cR,aB])) (by simp;omega) (λx j f=>?_)
 rw[<-r]at f
 refine .ag rfl<|.nil<|bd<|aF<|.region<|.mo rfl ?_
 refine .q (.inc (n:=i) (by omega)) ?_
 refine .ag rfl<|.nil ?_
 ·exact aT (i+1,x,j) ⟨⟨by simp only;omega,by simp only;omega⟩,f⟩ (by simp only;omega) kE.c.c.c.c.c (cu [1])
 refine .exit<|aU<|aY<|aW<|aF<|.sr<|.mo rfl<|.az rfl ?_
 refine .ret (ba _ (.one (.tmp rfl)) rH ?_)
 ·refine⟨_,rfl,?_⟩
  have:i=n\/i=l.length:=by
   first
    |(simp at a d;omega)
    |(simp at a;omega)
  rcases this with e|e
  ·rw[<-e];exact b
  ·have:texts l n k=texts l i k:=by unfold texts;rw[e,List.take_length,aca (by omega)]
   rw[this];exact b
 refine .gF a<|.gF a<|.gF a<|.q (.bW a) ?_
 refine .zn<|.bD<|.exit<|aU<|aY<|aW<|aF<|.sr<|.mo rfl<|.az rfl ?_
 refine .ret (ba _ (.one (.tmp rfl)) rH ?_)
 ·refine⟨_,rfl,?_⟩
  have:i=n\/i=l.length:=by
   first
    |(simp at a d;omega)
    |(simp at a;omega)
  rcases this with e|e
  ·rw[<-e];exact b
  ·have:texts l n k=texts l i k:=by unfold texts;rw[e,List.take_length,aca (by omega)]
   rw[this];exact b
theorem ko{l:List ByteArray}{n k:Nat}:∀s∈texts l n k,s.size<=k:=by
 intro s a
 obtain⟨t,_,rfl⟩:=abG.1 a
 exact eN
def ee(T:ax):aC:=λb o=>(b,o)∈T/\∃c E,o=.cells c E (0,0)
theorem OS.ee{α:Type}{E sz:Nat}{enc:α->List Value}{v:Value}{xs:List α}{T:ax}(h:OS E sz enc v xs T):RS (Go.Proofs.YtgppncmdpcefhaaGreatDoor.ee T) sz enc v xs:=
 ⟨h.len,h.one,by
  rcases h.h with⟨rfl,rfl,rfl⟩|⟨b,a,c,d,rfl,rfl,e,f,i,g⟩
  ·exact⟨none,0,rfl,Nat.le_refl _,Nat.zero_le _,.inl rfl⟩
  ·exact⟨some ⟨b,a,none⟩,d,rfl,e,f,.inr ⟨b,a,c,E,(0,0),rfl,⟨by simp,c,E,rfl⟩,g⟩⟩⟩
theorem nQ{A B:ax}{b:Nat}{o:Obj}(h:ee A b o):ee (A++B) b o:=⟨acb B h.1,h.2⟩
theorem nR{A B:ax}{b:Nat}{o:Obj}(h:ee B b o):ee (A++B) b o:=⟨List.mem_append_right A h.1,h.2⟩
section
variable{κ β γ:Type}
def dF(f:β->γ)(A:List (κ×β)):List (κ×γ):=A.map λp=>(p.1,f p.2)
theorem jS{f:β->γ}{A:List (κ×β)}:(dF f A).map (·.1)=A.map (·.1):=by rw[dF,ab4];rfl
theorem CD{f:β->γ}{A:List (κ×β)}:(dF f A).length=A.length:=by simp[dF]
theorem kP{f:β->γ}{A:List (κ×β)}{p:κ×β}(h:p∈A):(p.1,f p.2)∈dF f A:=abG.2 ⟨p,h,rfl⟩
theorem pA{f:β->γ}{A:List (κ×β)}{p:κ×γ}(h:p∈dF f A):∃q∈A,p=(q.1,f q.2):=let ⟨q,h1,h2⟩:=abG.1 h;⟨q,h1,h2.symm⟩
variable [DecidableEq κ]
theorem pE{k:κ}{x:β}:∀{M:List (κ×β)},(M.map (·.1)).Nodup->(hE k x M).Perm (kQ k x M)
 |[],_=>by simp[hE,kQ,eF]
 |(k',x')::M,hn=>by
  rw[abK,abQ]at hn
  simp only[hE]
  split
  ·rename_i h
   subst h
   unfold kQ
   rw[kO hn.1]
   exact abW (l₁:=[(k,x)])
  ·rename_i h
   have a:=(pE (k:=k) (x:=x) hn.2).cons (k',x')
   refine a.trans (List.Perm.of_eq ?_)
   unfold kQ eF
   have:decide ((k',x').1≠k)=true:=ab6 λe=>h e.symm
   rw[abP,abI this]
   rfl
end
theorem filter_one{k:ByteArray}:∀{l:List ByteArray},l.Nodup->k∈l->l.Perm (k::l.filter λk'=>decide (k'≠k))
 |[],_,h=>by cases h
 |x::l,hn,h=>by
  have b:=abQ.1 hn
  by_cases a:x=k
  ·subst a
   have:l.filter (λk'=>decide (k'≠x))=l:=abX.2 λy f=>by
    have:y≠x:=λe=>b.1 (e▸f)
    simp[this]
   rw[abP]
   simp only[ne_eq,not_true_eq_false,decide_false,Bool.false_eq_true,if_false]
   have c:l.filter (λk'=> !decide (k'=x))=l:=by simpa using this
   simp only[decide_not,c]
   exact .refl _
  ·have d:k∈l:=by
    rcases abR.1 h with e|h
    ·exact absurd e.symm a
    ·exact h
   have:=(filter_one b.2 d).cons x
   rw[abP,abI (by simp[a])]
   exact this.trans (List.Perm.swap k x _)
structure Tok where
 text:ByteArray
 kind:Int
 ky:ByteArray
 user:ByteArray
 scopes:List ByteArray
 family:Int
 du:Int
 rev:Int
 used:Bool
abbrev TP:Type:=Value×Tok
def bB(p:TP):List Value:=[.string p.2.text,.int .i64 p.2.kind,.string p.2.ky,.string p.2.user,p.1,.int .i64 p.2.family,.int .i64 p.2.du,.int .u64 p.2.rev,.bool p.2.used]
def gM(R:aC)(p:TP):Prop:=RS R 1 cR p.1 p.2.scopes
theorem gM.mono{R R':aC}{p:TP}(h:gM R p)(a:∀b o,R b o->R' b o):gM R' p:=RS.mono h a
theorem gM.cL{R:aC}{p:TP}(h:gM R p):∀u∈bB p,aB u=true:=by
 have b:=h.aB.h
 intro u a
 simp only[bB,abR,acd,or_false]at a
 rcases a with rfl|rfl|rfl|rfl|rfl|rfl|rfl|rfl|rfl<;>first|rfl|assumption
def Tok.iY(t:Tok):Prop:=t.scopes.length<=1000000
def Tok.zero:Tok:=⟨⟨#[]⟩,0,⟨#[]⟩,⟨#[]⟩,[],0,0,0,false⟩
theorem Ex(w:Value)(t:Tok)(R:aC)(h:gM R (w,t))(c:t.iY):Spec prog 159 [.agg (bB (w,t)).toArray] R [] λv H'=>∃T,H'=[T]/\∃w',v=.agg (bB (w',t)).toArray/\gM (ee T) (w',t):=by
 have k:cq (bB (w,t)):=⟨h.cL⟩
 have i:One w:=h.aB
 have d:RS R 1 cR w t.scopes:=h
 refine Spec.body func159 rfl results159 ntmps159 rfl ?_
 refine .sr ?_
 refine .cK rfl (λf=>?_)
 refine .cZ (λg=>?_)
 refine .z<|.fa rfl<|.lo rfl ?_
 refine .bS (lg w t.scopes _ d.rx c) (λe b a=>?_)
 have j:=a.aB
 refine .fa rfl<|.cv rfl rfl<|.z<|.q (.aD rfl)<|.cW rfl rfl<|.zn ?_
 refine .ret (ba _ (.one (.fk rfl rfl)) (.one [0] _) ?_)
 ·exact⟨b,by simp[take],e,rfl,a.ee⟩
def VJ(g:Nat)(A:List (ByteArray×Tok))(last:Int)(Td T0:ax):Prop:=∃vm M q Tm Tq,T0=(g,.cells [vm,pT q,.int .i64 last].toArray 241 (0,0))::(Tm++Tq)/\
 MS (λs:ByteArray=>.string s) (λp:TP=>.agg (bB p).toArray) vm M Tm/\(∀p∈M,p.1=p.2.2.text/\gM (ee Td) p.2/\p.2.2.iY)/\(dF (λp:TP=>p.2) M).Perm A/\QI q (dF (λt:Tok=>t.du) A) Tq
def VI(g:Nat)(A:List (ByteArray×Tok))(last:Int)(T:ax):Prop:=∃Td T0,T=T0++Td/\VJ g A last Td T0
theorem EP{M:List (ByteArray×TP)}{A:List (ByteArray×Tok)}(b:(M.map (·.1)).Nodup)(a:(dF (λp:TP=>p.2) M).Perm A):(A.map (·.1)).Nodup:=((a.map (·.1)).nodup_iff).1 (by rw[jS];exact b)
theorem VI.keys{g:Nat}{A:List (ByteArray×Tok)}{last:Int}{T:ax}(h:VI g A last T):∀p∈A,p.1=p.2.text:=by
 obtain⟨e,_,rfl,l,M,q,f,i,rfl,j,b,a,k⟩:=h
 intro p c
 obtain⟨x,d,rfl⟩:=pA (a.mem_iff.2 c)
 exact(b x d).1
theorem VI.nd{g:Nat}{A:List (ByteArray×Tok)}{last:Int}{T:ax}(h:VI g A last T):(A.map (·.1)).Nodup:=by
 obtain⟨c,_,rfl,j,M,q,d,e,rfl,b,f,a,i⟩:=h
 exact EP b.nd a
theorem ES(R:aC):Spec prog 170 [] R [] λv H'=>∃T,H'=[T]/\∃g,v=pT g/\VI g [] 0 T:=by
 refine Spec.body func170 rfl results170 ntmps170 rfl ?_
 refine .sr<|.ag rfl<|.z ?_
 refine .makeMap (λa=>?_)
 refine .bS (pW _) (λu b e=>?_)
 obtain⟨q,rfl,d⟩:=e
 refine .q .dA ?_
 refine .cK rfl (λc=>?_)
 refine .az rfl ?_
 refine .ret (ba _ (.one (.tmp rfl)) ((cu [0,1,0]).trans (bJ.cY (H':=[(c,.cells [.map (some a),pT q,.int .i64 0].toArray 241 (0,0))::([(a,.map #[] 0)]++b)++[]]) (by simp[take,bF];exact .refl _))) ?_)
 ·exact⟨_,rfl,_,rfl,[],_,rfl,.map (some a),[],q,_,b,rfl,MS.nil,by simp,.refl _,d⟩
theorem oc(g b:Nat)(x y:Value)(R:aC) [pc:PC R (pT g) [.map (some b),x,y]]:Spec prog 158 [pT g] R [] λv H'=>v=.bool true/\H'=[]:=by
 refine Spec.body func158 rfl results158 ntmps158 rfl ?_
 refine .sr<|.ag rfl<|.z<|.mo rfl<|.q (.iy rfl rfl) ?_
 refine .mo rfl<|.gt rfl ?_
 refine .mo rfl<|.gt rfl ?_
 refine .nc rfl<|.gt rfl ?_
 refine .fa rfl<|.gt rfl ?_
 refine .lo rfl<|.gt rfl ?_
 refine .q (.lU rfl rfl) ?_
 refine .q .fV<|.az rfl ?_
 refine .ret (cw rfl ?_)
 ·exact⟨rfl,rfl⟩
theorem EQ(g:Nat)(A:List (ByteArray×Tok))(last:Int)(T:ax)(h:VI g A last T)(R:aC)(d:∀p∈T,R p.1 p.2):
  Spec prog 83 [pT g] R [] λv H'=>v=.int .i64 last/\H'=[]:=by
 obtain⟨i,_,rfl,f,M,q,j,k,rfl,c,m,l,n⟩:=h
 obtain⟨a,rfl⟩:∃b,f=.map (some b):=by obtain⟨b,es,clock,h1,_⟩:=c;exact⟨b,h1⟩
 have o:PC R (pT g) [.map (some a),pT q,.int .i64 last]:=PC.of (E:=241) (fr:=(0,0)) (d (g,.cells [.map (some a),pT q,.int .i64 last].toArray 241 (0,0)) (by simp))
 refine Spec.body func83 rfl results83 ntmps83 rfl ?_
 refine .sr<|.ag rfl<|.zs<|.sr<|.mo rfl ?_
 refine .br (oc g a _ _ _) (λv e=>?_)
 subst e
 refine .q .not<|.zn<|.bD<|.kn<|.sr<|.mo rfl<|.nc rfl<|.fa rfl<|.lo rfl<|.az rfl ?_
 refine .ret (cw rfl ?_)
 ·exact⟨rfl,rfl⟩
structure di where
 text:ByteArray
 ky:ByteArray
 user:ByteArray
 uri:ByteArray
 scopes:List ByteArray
 oC:ByteArray
 du:Int
 family:Int
 used:Bool
abbrev GP:Type:=Value×di
def bA(p:GP):List Value:=[.string p.2.text,.string p.2.ky,.string p.2.user,.string p.2.uri,p.1,.string p.2.oC,.int .i64 p.2.du,.int .i64 p.2.family,.bool p.2.used]
def gH(R:aC)(p:GP):Prop:=RS R 1 cR p.1 p.2.scopes
theorem gH.mono{R R':aC}{p:GP}(h:gH R p)(a:∀b o,R b o->R' b o):gH R' p:=RS.mono h a
theorem gH.cL{R:aC}{p:GP}(h:gH R p):∀u∈bA p,aB u=true:=by
 have b:=h.aB.h
 intro u a
 simp only[bA,abR,acd,or_false]at a
 rcases a with rfl|rfl|rfl|rfl|rfl|rfl|rfl|rfl|rfl<;>first|rfl|assumption
def di.iY(t:di):Prop:=t.scopes.length<=1000000
def di.zero:di:=⟨⟨#[]⟩,⟨#[]⟩,⟨#[]⟩,⟨#[]⟩,[],⟨#[]⟩,0,0,false⟩
theorem Cn(w:Value)(t:di)(R:aC)(h:gH R (w,t))(c:t.iY):Spec prog 155 [.agg (bA (w,t)).toArray] R [] λv H'=>∃T,H'=[T]/\∃w',v=.agg (bA (w',t)).toArray/\gH (ee T) (w',t):=by
 have k:cq (bA (w,t)):=⟨h.cL⟩
 have i:One w:=h.aB
 have d:RS R 1 cR w t.scopes:=h
 refine Spec.body func155 rfl results155 ntmps155 rfl ?_
 refine .sr ?_
 refine .cK rfl (λf=>?_)
 refine .cZ (λg=>?_)
 refine .z<|.fa rfl<|.lo rfl ?_
 refine .bS (lg w t.scopes _ d.rx c) (λe b a=>?_)
 have j:=a.aB
 refine .fa rfl<|.cv rfl rfl<|.z<|.q (.aD rfl)<|.cW rfl rfl<|.zn ?_
 refine .ret (ba _ (.one (.fk rfl rfl)) (.one [0] _) ?_)
 ·exact⟨b,by simp[take],e,rfl,a.ee⟩
abbrev eg:Type:=ByteArray×ByteArray
def kB(k:eg):List Value:=[.string k.1,.string k.2]
instance Fo(k:eg):cq (kB k):=⟨by simp[kB,aB]⟩
abbrev WS:Type:=Value×List ByteArray
def GJ(g:Nat)(C:List (eg×List ByteArray))(A:List (ByteArray×di))(Td T0:ax):Prop:=∃vc MC vm M q Tc Tm Tq,T0=(g,.cells [vc,vm,pT q].toArray 230 (0,0))::(Tc++(Tm++Tq))/\
 (MS (λk:eg=>.agg (kB k).toArray) (λp:WS=>p.1) vc MC Tc/\(∀p∈MC,RS (ee Td) 1 cR p.2.1 p.2.2)/\(dF (λp:WS=>p.2) MC).Perm C)/\
 (MS (λs:ByteArray=>.string s) (λp:GP=>.agg (bA p).toArray) vm M Tm/\(∀p∈M,p.1=p.2.2.text/\gH (ee Td) p.2/\p.2.2.iY)/\(dF (λp:GP=>p.2) M).Perm A/\QI q (dF (λt:di=>t.du) A) Tq)
def GI(g:Nat)(C:List (eg×List ByteArray))(A:List (ByteArray×di))(T:ax):Prop:=∃Td T0,T=T0++Td/\GJ g C A Td T0
theorem Cr{M:List (ByteArray×GP)}{A:List (ByteArray×di)}(b:(M.map (·.1)).Nodup)(a:(dF (λp:GP=>p.2) M).Perm A):(A.map (·.1)).Nodup:=((a.map (·.1)).nodup_iff).1 (by rw[jS];exact b)
theorem GI.keys{g:Nat}{C:List (eg×List ByteArray)}{A:List (ByteArray×di)}{T:ax}(h:GI g C A T):∀p∈A,p.1=p.2.text:=by
 obtain⟨i,_,rfl,s,e,t,M,q,f,j,k,rfl,⟨o,m,l⟩,n,b,a,r⟩:=h
 intro p c
 obtain⟨x,d,rfl⟩:=pA (a.mem_iff.2 c)
 exact(b x d).1
theorem GI.nd{g:Nat}{C:List (eg×List ByteArray)}{A:List (ByteArray×di)}{T:ax}(h:GI g C A T):(A.map (·.1)).Nodup:=by
 obtain⟨e,_,rfl,o,c,p,M,q,d,f,i,rfl,⟨m,l,j⟩,b,k,a,n⟩:=h
 exact Cr b.nd a
theorem Ct(R:aC):Spec prog 169 [] R [] λv H'=>∃T,H'=[T]/\∃g,v=pT g/\GI g [] [] T:=by
 refine Spec.body func169 rfl results169 ntmps169 rfl ?_
 refine .sr<|.ag rfl<|.z ?_
 refine .makeMap (λa=>?_)
 refine .makeMap (λb=>?_)
 refine .bS (pW _) (λu c f=>?_)
 obtain⟨q,rfl,e⟩:=f
 refine .q .dA ?_
 refine .cK rfl (λd=>?_)
 refine .az rfl ?_
 refine .ret (ba _ (.one (.tmp rfl)) ((cu [0,2,1,0]).trans (bJ.cY (H':=[(d,.cells [.map (some a),.map (some b),pT q].toArray 230 (0,0))::([(a,.map #[] 0)]++([(b,.map #[] 0)]++c))++[]]) (by simp[take,bF];exact .refl _))) ?_)
 ·exact⟨_,rfl,_,rfl,[],_,rfl,.map (some a),[],.map (some b),[],q,_,_,c,rfl,⟨MS.nil,by simp,.refl _⟩,MS.nil,by simp,.refl _,e⟩
theorem ni(g b:Nat)(x y:Value)(R:aC) [pc:PC R (pT g) [x,.map (some b),y]]:Spec prog 151 [pT g] R [] λv H'=>v=.bool true/\H'=[]:=by
 refine Spec.body func151 rfl results151 ntmps151 rfl ?_
 refine .sr<|.ag rfl<|.z<|.mo rfl<|.q (.iy rfl rfl) ?_
 refine .mo rfl<|.gt rfl ?_
 refine .mo rfl<|.gt rfl ?_
 refine .nc rfl<|.gt rfl ?_
 refine .fa rfl<|.gt rfl ?_
 refine .lo rfl<|.gt rfl ?_
 refine .q (.lU rfl rfl) ?_
 refine .q .fV<|.az rfl ?_
 refine .ret (cw rfl ?_)
 ·exact⟨rfl,rfl⟩
def di.fresh(t:di):di:=⟨t.text,t.ky,t.user,t.uri,t.scopes,t.oC,t.du,t.family,false⟩
def oo(s:ByteArray)(p:Int->Bool):Bool:=s.data.toList.all λc=>p (c.toNat:Int)
def oh(z:Int):Bool:=decide (97<=z)&&decide (z<=122)
def qU(z:Int):Bool:=(decide (48<=z)&&decide (z<=57))||z==95
def E3(z:Int):Bool:=oh z||qU z||(decide (65<=z)&&decide (z<=90))||z==46||z==45
def E4(z:Int):Bool:=oh z||qU z
def o9(s:ByteArray):Bool:=oo s E3&&decide (1<=s.size)&&decide (s.size<=32)
def DF(s:ByteArray):Bool:=decide (s=⟨#[117,115,101,114]⟩)||decide (s=⟨#[116,104,105,115]⟩)||decide (s=⟨#[110,97,109,101,115,112,97,99,101]⟩)||decide (s=⟨#[114,101,108,97,116,105,111,110]⟩)||decide (s=⟨#[115,99,111,112,101]⟩)
def isWord(s:ByteArray):Bool:= !DF s&&(oo s E4&&decide (1<=s.size)&&decide (s.size<=32))&&(if h:0<s.size then oh (s[0]'h).toNat else false)
structure cU where
 id:ByteArray
 dc:ByteArray
 gn:List ByteArray
 scopes:List ByteArray
def cU.fits(c:cU):Prop:=c.id.size<=9223372036854775807/\c.dc.size<=9223372036854775807/\(∀s∈c.gn,s.size<=9223372036854775807)/\∀s∈c.scopes,s.size<=9223372036854775807
structure CR where
 id:ByteArray
 dc:ByteArray
 vu:Value
 vs:Value
def CR.cells(r:CR):List Value:=[.string r.id,.string r.dc,r.vu,r.vs]
structure ek(R:aC)(r:CR)(c:cU):Prop where
 id:r.id=c.id
 dc:r.dc=c.dc
 u:RS R 1 cR r.vu c.gn
 s:RS R 1 cR r.vs c.scopes
theorem ek.mono{R R':aC}{r:CR}{c:cU}(h:ek R r c)(a:∀b o,R b o->R' b o):ek R' r c:=⟨h.id,h.dc,h.u.mono a,h.s.mono a⟩
theorem ek.cL{R:aC}{r:CR}{c:cU}(h:ek R r c):∀u∈r.cells,aB u=true:=by
 have a:=h.u.aB.h
 have b:=h.s.aB.h
 simp[CR.cells,a,b]
 exact⟨rfl,rfl⟩
def cU.iY(c:cU):Prop:=c.gn.length<=1000000/\c.scopes.length<=1000000
def cU.zero:cU:=⟨⟨#[]⟩,⟨#[]⟩,[],[]⟩
theorem rZ(r:CR)(c:cU)(R:aC)(h:ek R r c)(i:c.iY):Spec prog 147 [.agg r.cells.toArray] R [] λv H'=>∃T,H'=[T]/\∃r',v=.agg r'.cells.toArray/\ek (sg T) r' c:=by
 have y:cq r.cells:=⟨h.cL⟩
 obtain⟨z,A,o,n⟩:=r
 obtain⟨d,e,b,a⟩:=h
 simp only at d e b a
 subst d;subst e
 have t:=b.aB
 have u:=a.aB
 refine Spec.body func147 rfl results147 ntmps147 rfl ?_
 refine .sr ?_
 refine .cK rfl (λp=>?_)
 refine .cZ (λs=>?_)
 refine .zs<|.bK [7,9] mixed ?_
 refine .tO 0 rfl (.fieldAddr rfl)<|.tO 1 rfl (.bN rfl)<|.tO 3 rfl (.fieldAddr rfl)<|.tO 4 rfl (.bN rfl) ?_
 refine .sT 2 rfl ?_
 refine .bS (lg o c.gn _ b.rx i.1) (λl j f=>?_)
 have w:=f.aB
 refine .nil (Next.sub ?_)
 refine .tO 6 rfl (.fieldAddr rfl) ?_
 refine .sT 5 rfl ?_
 refine .bS (lg n c.scopes _ a.rx i.2) (λm k g=>?_)
 have x:=g.aB
 refine .nil (Next.sub ?_)
 refine .sT 7 rfl ?_
 refine .cv rfl rfl ?_
 refine .nil (Next.mod rfl ?_)
 refine .tK 8 rfl (.dB rfl) ?_
 refine .sT 9 rfl ?_
 refine .cv rfl rfl ?_
 refine .nil (Next.mod rfl ?_)
 refine RA.nil (by kernel_rfl) ?_
 refine aF<|.sr<|.q (.aD rfl)<|.cW rfl rfl<|.zn ?_
 refine .ret (ba _ (.one (.fk rfl rfl)) (.one [0,0] _) ?_)
 ·exact⟨k++j,by simp[take,bF],⟨c.id,c.dc,l,m⟩,rfl,rfl,rfl,f.sg.right,g.sg.left⟩
def RI(g:Nat)(A:List cU)(T:ax):Prop:=∃vm M Tm Ti,T=(g,.cells [vm].toArray 222 (0,0))::(Tm++Ti)/\MS (λs:ByteArray=>.string s) (λp:CR×cU=>.agg p.1.cells.toArray) vm M Tm/\
 (∀p∈M,p.1=p.2.2.id/\ek (sg Ti) p.2.1 p.2.2/\p.2.2.iY)/\(M.map (·.2.2)).Perm A
theorem rS(R:aC):Spec prog 168 [] R [] λv H'=>∃T,H'=[T]/\∃g,v=pT g/\RI g [] T:=by
 refine Spec.body func168 rfl results168 ntmps168 rfl ?_
 refine .sr<|.ag rfl<|.z ?_
 refine .makeMap (λa=>?_)
 refine .q .dA ?_
 refine .cK rfl (λb=>?_)
 refine .az rfl ?_
 refine .ret (ba _ (.one (.tmp rfl)) (.one [0,0] _) ?_)
 ·exact⟨_,rfl,_,rfl,.map (some a),[],_,[],by simp[take,bF];rfl,MS.nil,by simp,.refl _⟩
theorem rU(g b:Nat)(R:aC) [pc:PC R (pT g) [.map (some b)]]:Spec prog 146 [pT g] R [] λv H'=>v=.bool true/\H'=[]:=by
 refine Spec.body func146 rfl results146 ntmps146 rfl ?_
 refine .sr<|.ag rfl<|.z<|.mo rfl<|.q (.iy rfl rfl) ?_
 refine .mo rfl<|.gt rfl ?_
 refine .mo rfl<|.gt rfl ?_
 refine .nc rfl<|.gt rfl ?_
 refine .fa rfl<|.gt rfl ?_
 refine .lo rfl<|.gt rfl ?_
 refine .q (.lU rfl rfl) ?_
 refine .q .fV<|.az rfl ?_
 refine .ret (cw rfl ?_)
 ·exact⟨rfl,rfl⟩
def cU.short(c:cU):cU:=⟨Go.Proofs.YtgppncmdpcefhaaGreatDoor.short c.id 40,Go.Proofs.YtgppncmdpcefhaaGreatDoor.short c.dc 70,texts c.gn 10 210,texts c.scopes 18 40⟩
theorem r0(r:CR)(c:cU)(R:aC)(h:ek R r c):Spec prog 102 [.agg r.cells.toArray] R [] λv H'=>∃T,H'=[T]/\∃r',v=.agg r'.cells.toArray/\ek (sg T) r' c.short:=by
 have q:cq r.cells:=⟨h.cL⟩
 obtain⟨y,z,l,k⟩:=r
 obtain⟨d,e,a,b⟩:=h
 simp only at d e a b
 subst d;subst e
 have o:=a.aB
 have p:=b.aB
 refine Spec.body func102 rfl results102 ntmps102 rfl ?_
 refine .sr ?_
 refine .cK rfl (λm=>?_)
 refine .cZ (λn=>?_)
 refine .zs<|.bK [13] mixed ?_
 refine .tO 0 rfl (.fieldAddr rfl)<|.tO 1 rfl (.bN rfl)<|.tO 3 rfl (.fieldAddr rfl)<|.tO 4 rfl (.bN rfl)<|.tO 6 rfl (.fieldAddr rfl)<|.tO 7 rfl (.bN rfl)<|.tO 9 rfl (.fieldAddr rfl)<|.tO 10 rfl (.bN rfl) ?_
 refine .sT 2 rfl ?_
 refine .br (fj c.id 40 _) (λu a=>?_)
 subst a
 refine .nil (Next.sub ?_)
 refine .sT 5 rfl ?_
 refine .br (fj c.dc 70 _) (λu a=>?_)
 subst a
 refine .nil (Next.sub ?_)
 refine .sT 8 rfl ?_
 refine .bS (nY l c.gn 10 210 (by omega) _ a.rx) (λA i f=>?_)
 obtain⟨w,s,rfl,_⟩:=f.shape
 refine .nil (Next.sub ?_)
 refine .sT 11 rfl ?_
 refine .bS (nY k c.scopes 18 40 (by omega) _ b.rx) (λB j g=>?_)
 obtain⟨x,t,rfl,_⟩:=g.shape
 refine .nil (Next.sub ?_)
 refine .tO 12 rfl .dA ?_
 refine .sT 13 rfl ?_
 refine .cW rfl rfl ?_
 refine .nil (Next.mod rfl ?_)
 refine RA.nil (by kernel_rfl) ?_
 refine aF ?_
 refine .ret (ba _ (.one (.fk rfl rfl)) (.one [0,0] _) ?_)
 ·exact⟨j++i,by simp[take,bF],⟨short c.id 40,short c.dc 70,_,_⟩,rfl,rfl,rfl,f.sg.right,g.sg.left⟩
structure dC{α:Type}(c:α->α->Int):Prop where
 sw:∀x y,c x y<0↔0<c y x
 tr:∀x y z,c x y<=0->c y z<=0->c x z<=0
 tl:∀x y z,c x y<0->c y z<=0->c x z<0
section
variable{α β:Type}{c d:α->α->Int}
theorem dC.refl(h:dC c)(x:α):c x x=0:=by have:=h.sw x x;omega
theorem dC.E6(h:dC c){x y:α}(a:c x y=0):c y x=0:=by have b:=h.sw x y;have d:=h.sw y x;omega
theorem dC.t2(h:dC c)(x y z:α)(a:c x y<=0)(b:c y z<0):c x z<0:=by
 have d:=h.tr x y z a (by omega)
 rcases Int.lt_or_eq_of_le d with h4|h4
 ·exact h4
 ·have f:=h.E6 h4
  have e:=h.tl y z x b (by omega)
  have g:=(h.sw y x).1 e
  omega
theorem dC.map(h:dC c)(f:β->α):dC (λx y=>c (f x) (f y)):=⟨λx y=>h.sw _ _,λx y z=>h.tr _ _ _,λx y z=>h.tl _ _ _⟩
theorem dC.so(h:dC c):SO (ap c) where
 cM x:=by unfold ap;rw[h.refl];rfl
 tr x y z a b:=by
  unfold ap at *
  have a:=bn a
  have b:=bn b
  exact ab6 (h.tl x y z a (by omega))
 dN x y z a b:=by
  unfold ap at *
  have a:=aZ a
  have b:=aZ b
  refine decide_eq_false λf=>?_
  have d:c y x<=0:=by have:=h.sw y x;have:=h.sw x y;omega
  have e:c z y<=0:=by have:=h.sw y z;have:=h.sw z y;omega
  have g:=h.tr z y x e d
  have i:=(h.sw x z).1 f
  omega
theorem jW(a:Int)(l:List Int):dO (a::l)=if a=0 then dO l else a:=rfl
theorem dC.nil:dC (λ_ _:α=>dO []):=⟨λx y=>by simp[dO],λx y z _ _=>by simp[dO],λx y z h _=>by simp[dO]at h⟩
theorem dC.cons{L:α->α->List Int}(d:dC c)(g:dC λa b=>dO (L a b)):dC (λa b=>dO (c a b::L a b)) where
 sw x y:=by
  simp only[jW]
  have e:=d.sw x y
  have f:=d.sw y x
  have s:=g.sw x y
  split<;>split<;>omega
 tr x y z e f:=by
  simp only[jW]at *
  have h:=d.tr x y z
  have i:=d.tl x y z
  have j:=d.t2 x y z
  have k:=g.tr x y z
  have l:=d.tr z y x
  have m:=d.sw x y
  have n:=d.sw y x
  have o:=d.sw z y
  have p:=d.sw y z
  have q:=d.sw x z
  have r:=d.sw z x
  split<;>(try split at e)<;>(try split at f)<;>omega
 tl x y z e f:=by
  simp only[jW]at *
  have h:=d.tr x y z
  have i:=d.tl x y z
  have j:=d.t2 x y z
  have k:=g.tl x y z
  have l:=d.tr z y x
  have m:=d.sw x y
  have n:=d.sw y x
  have o:=d.sw z y
  have p:=d.sw y z
  have q:=d.sw x z
  have r:=d.sw z x
  split<;>(try split at e)<;>(try split at f)<;>omega
theorem iZ{a:Int}{l:List Int}(h:dO (a::l)=0):a=0/\dO l=0:=by
 rw[jW]at h
 split at h
 ·rename_i b;exact⟨b,h⟩
 ·omega
end
theorem iJ:dC dn where
 sw x y:=by rw[<-hJ, <-ld]
 tr x y z h1 h2:=by
  have a:dW y x=false:=abV.2 λh=>by have:=ld.1 h;omega
  have c:dW z y=false:=abV.2 λh=>by have:=ld.1 h;omega
  have b:=gD.dN z y x c a
  rcases Int.lt_or_le 0 (dn x z)with h|h
  ·rw[ld.2 h]at b;cases b
  ·exact h
 tl x y z h1 h2:=by
  have a:=hJ.2 h1
  rcases Int.lt_or_eq_of_le h2 with h|h
  ·exact hJ.1 (mw a (hJ.2 h))
  ·rw[mx]at h;subst h;exact h1
theorem o8:dC ed where
 sw x y:=by unfold ed;split<;>split<;>(try split)<;>(try split)<;>omega
 tr x y z h1 h2:=by unfold ed at *;split at h1<;>split at h2<;>(try split at h1)<;>(try split at h2)<;>split<;>(try split)<;>omega
 tl x y z h1 h2:=by unfold ed at *;split at h1<;>split at h2<;>(try split at h1)<;>(try split at h2)<;>split<;>(try split)<;>omega
theorem rR{α:Type}{c:α->α->Int}(h:dC c)(f:∀x y,c x y=0->x=y){xs ys:List α}(g:ys.Perm xs)(i:xs.Pairwise λa b=>ap c b a=false)(j:ys.Pairwise λa b=>ap c b a=false):ys=xs:=by
 refine List.Perm.eq_of_pairwise (le:=λa b:α=>ap c b a=false) (λa b _ _ d e=>?_) j i g
 unfold ap at d e
 have d:=aZ d
 have e:=aZ e
 have:=h.sw b a
 have:=h.sw a b
 exact f a b (by omega)
structure bc where
 os:ByteArray
 oi:ByteArray
 rel:ByteArray
 us:ByteArray
 ss:ByteArray
 si:ByteArray
 sr:ByteArray
def bc.enc(t:bc):List Value:=[.string t.os,.string t.oi,.string t.rel,.string t.us,.string t.ss,.string t.si,.string t.sr]
theorem bc.eq_iff(a b:bc):fz a.enc b.enc=true↔a=b:=by
 cases a;cases b
 simp only[bc.enc,fz,jo,bc.mk.injEq]
 simp
instance Fa:DecidableEq bc:=λa b=>decidable_of_iff _ (bc.eq_iff a b)
theorem bc.eq(a b:bc):fz a.enc b.enc=decide (a=b):=by rw[abL,abF];exact bc.eq_iff a b
instance bc.one(t:bc):cq t.enc:=⟨by simp[bc.enc,aB]⟩
structure Sub where
 us:ByteArray
 ss:ByteArray
 si:ByteArray
 sr:ByteArray
def Sub.enc(t:Sub):List Value:=[.string t.us,.string t.ss,.string t.si,.string t.sr]
theorem Sub.eq_iff(a b:Sub):fz a.enc b.enc=true↔a=b:=by
 cases a;cases b
 simp only[Sub.enc,fz,jo,Sub.mk.injEq]
 simp
instance E9:DecidableEq Sub:=λa b=>decidable_of_iff _ (Sub.eq_iff a b)
theorem Sub.eq(a b:Sub):fz a.enc b.enc=decide (a=b):=by rw[abL,abF];exact Sub.eq_iff a b
instance Sub.one(t:Sub):cq t.enc:=⟨by simp[Sub.enc,aB]⟩
structure eB where
 os:ByteArray
 oi:ByteArray
 rel:ByteArray
def eB.enc(t:eB):List Value:=[.string t.os,.string t.oi,.string t.rel]
theorem eB.eq_iff(a b:eB):fz a.enc b.enc=true↔a=b:=by
 cases a;cases b
 simp only[eB.enc,fz,jo,eB.mk.injEq]
 simp
instance E8:DecidableEq eB:=λa b=>decidable_of_iff _ (eB.eq_iff a b)
theorem eB.eq(a b:eB):fz a.enc b.enc=decide (a=b):=by rw[abL,abF];exact eB.eq_iff a b
def bc.sub(t:bc):Sub:=⟨t.us,t.ss,t.si,t.sr⟩
def bc.dU(t:bc):eB:=⟨t.os,t.oi,t.rel⟩
def hK(u:ByteArray):Int:=if u=⟨#[]⟩then 1 else 0
def gG(a b:bc):Int:=dO [dn a.os b.os,dn a.oi b.oi,dn a.rel b.rel,ed (hK a.us) (hK b.us),dn a.us b.us,dn a.ss b.ss,dn a.si b.si,dn a.sr b.sr]
def dQ(a b:bc):Bool:=decide (gG a b<0)
theorem fJ:dC gG:=
 (iJ.map bc.os).cons ((iJ.map bc.oi).cons ((iJ.map bc.rel).cons ((o8.map λt:bc=>hK t.us).cons ((iJ.map bc.us).cons ((iJ.map bc.ss).cons ((iJ.map bc.si).cons ((iJ.map bc.sr).cons .nil)))))))
theorem qH{a b:bc}(h:gG a b=0):a=b:=by
 unfold gG at h
 obtain⟨c,h⟩:=iZ h
 obtain⟨d,h⟩:=iZ h
 obtain⟨e,h⟩:=iZ h
 obtain⟨k,h⟩:=iZ h
 obtain⟨f,h⟩:=iZ h
 obtain⟨g,h⟩:=iZ h
 obtain⟨i,h⟩:=iZ h
 obtain⟨j,h⟩:=iZ h
 rw[mx]at c d e f g i j
 cases a;cases b
 simp_all
def pg(s i:ByteArray):Bool:=isWord s&&o9 i
def CB(t:Sub):Bool:=if t.us=⟨#[]⟩then pg t.ss t.si&&isWord t.sr else o9 t.us&&(decide (t.ss=⟨#[]⟩)&&decide (t.si=⟨#[]⟩)&&decide (t.sr=⟨#[]⟩))
def jx(t:bc):Bool:=pg t.os t.oi&&isWord t.rel&&CB t.sub
def oa(f t:bc):Bool:=(decide (f.os=⟨#[]⟩)||decide (f.os=t.os))&&(decide (f.oi=⟨#[]⟩)||decide (f.oi=t.oi))&&(decide (f.rel=⟨#[]⟩)||decide (f.rel=t.rel))&&(decide (f.us=⟨#[]⟩)||decide (f.us=t.us))&&(decide (f.ss=⟨#[]⟩)||decide (f.ss=t.ss))&&(decide (f.si=⟨#[]⟩)||decide (f.si=t.si))&&(decide (f.sr=⟨#[]⟩)||decide (f.sr=t.sr))
structure aN where
 t:bc
 fr:Int
 to:Int
def aN.enc(x:aN):List Value:=x.t.enc++[.int .u64 x.fr,.int .u64 x.to]
structure cg where
 put:Bool
 t:bc
def cg.enc(c:cg):List Value:=.bool c.put::c.t.enc
instance cg.one(c:cg):cq c.enc:=⟨by simp[cg.enc,bc.enc,aB]⟩
def iX(b:Nat):List Value:=[pT b]
def aN.there(x:aN)(r:Int):Bool:=decide (x.fr<=r)&&(x.to==0||decide (r<x.to))
def aN.fU(t:bc)(x:aN):Bool:=decide (x.t=t)&&x.to==0
def fu(L:List aN)(t:bc):Bool:=L.any (aN.fU t)
def qg(cj no:List bc)(cs:List cg):Int:=
 if 32<cs.length\/cs.length=0\/32<cj.length\/32<no.length then 25
 else if cj.any (λt=> !jx t)||no.any (λt=> !jx t)||cs.any (λc=> !jx c.t)then 9
 else if ¬(cs.map (·.t)).Nodup then 2 else 0
def jE(cs:List cg):Nat:=(cs.filter (·.put)).length
def D7(L:List aN)(head:Int)(cj no:List bc)(cs:List cg):Int:=
 if cj.any (λt=> !fu L t)||no.any (λt=>fu L t)then 13
 else if cs.any (λc=>c.put&&fu L c.t)then 10
 else if cs.any (λc=> !c.put&& !fu L c.t)then 11
 else if 4611686018427387903<=head\/4096<L.length+jE cs/\0<jE cs then 8 else 0
def aN.close(t:bc)(r:Int)(x:aN):aN:=if x.fU t then⟨x.t,x.fr,r⟩else x
def fB(r:Int)(L:List aN)(c:cg):List aN:=if c.put then L++[⟨c.t,r,0⟩]else L.map (aN.close c.t r)
structure dk where
 rows:List aN
 head:Int
 dv:Int
def qh(S:dk)(cj no:List bc)(cs:List cg):Int:=if qg cj no cs≠0 then qg cj no cs else D7 S.rows S.head cj no cs
def nX(S:dk)(cj no:List bc)(cs:List cg):dk:=if qh S cj no cs=0 then⟨cs.foldl (fB (S.head+1)) S.rows,S.head+1,S.dv⟩else S
def scan(S:dk)(r:Int):Bool:=decide (S.dv<=r)&&decide (r<=S.head)
def qo(h:Int)(x:aN):Bool:=x.to==0||decide (h<x.to)
def qi(S:dk)(h:Int):dk:=if scan S h then⟨S.rows.filter (qo h),S.head,h⟩else S
def Tok.fresh(t:Tok):Tok:=⟨t.text,t.kind,t.ky,t.user,t.scopes,t.family,t.du,t.rev,false⟩
theorem lN{κ β γ:Type}{f:β->γ}{q:γ->Bool}{A:List (κ×β)}:(dF f A).filter (λx=>q x.2)=dF f (A.filter λx=>q (f x.2)):=by unfold dF;rw[List.filter_map];rfl
theorem qA{β:Type}{M:List (ByteArray×β)}{a:List ByteArray}{k:ByteArray}:eF k (M.filter λx=>decide (x.1∉a))=M.filter λx=>decide (x.1∉a++[k]):=by
 unfold eF
 rw[List.filter_filter]
 refine List.filter_congr λx _=>?_
 by_cases h:x.1=k<;>simp[h]
theorem ET(g:Nat)(A:List (ByteArray×Tok))(last:Int)(T:ax)(h:VI g A last T)(now:Int)(R:aC):
  Spec prog 110 [pT g,.int .i64 now] R [T] λv H'=>∃T',H'=[T']/\v=.tuple #[]/\VI g (A.filter λx=>decide (now<x.2.du)) last T':=by
 have J:=h.nd
 obtain⟨d,_,rfl,vm,M,q,n,G,rfl,L,Y,I,hQ⟩:=h
 obtain⟨a,rfl⟩:∃b,vm=.map (some b):=by obtain⟨b,es,clock,h1,_⟩:=L;exact⟨b,h1⟩
 refine Spec.ej (H':=[bl g [.map (some a),pT q,.int .i64 last] 241,n,G,d]) (by simp) ?_
 refine Spec.body func110 rfl results110 ntmps110 rfl ?_
 refine .seq<|.sr<|.mo rfl ?_
 refine .br (oc g a _ _ _) (λv hv=>?_)
 subst hv
 refine .q .not<|.zn<|.bD<|.kn<|.sr<|.mo rfl<|.nc rfl<|.fa rfl<|.lo rfl<|.mo rfl ?_
 refine .call [2] (pV q _ G hQ now _) (λu H' hu=>?_)
 obtain⟨e,F,B,A',rfl,C,a0,r,K⟩:=hu
 show aH _ _ _ _ _ _ _ [e,F,bl g [.map (some a),pT q,.int .i64 last] 241,n,d] _
 have a4:=C.le
 refine .q (.hB C) ?_
 refine .mo rfl<|.zn<|.block ?_
 refine .loop (X:=Nat×List (ByteArray×TP)×ax) (λy=>(y.1<=B.length/\y.2.1=M.filter λx=>decide (x.1∉(B.map (·.1)).take y.1))/\MS (λs:ByteArray=>.string s) (λp:TP=>.agg (bB p).toArray) (.map (some a)) y.2.1 y.2.2) (λy=>[(0,pT g),(14,u),(15,.int .i64 ((B.map (·.1)).length:Nat)),(16,iN y.1)]) (λy=>[e,F,bl g [.map (some a),pT q,.int .i64 last] 241,y.2.2,d]) (λy=>B.length-y.1) (0,M,n) ⟨⟨by omega,by simp only[List.take_zero];exact(abX.2 λx _=>by simp).symm⟩,L⟩ kE.c.c.c.c rH ?_
 rintro⟨i,m,E⟩ ⟨⟨hi,w⟩,j⟩
 simp only at hi w j⊢
 refine .sr<|.q .lss<|.zs ?_
 refine .cond rfl (λo=>?_) λo=>?_
 have Q:i<(B.map (·.1)).length:=by have:=bn o;omega
 obtain⟨k,O⟩:=eh Q
 have a5:i<B.length:=by simpa using Q
 refine .kn<|.seq<|.block<|.sr ?_
 refine .au i C O (λa6=>?_)
 refine .lo rfl<|.az rfl<|.region<|.mo rfl ?_
 refine .nc rfl<|.fa rfl<|.lo rfl<|.mo rfl ?_
 refine .delete j rfl (show _=some (Value.string k)from rfl) (λV Z _=>?_)
 refine .nil<|bd<|aF<|.region ?_
 refine .ia (i+1) .add ?_
 refine .mo rfl<|.nil ?_
 ·exact aT (i+1,eG k m,V) ⟨⟨by simp only;omega,by simp only;rw[lS j.nd,w,qA,List.take_add_one,O];rfl⟩,Z⟩ (by simp only;omega) kE.c.c.c.c rH
 have a1:i=B.length:=by have:=aZ o;simp at this;omega
 have N:m=M.filter λx=>decide (now<x.2.2.du):=by
  rw[w,a1,aca (by simp)]
  refine List.filter_congr λx hx=>?_
  have S:=r.pm
  have a3:(x.1,x.2.2)∈A:=I.mem_iff.1 (kP hx)
  have U:(x.1,x.2.2.du)∈dF (λt:Tok=>t.du) A:=kP a3
  by_cases D:now<x.2.2.du
  ·have:x.1∉B.map (·.1):=λhm=>by
    obtain⟨p,l,a2⟩:=abG.1 hm
    have h5:p∈dF (λt:Tok=>t.du) A:=S.mem_iff.2 (acb _ l)
    have W:dl x.1 (dF (λt:Tok=>t.du) A)=some p.2:=gB (by rw[jS];exact J) (by rw[<-a2];exact h5)
    have H:dl x.1 (dF (λt:Tok=>t.du) A)=some x.2.2.du:=gB (by rw[jS];exact J) U
    rw[W]at H
    have h8:=r.le p l
    simp only[Option.some.injEq]at H
    omega
   rw[ab6 this,ab6 D]
  ·have:x.1∈B.map (·.1):=by
    rcases ab5.1 (S.mem_iff.1 U)with h5|h5
    ·exact abG.2 ⟨_,h5,rfl⟩
    ·exact absurd (K _ h5) D
   rw[decide_eq_false D,decide_eq_false (λhh=>hh this)]
 refine .exit<|aU<|aY<|aW ?_
 refine cF _ .none ((cu [2,2,0,1]).trans (bJ.cY (H':=[((g,.cells [.map (some a),pT q,.int .i64 last].toArray 241 (0,0))::(E++e))++d]) (by simp[take,bF]))) ?_
 ·refine⟨_,rfl,rfl,d,_,rfl,_,m,q,E,e,rfl,j,λp l=>Y p (abM.1 (N▸l)).1,?_,?_⟩
  ·rw[N, <-lN (q:=λt:Tok=>decide (now<t.du))]
   exact I.filter _
  ·refine a0.perm ((r.filter K).trans (List.Perm.of_eq ?_))
   exact lN (f:=λt:Tok=>t.du) (q:=λz:Int=>decide (now<z))
abbrev CP:Type:=CR×cU
def bG(p:CP):List Value:=p.1.cells
def mI(p:CP):Prop:=∀u∈bG p,aB u=true
def jJ(p q:CP):Int:=dn p.1.id q.1.id
theorem rI(p q:CP)(R:aC)(g:mI p)(h:mI q):Spec prog 149 [.agg (bG p).toArray,.agg (bG q).toArray] R [] λv H'=>v=.int .i64 (jJ p q)/\H'=[]:=by
 have n:cq (bG p):=⟨g⟩
 have o:cq (bG q):=⟨h⟩
 obtain⟨⟨a,j,k,l⟩,c⟩:=p
 obtain⟨⟨b,e,f,m⟩,d⟩:=q
 refine Spec.body func149 rfl results149 ntmps149 rfl ?_
 refine .sr ?_
 refine .cK rfl (λe=>?_)
 refine .cK rfl (λf=>?_)
 refine .ag rfl<|.z<|.fa rfl<|.lo rfl<|.fa rfl<|.lo rfl ?_
 refine .br (fQ a b _) (λv i=>?_)
 subst i
 refine .az rfl ?_
 refine .ret (cw rfl ?_)
 ·exact⟨rfl,rfl⟩
theorem rG:SO (ap jJ):=by
 have e:∀p q:CP,ap jJ p q=dW p.1.id q.1.id:=λp q=>by
  unfold ap jJ
  rw[abL,hJ,abF]
 exact⟨λx=>by rw[e];exact gD.cM _,λx y z a b=>by rw[e]at *;exact gD.tr _ _ _ a b,λx y z a b=>by rw[e]at *;exact gD.dN _ _ _ a b⟩
structure eQ(S:dk):Prop where
 ok:∀x∈S.rows,jx x.t=true/\1<=x.fr/\x.fr<=S.head/\(x.to=0\/(x.fr<x.to/\S.dv<x.to/\x.to<=S.head))
 pw:S.rows.Pairwise λx y=>x.t=y.t->x.to≠0/\x.to<=y.fr
 len:S.rows.length<=4096
 h0:0<=S.dv
 h1:S.dv<=S.head
 h2:S.head<=4611686018427387903
def km(S:dk)(f:bc)(r:Int):List bc:=(S.rows.filter λx=>x.there r&&oa f x.t).map (·.t)
def ff(cs:List cg)(r:Int)(x:aN):aN:=if x.to=0/\cs.any (λc=> !c.put&&decide (c.t=x.t))=true then⟨x.t,x.fr,r⟩else x
def news(cs:List cg)(r:Int):List aN:=(cs.filter (·.put)).map λc=>⟨c.t,r,0⟩
theorem lF{cs:List cg}{r:Int}{x:aN}:(ff cs r x).t=x.t/\(ff cs r x).fr=x.fr:=by unfold ff;split<;>exact⟨rfl,rfl⟩
theorem mU{cs:List cg}{r:Int}{x:aN}(h:x.to≠0):ff cs r x=x:=by unfold ff;rw[abH λa=>h a.1]
theorem rQ{r:Int}{x:aN}:ff [] r x=x:=by unfold ff;rw[abH (by simp)]
theorem qe{r:Int}(l:r≠0):∀(cs:List cg) (L:List aN),(cs.map (·.t)).Nodup->cs.foldl (fB r) L=L.map (ff cs r)++news cs r
 |[],L,_=>by
  have:L.map (ff [] r)=L:=by
   conv=>rhs;rw[<-List.map_id L]
   exact List.map_congr_left λx _=>rQ
  simp[news,this]
 |c::cs,L,hn=>by
  rw[abK,abQ]at hn
  rw[List.foldl_cons,qe l cs _ hn.2]
  have p:∀x:aN,x.t=c.t->ff cs r x=x:=λx m=>by
   unfold ff
   rw[abH]
   rintro⟨_,h⟩
   obtain⟨d,o,k⟩:=List.any_eq_true.1 h
   simp only[abJ,abF]at k
   exact hn.1 (abG.2 ⟨d,o,k.2.trans m⟩)
  cases hp:c.put with
  |true=>
   have n:ff (c::cs) r=ff cs r:=by
    funext x
    unfold ff
    simp only[List.any_cons,hp,Bool.not_true,Bool.false_and,Bool.false_or]
   have f:news (c::cs) r=⟨c.t,r,0⟩::news cs r:=by unfold news;rw[abP,abI hp];rfl
   rw[n,f]
   unfold fB
   rw[abI hp,abY,ab3]
   congr 1
   rw[abK,List.map_nil,p _ rfl];rfl
  |false=>
   have f:news (c::cs) r=news cs r:=by unfold news;rw[abP,abH (by simp[hp])]
   rw[f]
   unfold fB
   rw[abH (by simp[hp]),ab4]
   congr 1
   refine List.map_congr_left λx m=>?_
   simp only[Function.comp]
   by_cases b:x.fU c.t=true
   ·have e:x.t=c.t/\x.to=0:=by unfold aN.fU at b;simpa using b
    have g:aN.close c.t r x=⟨x.t,x.fr,r⟩:=by unfold aN.close;rw[abI b]
    rw[g,mU l]
    unfold ff
    rw[abI ⟨e.2,by simp[hp,e.1]⟩]
   ·have g:aN.close c.t r x=x:=by unfold aN.close;rw[abH b]
    rw[g]
    unfold ff
    have e:x.to=0->¬c.t=x.t:=λa i=>b (by unfold aN.fU;simp[a,i])
    by_cases a:x.to=0
    ·have i:=e a
     simp[a,hp,i]
    ·rw[abH λj=>a j.1,abH λj=>a j.1]
structure ku(S:dk)(cs:List cg):Prop where
 right:∀c∈cs,jx c.t=true
 nd:(cs.map (·.t)).Nodup
 mR:∀c∈cs,c.put=true->fu S.rows c.t=false
 there:∀c∈cs,c.put=false->fu S.rows c.t=true
 head:S.head<4611686018427387903
 len:S.rows.length+jE cs<=4096\/jE cs=0
theorem qt{L:List aN}{t:bc}:fu L t=false↔∀x∈L,x.t=t->x.to≠0:=by
 unfold fu
 rw[List.any_eq_false]
 refine forall_congr' λx=>forall_congr' λa=>?_
 unfold aN.fU
 simp
theorem pF{cs:List cg}{r:Int}{x:aN}:x∈news cs r↔∃c∈cs,c.put=true/\x=⟨c.t,r,0⟩:=by
 unfold news
 rw[abG]
 constructor
 ·rintro⟨c,a,rfl⟩
  have:=abM.1 a
  exact⟨c,this.1,this.2,rfl⟩
 ·rintro⟨c,a,b,rfl⟩
  exact⟨c,abM.2 ⟨a,b⟩,rfl⟩
theorem eQ.collect{S:dk}(a:eQ S)(h:Int):eQ (qi S h):=by
 unfold qi
 split
 ·rename_i c
  unfold scan at c
  simp only[abJ,abF]at c
  have k:=a.h0;have l:=a.h1;have d:=a.h2
  refine⟨λx j=>?_,a.pw.sublist List.filter_sublist,Nat.le_trans (List.length_filter_le _ _) a.len,by simp only;omega,by simp only;omega,d⟩
  obtain⟨i,b⟩:=abM.1 j
  obtain⟨e,f,g,m⟩:=a.ok x i
  refine⟨e,f,g,?_⟩
  unfold qo at b
  simp only[abN,abS,abF]at b
  simp only
  omega
 ·exact a
theorem eQ.Ey{S:dk}(c:eQ S)(f:bc)(r:Int):(km S f r).Nodup:=by
 unfold km
 rw[List.Nodup,ab7]
 refine(c.pw.filter _).imp_of_mem λ{x y} e h g d=>?_
 obtain⟨i,j⟩:=g d
 have a:=(abM.1 e).2
 have b:=(abM.1 h).2
 unfold aN.there at a b
 simp only[abJ,abF,abN,abS]at a b
 omega
set_option linter.unusedSimpArgs false
theorem Ei{cs:List cg}{i:Nat}:jE (cs.take i)<=jE cs:=(List.Sublist.filter _ (ace i cs)).length_le
theorem ku.take{S:dk}{cs:List cg}(h:ku S cs)(i:Nat):ku S (cs.take i):=by
 have b:∀c∈cs.take i,c∈cs:=λc a=>(ace i cs).subset a
 refine⟨λc a=>h.right c (b c a),h.nd.sublist ((ace i cs).map _),λc a=>h.mR c (b c a),λc a=>h.there c (b c a),h.head,?_⟩
 have d:=h.len
 have e:=Ei (cs:=cs) (i:=i)
 omega
theorem eQ.fold{S:dk}(a:eQ S){cs:List cg}(d:ku S cs):eQ ⟨cs.foldl (fB (S.head+1)) S.rows,S.head+1,S.dv⟩:=by
 have n:=a.h0;have u:=a.h1;have v:=a.h2;have w:=d.head
 rw[qe (by omega) _ _ d.nd]
 refine⟨λx hx=>?_,?_,?_,n,by simp only;omega,by simp only;omega⟩
 ·simp only at hx⊢
  rcases ab5.1 hx with hx|hx
  ·obtain⟨y,i,rfl⟩:=abG.1 hx
   obtain⟨o,p,A,b4⟩:=a.ok y i
   obtain⟨e,f⟩:=lF (cs:=cs) (r:=S.head+1) (x:=y)
   rw[e,f]
   refine⟨o,p,by omega,?_⟩
   unfold ff
   split
   ·right;simp only;omega
   ·rcases b4 with b4|b4
    ·exact .inl b4
    ·right;omega
  ·obtain⟨c,g,l,rfl⟩:=pF.1 hx
   exact⟨d.right c g,by simp only;omega,by simp only;omega,.inl rfl⟩
 ·simp only
  rw[List.pairwise_append]
  refine⟨?_,?_,λx hx y i=>?_⟩
  ·rw[ab7]
   refine a.pw.imp λ{x y} h b=>?_
   obtain⟨e,f⟩:=lF (cs:=cs) (r:=S.head+1) (x:=x)
   obtain⟨q,s⟩:=lF (cs:=cs) (r:=S.head+1) (x:=y)
   rw[e,q]at b
   obtain⟨j,t⟩:=h b
   rw[mU j,s]
   exact⟨j,t⟩
  ·unfold news
   rw[ab7]
   have:=d.nd
   rw[List.Nodup,ab7]at this
   exact(this.sublist List.filter_sublist).imp λ{x y} h b=>absurd b h
  ·intro b
   obtain⟨z,m,rfl⟩:=abG.1 hx
   obtain⟨c,g,l,rfl⟩:=pF.1 i
   obtain⟨e,f⟩:=lF (cs:=cs) (r:=S.head+1) (x:=z)
   rw[e]at b
   have k:=qt.1 (d.mR c g l) z m b
   rw[mU k]
   refine⟨k,?_⟩
   obtain⟨_,_,_,B⟩:=a.ok z m
   simp only
   omega
 ·simp only[List.length_append,List.length_map,news]
  have C:=a.len
  have:=d.len
  unfold jE at this
  omega
theorem C8{t u:bc}{r:Int}{x:aN}(h:u≠t):(aN.close u r x).fU t=x.fU t:=by
 unfold aN.close
 split
 ·rename_i a
  unfold aN.fU at a⊢
  simp only[abJ,abF]at a
  have b:¬x.t=t:=λe=>h (a.1.symm.trans e)
  simp[b]
 ·rfl
theorem qu{r:Int}{t:bc}:∀(cs:List cg) (L:List aN),t∉cs.map (·.t)->fu (cs.foldl (fB r) L) t=fu L t
 |[],_,_=>rfl
 |c::cs,L,h=>by
  rw[abK,abR,not_or]at h
  rw[List.foldl_cons,qu cs _ h.2]
  unfold fB fu
  split
  ·rw[List.any_append]
   have:aN.fU t ⟨c.t,r,0⟩=false:=by
    unfold aN.fU
    have a:¬c.t=t:=λe=>h.1 e.symm
    simp[a]
   simp[this]
  ·rw[List.any_map]
   congr 1
   funext x
   exact C8 λe=>h.1 e.symm
abbrev RB:Type:=Nat×aN
def sk(p:RB):List Value:=iX p.1
theorem RS.of_map{α β:Type}{R:aC}{sz:Nat}{enc:α->List Value}{f:β->α}{v:Value}{xs:List β}(h:RS R sz enc v (xs.map f)):RS R sz (λx=>enc (f x)) v xs:=by
 refine⟨λx a=>h.len _ (abG.2 ⟨x,a,rfl⟩),λx a=>h.one _ (abG.2 ⟨x,a,rfl⟩),?_⟩
 obtain⟨p,g,d,e,j,h4⟩:=h.h
 rw[List.length_map]at d e
 refine⟨p,g,d,e,j,?_⟩
 rcases h4 with h4|⟨b,n,c,E,i,k,l,m⟩
 ·exact .inl (List.map_eq_nil_iff.1 h4)
 ·exact .inr ⟨b,n,c,E,i,k,l,by rwa [List.flatMap_map]at m⟩
def nG(x:aN):Obj:=.cells x.enc.toArray 152 (0,0)
def ml(ps:List RB):ax:=ps.map λp=>(p.1,nG p.2)
def ids{κ:Type} [DecidableEq κ](key:aN->κ)(k:κ)(ps:List RB):List Nat:=(ps.filter λx=>decide (key x.2=k)).map (·.1)
section
variable{κ:Type} [DecidableEq κ]{encK:κ->Value}{key:aN->κ}
structure fO(encK:κ->Value)(key:aN->κ)(ps:List RB)(vm:Value)(M:List (κ×(Value×ax)))(Tm Ts:ax):Prop where
 ms:MS encK (λp:Value×ax=>p.1) vm M Tm
 pm:Ts.Perm (M.flatMap λp=>p.2.2)
 os:∀p∈M,OS 248 1 iX p.2.1 (ids key p.1 ps) p.2.2
 ne:∀p∈M,ids key p.1 ps≠[]
 al:∀x∈ps,key x.2∈M.map (·.1)
theorem Cz{k:κ}{ps:List RB}(h:∀x∈ps,key x.2≠k):ids key k ps=[]:=by
 unfold ids
 rw[List.filter_eq_nil_iff.2 λx a=>by simpa using h x a];rfl
theorem fO.nil{b:Nat}:fO encK key [] (.map (some b)) [] [(b,.map #[] 0)] []:=⟨MS.nil,by simp,by simp,by simp,by simp⟩
theorem fO.get{ps:List RB}{vm:Value}{M:List (κ×(Value×ax))}{f a:ax}(h:fO encK key ps vm M f a)(k:κ):∃v Tk Tr,((dl k M).map λp:Value×ax=>p.1).getD (sZ)=v/\OS 248 1 iX v (ids key k ps) Tk/\a.Perm (Tk++Tr)/\(∀v' Tk',((hE k (v',Tk') M).flatMap λp=>p.2.2).Perm (Tk'++Tr)):=by
 cases hm:dl k M with
 |none=>
  have d:=pC.1 hm
  have i:ids key k ps=[]:=Cz λx j g=>d (g▸h.al x j)
  refine⟨sZ,[],a,rfl,by rw[i];exact OS.nil,.refl _,λv' Tk'=>?_⟩
  rw[pD d,ab8]
  exact(abW).trans (by simpa using h.pm.symm.append_left Tk')
 |some p=>
  obtain⟨v,Tk⟩:=p
  have e:=jy hm
  obtain⟨X,Y,c⟩:=List.append_of_mem e
  have b:=h.ms.nd
  refine⟨v,Tk,(X.flatMap λp=>p.2.2)++(Y.flatMap λp=>p.2.2),rfl,h.os _ e,?_,λv' Tk'=>?_⟩
  ·refine h.pm.trans ?_
   rw[c,ab8,List.flatMap_cons]
   exact List.perm_append_comm_assoc _ _ _
  ·refine((pE b).flatMap_right _).trans ?_
   unfold kQ
   rw[c]at b⊢
   rw[CC b,ab8,ab8]
   simp only[List.flatMap_cons,List.flatMap_nil,abU]
   exact abW
theorem fO.rows{ps qs:List RB}{vm:Value}{M:List (κ×(Value×ax))}{b c:ax}(h:fO encK key ps vm M b c)(f:qs.map (λp=>(p.1,key p.2))=ps.map (λp=>(p.1,key p.2))):fO encK key qs vm M b c:=by
 have d:∀k,ids key k qs=ids key k ps:=λk=>by
  have e:∀L:List RB,ids key k L=((L.map λp=>(p.1,key p.2)).filter λp=>decide (p.2=k)).map (·.1):=λL=>by
   unfold ids
   rw[List.filter_map,ab4];rfl
  rw[e,e,f]
 refine⟨h.ms,h.pm,λp a=>by rw[d];exact h.os p a,λp a=>by rw[d];exact h.ne p a,λx i=>?_⟩
 have:(x.1,key x.2)∈ps.map (λp=>(p.1,key p.2)):=f▸abG.2 ⟨x,i,rfl⟩
 obtain⟨y,j,l⟩:=abG.1 this
 have g:key y.2=key x.2:=congrArg Prod.snd l
 rw[<-g]
 exact h.al y j
end
def SI(g:Nat)(S:dk)(T:ax):Prop:=∃ps vf vr Mf Mr Tf Tr Sf Sr,T=(g,.cells [.bool true,.int .u64 S.head,.int .u64 S.dv,iN ps.length,vf,vr].toArray 182 (0,0))::(Tf++(Sf++(Tr++(Sr++ml ps))))/\
 fO (λk:eB=>.agg k.enc.toArray) (λx=>x.t.dU) ps vf Mf Tf Sf/\fO (λk:Sub=>.agg k.enc.toArray) (λx=>x.t.sub) ps vr Mr Tr Sr/\ps.map (·.2)=S.rows
theorem pd(a:Int)(R:aC):Spec prog 463 [.int .i64 a] R [] λu H'=>u=.bool false/\H'=[]:=by
 refine Spec.body func463 rfl results463 ntmps463 rfl ?_
 refine .sr<|.ag rfl<|.z<|.mo rfl<|.mo rfl<|.q .fo<|.az rfl ?_
 refine .ret (cw rfl ?_)
 ·exact⟨by simp,rfl⟩
theorem rW(a b:Int)(R:aC):Spec prog 452 [.int .i64 a,.int .i64 b] R [] λu H'=>u=.int .i64 (ed a b)/\H'=[]:=by
 refine Spec.body func452 rfl results452 ntmps452 rfl ?_
 refine .sr<|.ag rfl<|.z<|.mo rfl ?_
 refine .br (pd a _) (λv e=>?_)
 subst e
 refine .ag rfl<|.z<|.mo rfl ?_
 refine .br (pd b _) (λv e=>?_)
 subst e
 refine .ag rfl<|.zs<|.sr<|.mo rfl<|.zn<|.bD<|.kn<|.seq<|.sr<|.mo rfl<|.zn<|.bD<|.kn<|.seq<|.sr<|.mo rfl<|.mo rfl<|.q .lss<|.zn ?_
 refine .cond rfl (λc=>?_) λc=>?_
 refine .sr<|.az rfl ?_
 refine .ret (bs (cw rfl ?_))
 ·refine⟨?_,rfl⟩
  simp at c
  try simp at d
  unfold ed
  congr 1
  split
  ·first|rfl|omega
  ·first|rfl|(exfalso;omega)|(split<;>first|rfl|omega)
 refine .kn<|.seq<|.sr<|.mo rfl<|.mo rfl<|.q .gtr<|.zn ?_
 refine .cond rfl (λd=>?_) λd=>?_
 refine .sr<|.az rfl ?_
 refine .ret (bs (cw rfl ?_))
 ·refine⟨?_,rfl⟩
  simp at c
  try simp at d
  unfold ed
  congr 1
  split
  ·first|rfl|omega
  ·first|rfl|(exfalso;omega)|(split<;>first|rfl|omega)
 refine .kn<|.sr<|.az rfl ?_
 refine .ret (cw rfl ?_)
 ·refine⟨?_,rfl⟩
  simp at c
  try simp at d
  unfold ed
  congr 1
  split
  ·first|rfl|omega
  ·first|rfl|(exfalso;omega)|(split<;>first|rfl|omega)
theorem pf(a:Int)(R:aC):Spec prog 362 [.int .u64 a] R [] λu H'=>u=.bool false/\H'=[]:=by
 refine Spec.body func362 rfl results362 ntmps362 rfl ?_
 refine .sr<|.ag rfl<|.z<|.mo rfl<|.mo rfl<|.q .fo<|.az rfl ?_
 refine .ret (cw rfl ?_)
 ·exact⟨by simp,rfl⟩
theorem rX(a b:Int)(R:aC):Spec prog 240 [.int .u64 a,.int .u64 b] R [] λu H'=>u=.int .i64 (ed a b)/\H'=[]:=by
 refine Spec.body func240 rfl results240 ntmps240 rfl ?_
 refine .sr<|.ag rfl<|.z<|.mo rfl ?_
 refine .br (pf a _) (λv e=>?_)
 subst e
 refine .ag rfl<|.z<|.mo rfl ?_
 refine .br (pf b _) (λv e=>?_)
 subst e
 refine .ag rfl<|.zs<|.sr<|.mo rfl<|.zn<|.bD<|.kn<|.seq<|.sr<|.mo rfl<|.zn<|.bD<|.kn<|.seq<|.sr<|.mo rfl<|.mo rfl<|.q .lss<|.zn ?_
 refine .cond rfl (λc=>?_) λc=>?_
 refine .sr<|.az rfl ?_
 refine .ret (bs (cw rfl ?_))
 ·refine⟨?_,rfl⟩
  simp at c
  try simp at d
  unfold ed
  congr 1
  split
  ·first|rfl|omega
  ·first|rfl|(exfalso;omega)|(split<;>first|rfl|omega)
 refine .kn<|.seq<|.sr<|.mo rfl<|.mo rfl<|.q .gtr<|.zn ?_
 refine .cond rfl (λd=>?_) λd=>?_
 refine .sr<|.az rfl ?_
 refine .ret (bs (cw rfl ?_))
 ·refine⟨?_,rfl⟩
  simp at c
  try simp at d
  unfold ed
  congr 1
  split
  ·first|rfl|omega
  ·first|rfl|(exfalso;omega)|(split<;>first|rfl|omega)
 refine .kn<|.sr<|.az rfl ?_
 refine .ret (cw rfl ?_)
 ·refine⟨?_,rfl⟩
  simp at c
  try simp at d
  unfold ed
  congr 1
  split
  ·first|rfl|omega
  ·first|rfl|(exfalso;omega)|(split<;>first|rfl|omega)
def bc.fits(t:bc):Prop:=t.os.size<=9223372036854775807/\t.oi.size<=9223372036854775807/\t.rel.size<=9223372036854775807/\t.us.size<=9223372036854775807/\t.ss.size<=9223372036854775807/\t.si.size<=9223372036854775807/\t.sr.size<=9223372036854775807
theorem pY(s:Sub)(R:aC):Spec prog 453 [.agg s.enc.toArray] R [] λv H'=>v=.int .i64 (hK s.us)/\H'=[]:=by
 refine Spec.body func453 rfl results453 ntmps453 rfl ?_
 refine .sr ?_
 refine .cK rfl (λc=>?_)
 refine .ag rfl<|.zs<|.sr<|.fa rfl<|.lo rfl<|.q .CT<|.zn ?_
 refine .cond rfl (λa=>?_) λa=>?_
 refine .sr<|.az rfl ?_
 refine .ret (bs (cw rfl ?_))
 ·have b:¬s.us=⟨#[]⟩:=by simpa using a
  exact⟨by unfold hK;rw[abH b],rfl⟩
 refine .kn<|.sr<|.az rfl ?_
 refine .ret (cw rfl ?_)
 ·have b:s.us=⟨#[]⟩:=by simpa using a
  exact⟨by unfold hK;rw[abI b],rfl⟩
theorem Ew(a b:bc)(R:aC):Spec prog 424 [.agg a.enc.toArray,.agg b.enc.toArray] R [] λv H'=>v=.int .i64 (gG a b)/\H'=[]:=by
 obtain⟨o,p,q,e,g,h,i⟩:=a
 obtain⟨r,s,t,f,l,m,n⟩:=b
 have A:cq (Sub.enc ⟨e,g,h,i⟩):=inferInstance
 have B:cq (Sub.enc ⟨f,l,m,n⟩):=inferInstance
 refine Spec.body func424 rfl results424 ntmps424 rfl ?_
 refine .sr ?_
 refine .cK rfl (λu=>?_)
 refine .cK rfl (λw=>?_)
 refine .ag rfl<|.zs ?_
 refine bj.cut (X:=Nat×Nat) (λ_=>True) (λy=>[(2,pT u),(3,pT w),(5,.pointer (some ⟨y.1,0,none⟩)),(6,.pointer (some ⟨y.2,0,none⟩))]) (λy=>[[(y.1,.cells (Sub.enc ⟨e,g,h,i⟩).toArray 71 (0,0))],[(y.2,.cells (Sub.enc ⟨f,l,m,n⟩).toArray 71 (0,0))],bl w (bc.enc ⟨r,s,t,f,l,m,n⟩) 73,bl u (bc.enc ⟨o,p,q,e,g,h,i⟩) 73]) ?_ ?_
 refine .ki [] [6,7] mixed ?_
 conv=>arg 3;simp only[take,rest,bF,ab2,acf]
 conv=>arg 5;simp only[take,rest,bF,ab2,acf]
 conv=>arg 9;simp only[take,rest,bF,ab2,acf]
 refine .tO 0 rfl (.fieldAddr rfl) ?_
 refine .tO 1 rfl (.loadT rfl) ?_
 refine .tK 2 rfl (.dB rfl) ?_
 refine .tK 3 rfl (.loadT rfl) ?_
 refine RA.Em 4 5 rfl rfl (by kernel_rfl) rfl ?_ ?_
 refine .cZ (λj=>?_)
 refine .nil (Next.sub ?_)
 refine .sT 5 rfl ?_
 refine .cZ (λk=>?_)
 refine .nil (Next.sub ?_)
 refine .sT 6 rfl ?_
 refine .cW rfl rfl ?_
 refine .nil (Next.mod rfl ?_)
 refine .sT 7 rfl ?_
 refine .cW rfl rfl ?_
 refine .nil (Next.mod rfl ?_)
 refine RA.nil (by kernel_rfl) ?_
 ·first
   |exact aw (j,k) trivial kE.c.c.c.c (cu [1,0,0,0])
   |exact aw (j,k) trivial kE.c.c.c.c (cu [0,0,0,0])
 refine .cZ (λk=>?_)
 refine .nil (Next.sub ?_)
 refine .sT 4 rfl ?_
 refine .cZ (λj=>?_)
 refine .nil (Next.sub ?_)
 refine .sT 6 rfl ?_
 refine .cW rfl rfl ?_
 refine .nil (Next.mod rfl ?_)
 refine .sT 7 rfl ?_
 refine .cW rfl rfl ?_
 refine .nil (Next.mod rfl ?_)
 refine RA.nil (by kernel_rfl) ?_
 ·first
   |exact aw (j,k) trivial kE.c.c.c.c (cu [1,0,0,0])
   |exact aw (j,k) trivial kE.c.c.c.c (cu [0,0,0,0])
 intro y z
 obtain⟨j,k⟩:=y
 simp only
 refine aF<|.seq<|.bK [] mixed ?_
 refine .tO 0 rfl (.fieldAddr rfl)<|.tO 1 rfl (.fieldAddr rfl)<|.tO 2 rfl (.bN rfl)<|.tO 3 rfl (.fieldAddr rfl)<|.tO 4 rfl (.fieldAddr rfl)<|.tO 5 rfl (.bN rfl)<|.tO 7 rfl (.fieldAddr rfl)<|.tO 8 rfl (.fieldAddr rfl)<|.tO 9 rfl (.bN rfl)<|.tO 10 rfl (.fieldAddr rfl)<|.tO 11 rfl (.fieldAddr rfl)<|.tO 12 rfl (.bN rfl)<|.tO 14 rfl (.fieldAddr rfl)<|.tO 15 rfl (.bN rfl)<|.tO 16 rfl (.fieldAddr rfl)<|.tO 17 rfl (.bN rfl)<|.tO 19 rfl (.aD rfl)<|.tO 21 rfl (.aD rfl)<|.tO 24 rfl (.fieldAddr rfl)<|.tO 25 rfl (.bN rfl)<|.tO 26 rfl (.fieldAddr rfl)<|.tO 27 rfl (.bN rfl)<|.tO 29 rfl (.fieldAddr rfl)<|.tO 30 rfl (.fieldAddr rfl)<|.tO 31 rfl (.bN rfl)<|.tO 32 rfl (.fieldAddr rfl)<|.tO 33 rfl (.fieldAddr rfl)<|.tO 34 rfl (.bN rfl)<|.tO 36 rfl (.fieldAddr rfl)<|.tO 37 rfl (.fieldAddr rfl)<|.tO 38 rfl (.bN rfl)<|.tO 39 rfl (.fieldAddr rfl)<|.tO 40 rfl (.fieldAddr rfl)<|.tO 41 rfl (.bN rfl)<|.tO 43 rfl (.fieldAddr rfl)<|.tO 44 rfl (.bN rfl)<|.tO 45 rfl (.fieldAddr rfl)<|.tO 46 rfl (.bN rfl) ?_
 refine .sT 6 rfl ?_
 refine .br (fQ o r _) (λv d=>?_)
 subst d
 refine .nil (Next.sub ?_)
 refine .sT 13 rfl ?_
 refine .br (fQ p s _) (λv d=>?_)
 subst d
 refine .nil (Next.sub ?_)
 refine .sT 18 rfl ?_
 refine .br (fQ q t _) (λv d=>?_)
 subst d
 refine .nil (Next.sub ?_)
 refine .sT 20 rfl ?_
 refine .br (pY ⟨e,g,h,i⟩ _) (λv d=>?_)
 subst d
 refine .nil (Next.sub ?_)
 refine .sT 22 rfl ?_
 refine .br (pY ⟨f,l,m,n⟩ _) (λv d=>?_)
 subst d
 refine .nil (Next.sub ?_)
 refine .sT 23 rfl ?_
 refine .br (rW (hK e) (hK f) _) (λv d=>?_)
 subst d
 refine .nil (Next.sub ?_)
 refine .sT 28 rfl ?_
 refine .br (fQ e f _) (λv d=>?_)
 subst d
 refine .nil (Next.sub ?_)
 refine .sT 35 rfl ?_
 refine .br (fQ g l _) (λv d=>?_)
 subst d
 refine .nil (Next.sub ?_)
 refine .sT 42 rfl ?_
 refine .br (fQ h m _) (λv d=>?_)
 subst d
 refine .nil (Next.sub ?_)
 refine .sT 47 rfl ?_
 refine .br (fQ i n _) (λv d=>?_)
 subst d
 refine .nil (Next.sub ?_)
 refine .sT 48 rfl ?_
 refine .jn [_,_,_,_,_,_,_,_] (λx=>?_)
 refine .nil (Next.sub ?_)
 refine .sT 49 rfl ?_
 refine .br (lX _ [dn o r,dn p s,dn q t,ed (hK e) (hK f),dn e f,dn g l,dn h m,dn i n] _ (RS.lits rfl (by simp[ig]) (by simp[ig,aB]))) (λv d=>?_)
 subst d
 refine .nil (Next.sub ?_)
 refine .tO 50 rfl .assign ?_
 refine RA.nil (by kernel_rfl) ?_
 refine aF ?_
 refine .ret (cw rfl ?_)
 ·exact⟨rfl,rfl⟩
theorem qD(a b:bc)(R:aC):Spec prog 361 [.agg a.enc.toArray,.agg b.enc.toArray] R [] λv H'=>v=.bool (dQ a b)/\H'=[]:=by
 refine Spec.body func361 rfl results361 ntmps361 rfl ?_
 refine .sr ?_
 refine .cK rfl (λd=>?_)
 refine .cK rfl (λe=>?_)
 refine .ag rfl<|.z<|.q (.aD rfl)<|.q (.aD rfl) ?_
 refine .br (Ew a b _) (λv c=>?_)
 subst c
 refine .q .lss<|.az rfl ?_
 refine .ret (cw rfl ?_)
 ·exact⟨rfl,rfl⟩
def fS{κ:Type} [DecidableEq κ](key:aN->κ)(k:κ)(ps:List RB):List RB:=ps.filter λx=>decide (key x.2=k)
theorem Cy{κ:Type} [DecidableEq κ]{key:aN->κ}{k:κ}{ps:List RB}:ids key k ps=(fS key k ps).map (·.1):=rfl
theorem fO.look{κ:Type} [DecidableEq κ]{encK:κ->Value}{key:aN->κ}{ps:List RB}{vm:Value}{M:List (κ×(Value×ax))}{d a:ax}{R:aC}(h:fO encK key ps vm M d a)(j:∀p∈a,R p.1 p.2)(k:κ):∃p c,((dl k M).map λp:Value×ax=>p.1).getD (sZ)=.slice p (ids key k ps).length c/\RS R 1 iX (.slice p (ids key k ps).length c) (ids key k ps):=by
 obtain⟨v,m,n,f,g,i,_⟩:=h.get k
 have b:RS R 1 iX v (ids key k ps):=g.rs λp l=>j p (i.mem_iff.2 (acb _ l))
 obtain⟨p,c,e⟩:=b.val
 subst e
 exact⟨p,c,f,b⟩
structure SV(R:aC)(g:Nat)(S:dk)(ps:List RB)(vf vr:Value)(Mf:List (eB×(Value×ax)))(Mr:List (Sub×(Value×ax))):Prop where
 pc:PC R (pT g) [.bool true,.int .u64 S.head,.int .u64 S.dv,iN ps.length,vf,vr]
 of:One vf
 or:One vr
 mf:RM R (λk:eB=>.agg k.enc.toArray) (λp:Value×ax=>p.1) vf Mf
 mr:RM R (λk:Sub=>.agg k.enc.toArray) (λp:Value×ax=>p.1) vr Mr
 lf:∀k,∃p c,((dl k Mf).map λp:Value×ax=>p.1).getD (sZ)=.slice p (ids (λx=>x.t.dU) k ps).length c/\RS R 1 iX (.slice p (ids (λx=>x.t.dU) k ps).length c) (ids (λx=>x.t.dU) k ps)
 lr:∀k,∃p c,((dl k Mr).map λp:Value×ax=>p.1).getD (sZ)=.slice p (ids (λx=>x.t.sub) k ps).length c/\RS R 1 iX (.slice p (ids (λx=>x.t.sub) k ps).length c) (ids (λx=>x.t.sub) k ps)
 af:∀x∈ps,x.2.t.dU∈Mf.map (·.1)
 nf:(Mf.map (·.1)).Nodup
 pr:∀p∈ps,PC R (.pointer (some ⟨p.1,0,none⟩)) p.2.enc
 eq:ps.map (·.2)=S.rows
theorem SV.mono{R R':aC}{g:Nat}{S:dk}{ps:List RB}{vf m:Value}{j:List (eB×(Value×ax))}{l:List (Sub×(Value×ax))}(h:SV R g S ps vf m j l)(e:∀b o,R b o->R' b o):SV R' g S ps vf m j l:=by
 refine⟨h.pc.mono e,h.of,h.or,?_,?_,λk=>?_,λk=>?_,h.af,h.nf,λp n=>(h.pr p n).mono e,h.eq⟩
 ·obtain⟨b,f,c,a,d,i⟩:=h.mf
  exact⟨b,f,c,a,e _ _ d,i⟩
 ·obtain⟨b,f,c,a,d,i⟩:=h.mr
  exact⟨b,f,c,a,e _ _ d,i⟩
 ·obtain⟨p,c,a,d⟩:=h.lf k
  exact⟨p,c,a,d.mono e⟩
 ·obtain⟨p,c,a,d⟩:=h.lr k
  exact⟨p,c,a,d.mono e⟩
theorem SI.view{g:Nat}{S:dk}{T:ax}{R:aC}(h:SI g S T)(b:∀p∈T,R p.1 p.2):∃ps vf vr Mf Mr,SV R g S ps vf vr Mf Mr:=by
 obtain⟨ps,vf,vr,Mf,Mr,j,l,f,i,rfl,c,d,e⟩:=h
 refine⟨ps,vf,vr,Mf,Mr,⟨PC.of (E:=182) (fr:=(0,0)) (b (g,_) (by simp)),c.ms.one,d.ms.one,c.ms.rm λp a=>b p (by simp[a]),d.ms.rm λp a=>b p (by simp[a]),λk=>c.look (λp a=>b p (by simp[a])) k,λk=>d.look (λp a=>b p (by simp[a])) k,c.al,c.ms.nd,λp a=>?_,e⟩⟩
 exact PC.of (E:=152) (fr:=(0,0)) (b (p.1,nG p.2) (by
  have:(p.1,nG p.2)∈ml ps:=abG.2 ⟨p,a,rfl⟩
  simp[this]))
theorem Ee(g:Nat)(R:aC)(a b c d e:Value) [i1:One a] [i2:One b] [f:One c] [h:One d] [i:One e] [pc:PC R (pT g) [.bool true,a,b,c,d,e]]:Spec prog 108 [pT g] R [] λv H'=>v=.bool true/\H'=[]:=by
 refine Spec.body func108 rfl results108 ntmps108 rfl ?_
 refine .sr<|.ag rfl<|.z<|.mo rfl<|.q (.iy rfl rfl) ?_
 refine .mo rfl<|.gt rfl ?_
 refine .mo rfl<|.gt rfl ?_
 refine .nc rfl<|.gt rfl ?_
 refine .fa rfl<|.gt rfl ?_
 refine .lo rfl<|.q .fV<|.az rfl ?_
 refine .ret (cw rfl ?_)
 ·exact⟨rfl,rfl⟩
section
variable{R:aC}{g:Nat}{S:dk}{ps:List RB}{vf vr:Value}{Mf:List (eB×(Value×ax))}{Mr:List (Sub×(Value×ax))}
theorem SV.ok(h:SV R g S ps vf vr Mf Mr):Spec prog 108 [pT g] R [] λv H'=>v=.bool true/\H'=[]:=by
 have:=h.pc
 have:=h.of
 have:=h.or
 exact Ee g R _ _ _ _ _
theorem SV.head(h:SV R g S ps vf vr Mf Mr):Spec prog 58 [pT g] R [] λv H'=>v=.int .u64 S.head/\H'=[]:=by
 have d:=h.pc
 refine Spec.body func58 rfl results58 ntmps58 rfl ?_
 refine .sr<|.ag rfl<|.zs<|.sr<|.mo rfl ?_
 refine .br (h.mono λb o a=>.inl a).ok (λv c=>?_)
 subst c
 refine .q .not<|.zn<|.bD<|.kn<|.sr<|.mo rfl<|.nc rfl<|.fa rfl<|.lo rfl<|.az rfl ?_
 refine .ret (cw rfl ?_)
 ·exact⟨rfl,rfl⟩
theorem SV.Cx(h:SV R g S ps vf vr Mf Mr):Spec prog 87 [pT g] R [] λv H'=>v=.int .u64 S.dv/\H'=[]:=by
 have d:=h.pc
 refine Spec.body func87 rfl results87 ntmps87 rfl ?_
 refine .sr<|.ag rfl<|.zs<|.sr<|.mo rfl ?_
 refine .br (h.mono λb o a=>.inl a).ok (λv c=>?_)
 subst c
 refine .q .not<|.zn<|.bD<|.kn<|.sr<|.mo rfl<|.nc rfl<|.fa rfl<|.lo rfl<|.az rfl ?_
 refine .ret (cw rfl ?_)
 ·exact⟨rfl,rfl⟩
end
theorem Ed(R:aC):Spec prog 105 [] R [] λv H'=>∃T,H'=[T]/\∃g,v=pT g/\SI g ⟨[],0,0⟩ T:=by
 refine Spec.body func105 rfl results105 ntmps105 rfl ?_
 refine .sr<|.ag rfl<|.z ?_
 refine .makeMap (λa=>?_)
 refine .makeMap (λb=>?_)
 refine .q .dA ?_
 refine .cK rfl (λc=>?_)
 refine .az rfl ?_
 refine .ret (ba _ (.one (.tmp rfl)) ((cu [0,1,0]).trans (bJ.cY (H':=[(c,.cells [.bool true,.int .u64 0,.int .u64 0,.int .i64 0,.map (some a),.map (some b)].toArray 182 (0,0))::([(a,.map #[] 0)]++([]++([(b,.map #[] 0)]++([]++ml []))))]) (by simp[take,bF,cx,ml]))) ?_)
 ·exact⟨_,rfl,c,rfl,[],_,_,[],[],_,_,_,_,rfl,fO.nil,fO.nil,rfl⟩
def ol(ps:List RB)(S:dk)(t:bc)(u:Value):Prop:=(∃b x,(b,x)∈ps/\x.fU t=true/\u=pT b)\/(fu S.rows t=false/\u=.pointer none)
theorem ol.ptr{ps:List RB}{S:dk}{t:bc}{u:Value}(h:ol ps S t u)(d:ps.map (·.2)=S.rows):∃o,u=.pointer o/\fu S.rows t= !o.isNone:=by
 rcases h with⟨b,x,a,c,rfl⟩|⟨a,rfl⟩
 ·exact⟨_,rfl,by rw[fu,List.any_eq_true.2 ⟨x,d▸abG.2 ⟨_,a,rfl⟩,c⟩];rfl⟩
 ·exact⟨_,rfl,by rw[a];rfl⟩
theorem SI.cells{g:Nat}{S:dk}{T:ax}(h:SI g S T):∃n vf vr Rest,One vf/\One vr/\T=(g,.cells [.bool true,.int .u64 S.head,.int .u64 S.dv,.int .i64 n,vf,vr].toArray 182 (0,0))::Rest/\∀head dv,SI g ⟨S.rows,head,dv⟩ ((g,.cells [.bool true,.int .u64 head,.int .u64 dv,.int .i64 n,vf,vr].toArray 182 (0,0))::Rest):=by
 obtain⟨l,vf,vr,c,d,i,j,e,f,rfl,a,b,k⟩:=h
 exact⟨_,vf,vr,_,a.ms.one,b.ms.one,rfl,λhead dv=>⟨l,vf,vr,c,d,i,j,e,f,rfl,a,b,k⟩⟩
abbrev NP:Type:=Value×(eg×List ByteArray)
def bE(p:NP):List Value:=[.string p.2.1.1,.string p.2.1.2,p.1]
def iS(R:aC)(p:NP):Prop:=RS R 1 cR p.1 p.2.2
theorem iS.mono{R R':aC}{p:NP}(h:iS R p)(a:∀b o,R b o->R' b o):iS R' p:=RS.mono h a
theorem iS.cL{R:aC}{p:NP}(h:iS R p):∀u∈bE p,aB u=true:=by
 have b:=h.aB.h
 intro u a
 simp only[bE,abR,acd,or_false]at a
 rcases a with rfl|rfl|rfl<;>first|rfl|assumption
def mL(p:NP):Prop:=∀u∈bE p,aB u=true
def qP(a b:eg):Int:=dO [dn a.1 b.1,dn a.2 b.2]
def lT(p q:NP):Int:=qP p.2.1 q.2.1
theorem EV:dC qP:=dC.cons (iJ.map λp:eg=>p.1) (dC.cons (iJ.map λp:eg=>p.2) dC.nil)
theorem CS:dC lT:=EV.map λp:NP=>p.2.1
theorem rf(p q:NP)(R:aC)(b:mL p)(c:mL q):Spec prog 154 [.agg (bE p).toArray,.agg (bE q).toArray] R [] λv H'=>v=.int .i64 (lT p q)/\H'=[]:=by
 have g:cq (bE p):=⟨b⟩
 have h:cq (bE q):=⟨c⟩
 refine Spec.body func154 rfl results154 ntmps154 rfl ?_
 refine .sr ?_
 refine .cK rfl (λe=>?_)
 refine .cK rfl (λf=>?_)
 refine .ag rfl<|.zs<|.bK [] mixed ?_
 refine .tO 0 rfl (.fieldAddr rfl)<|.tO 1 rfl (.bN rfl)<|.tO 2 rfl (.fieldAddr rfl)<|.tO 3 rfl (.bN rfl)<|.tO 5 rfl (.fieldAddr rfl)<|.tO 6 rfl (.bN rfl)<|.tO 7 rfl (.fieldAddr rfl)<|.tO 8 rfl (.bN rfl) ?_
 refine .sT 4 rfl ?_
 refine .br (fQ p.2.1.1 q.2.1.1 _) (λv a=>?_)
 subst a
 refine .nil (Next.sub ?_)
 refine .sT 9 rfl ?_
 refine .br (fQ p.2.1.2 q.2.1.2 _) (λv a=>?_)
 subst a
 refine .nil (Next.sub ?_)
 refine .sT 10 rfl ?_
 refine .jn [_,_] (λd=>?_)
 refine .nil (Next.sub ?_)
 refine .sT 11 rfl ?_
 refine .br (lX _ [dn p.2.1.1 q.2.1.1,dn p.2.1.2 q.2.1.2] _ (RS.lits rfl (by simp[ig]) (by simp[ig,aB]))) (λv a=>?_)
 subst a
 refine .nil (Next.sub ?_)
 refine .tO 12 rfl .assign ?_
 refine RA.nil (by kernel_rfl) ?_
 refine aF ?_
 refine .ret (cw rfl ?_)
 ·exact⟨rfl,rfl⟩
def mJ(p:GP):Prop:=∀u∈bA p,aB u=true
def kI(p q:GP):Int:=dn p.2.text q.2.text
theorem Ck(p q:GP)(R:aC)(a:mJ p)(b:mJ q):Spec prog 157 [.agg (bA p).toArray,.agg (bA q).toArray] R [] λv H'=>v=.int .i64 (kI p q)/\H'=[]:=by
 have f:cq (bA p):=⟨a⟩
 have g:cq (bA q):=⟨b⟩
 refine Spec.body func157 rfl results157 ntmps157 rfl ?_
 refine .sr ?_
 refine .cK rfl (λd=>?_)
 refine .cK rfl (λe=>?_)
 refine .ag rfl<|.z<|.fa rfl<|.lo rfl<|.fa rfl<|.lo rfl ?_
 refine .br (fQ p.2.text q.2.text _) (λv c=>?_)
 subst c
 refine .az rfl ?_
 refine .ret (cw rfl ?_)
 ·exact⟨rfl,rfl⟩
theorem lP(p q:GP):ap kI p q=dW p.2.text q.2.text:=by
 unfold ap kI
 rw[abL,hJ,abF]
theorem Cj:SO (ap kI):=⟨λx=>by rw[lP];exact gD.cM _,λx y z a b=>by rw[lP]at *;exact gD.tr _ _ _ a b,λx y z a b=>by rw[lP]at *;exact gD.dN _ _ _ a b⟩
def mP(p:TP):Prop:=∀u∈bB p,aB u=true
def ln(p q:TP):Int:=dn p.2.text q.2.text
theorem Ev(p q:TP)(R:aC)(a:mP p)(b:mP q):Spec prog 161 [.agg (bB p).toArray,.agg (bB q).toArray] R [] λv H'=>v=.int .i64 (ln p q)/\H'=[]:=by
 have f:cq (bB p):=⟨a⟩
 have g:cq (bB q):=⟨b⟩
 refine Spec.body func161 rfl results161 ntmps161 rfl ?_
 refine .sr ?_
 refine .cK rfl (λd=>?_)
 refine .cK rfl (λe=>?_)
 refine .ag rfl<|.z<|.fa rfl<|.lo rfl<|.fa rfl<|.lo rfl ?_
 refine .br (fQ p.2.text q.2.text _) (λv c=>?_)
 subst c
 refine .az rfl ?_
 refine .ret (cw rfl ?_)
 ·exact⟨rfl,rfl⟩
theorem lQ(p q:TP):ap ln p q=dW p.2.text q.2.text:=by
 unfold ap ln
 rw[abL,hJ,abF]
theorem Eu:SO (ap ln):=⟨λx=>by rw[lQ];exact gD.cM _,λx y z a b=>by rw[lQ]at *;exact gD.tr _ _ _ a b,λx y z a b=>by rw[lQ]at *;exact gD.dN _ _ _ a b⟩
end Go.Proofs.YtgppncmdpcefhaaGreatDoor
