/- What the law 'CorePlays' uses. No condition. -/
import Derived.Test.YtkkmbiojicgobaaGreatDoorKCorePlaysA
import Derived.Test.YtkkmbiojicgobaaGreatDoorKCorePlaysB
import Derived.Test.YtkkmbiojicgobaaGreatDoorKCorePlaysF
import Derived.Test.YtkkmbiojicgobaaGreatDoorKCorePlaysG
set_option linter.unusedSimpArgs false
set_option linter.unusedVariables false
namespace Go.Proofs.YtkkmbiojicgobaaGreatDoor
set_option linter.defProp false
def ab7:=@if_pos
def ab8:=@if_neg
def ab9:=@decide_eq_true
def aca:=@Bool.false_or
def acb:=@Bool.true_or
def acd:=@Bool.eq_iff_iff
def ace:=@decide_eq_true_eq
def acf:=@List.mem_map
def acg:=@decide_eq_false
def ach:=@List.take_length
def aci:=@Bool.not_eq_true'
def acj:=@Bool.not_eq_false'
def ack:=@decide_eq_false_iff_not
def acm:=@List.map_append
def acn:=@List.filter_cons
def aco:=@List.getElem?_eq_some_iff
def acp:=@trivial
def acq:=@Bool.true_and
def acr:=@Nat.lt_or_ge
def acs:=@List.map_cons
def acu:=@List.nodup_cons
def acv:=@List.mem_cons
def acw:=@List.flatten_cons
def acx:=@List.map_map
def acy:=@List.mem_filter
def acz:=@List.take_add_one
def acA:=@UInt8.not_lt
def acB:=@if_false
def acC:=@List.flatten_nil
def acD:=@List.append_nil
def acE:=@List.mem_iff_getElem
def acF:=@List.mem_append
def acG:=@List.not_mem_nil
def acH:=@congrArg
def acI:=@UInt8.lt_irrefl
def acJ:=@List.filter_eq_self
def acK:=@List.nodup_append
def acL:=@List.append_assoc
def acM:=@List.filter_congr
def acN:=@Bool.or_eq_true
def acO:=@Bool.and_eq_true
def acP:=@List.perm_middle
def acQ:=@Bool.false_eq_true
def acR:=@List.ext_getElem?
def acS:=@List.getElem?_map
def acT:=@List.perm_append_comm
def acU:=@Bool.and_false
def acV:=@Option.isSome_iff_exists
def acW:=@UInt8.le_antisymm
def acX:=@List.mem_map_of_mem
def acY:=@List.cons_append
def acZ:=@Option.some.injEq
def ac0:=@Bool.eq_false_iff
def ac1:=@List.take_of_length_le
open Tryz
set_option linter.unusedVariables false
theorem Spec.oZ{P:Program}{f:FuncId}{a:List Value}{v:Value}(h:∀w,Calls P f a.toArray w λe w'=>e=.returned v/\w'=w)(R:au):Spec P f a R [] λu H'=>u=v/\H'=[]:=
 λw _ _=>(h w).mono λe w' ⟨c,b⟩=>⟨v,[],c,⟨rfl,rfl⟩,by subst b;exact⟨by simp,by simp⟩,by subst b;exact .refl _ _⟩
def fS(a b:ByteArray):Int:=Lib.compareBytes a.data.toList b.data.toList
theorem ue:∀(a b:List UInt8),Lib.compareBytes a b<0↔Op.bytesLess a b=true
 |[],[]=>by simp[Lib.compareBytes,Op.bytesLess]
 |[],_::_=>by simp[Lib.compareBytes,Op.bytesLess]
 |_::_,[]=>by simp[Lib.compareBytes,Op.bytesLess]
 |x::a,y::b=>by
  have f:=ue a b
  simp only[Lib.compareBytes,Op.bytesLess,acN,acO,ace,beq_iff_eq]
  by_cases c:x<y
  ·simp[c]
  ·by_cases d:y<x
   ·have:x≠y:=λe=>by subst e;exact acI _ d
    simp[c,d,this]
   ·have:x=y:=acW (acA.1 d) (acA.1 c)
    subst this
    simp[c,f]
theorem ud:∀(a b:List UInt8),0<Lib.compareBytes a b↔Op.bytesLess b a=true
 |[],[]=>by simp[Lib.compareBytes,Op.bytesLess]
 |[],_::_=>by simp[Lib.compareBytes,Op.bytesLess]
 |_::_,[]=>by simp[Lib.compareBytes,Op.bytesLess]
 |x::a,y::b=>by
  have f:=ud a b
  simp only[Lib.compareBytes,Op.bytesLess,acN,acO,ace,beq_iff_eq]
  by_cases c:x<y
  ·have d:¬y<x:=λh=>acI _ (UInt8.lt_trans c h)
   have:¬y=x:=λe=>by subst e;exact acI _ c
   simp[c,d,this]
  ·by_cases d:y<x
   ·simp[c,d]
   ·have:x=y:=acW (acA.1 d) (acA.1 c)
    subst this
    simp[c,f]
theorem uc:∀(a b:List UInt8),Lib.compareBytes a b=0↔a=b
 |[],[]=>by simp[Lib.compareBytes]
 |[],_::_=>by simp[Lib.compareBytes]
 |_::_,[]=>by simp[Lib.compareBytes]
 |x::a,y::b=>by
  have f:=uc a b
  simp only[Lib.compareBytes,List.cons.injEq]
  by_cases c:x<y
  ·have:¬x=y:=λe=>by subst e;exact acI _ c
   simp[c,this]
  ·by_cases d:y<x
   ·have:¬x=y:=λe=>by subst e;exact acI _ d
    simp[c,d,this]
   ·have:x=y:=acW (acA.1 d) (acA.1 c)
    subst this
    simp[c,f]
theorem tQ:∀(a b c:List UInt8),Op.bytesLess a b=true->Op.bytesLess b c=true->Op.bytesLess a c=true
 |_,[],_,h,_=>by simp[Op.bytesLess]at h
 |_,_::_,[],_,h=>by simp[Op.bytesLess]at h
 |[],_::_,_::_,_,_=>by simp[Op.bytesLess]
 |x::a,y::b,z::c,h1,h2=>by
  simp only[Op.bytesLess,acN,acO,ace,beq_iff_eq]at h1 h2⊢
  rcases h1 with h1|⟨rfl,h1⟩
  ·rcases h2 with h2|⟨rfl,h2⟩
   ·exact .inl (UInt8.lt_trans h1 h2)
   ·exact .inl h1
  ·rcases h2 with h2|⟨rfl,h2⟩
   ·exact .inl h2
   ·exact .inr ⟨rfl,tQ a b c h1 h2⟩
theorem jE{a b:ByteArray}:cq a b=true↔fS a b<0:=by
 unfold cq fS;rw[ByteArray.toList_eq,ByteArray.toList_eq,ue]
theorem o8{a b:ByteArray}:cq b a=true↔0<fS a b:=by
 unfold cq fS;rw[ByteArray.toList_eq,ByteArray.toList_eq,ud]
theorem nT{a b:ByteArray}:fS a b=0↔a=b:=by
 unfold fS
 rw[uc]
 exact⟨λh=>ByteArray.ext (Array.toList_inj.1 h),λh=>by rw[h]⟩
theorem lq(a:ByteArray):cq a a=false:=by
 cases h:cq a a with
 |false=>rfl
 |true=>have:=jE.1 h;rw[nT.2 rfl]at this;omega
theorem na{a b c:ByteArray}(d:cq a b=true)(e:cq b c=true):cq a c=true:=by
 unfold cq at *;exact tQ _ _ _ d e
theorem lp{a b:ByteArray}(c:cq a b=false)(d:cq b a=false):a=b:=by
 refine nT.1 ?_
 rcases Int.lt_trichotomy (fS a b) 0 with h|h|h
 ·rw[jE.2 h]at c;cases c
 ·exact h
 ·rw[o8.2 h]at d;cases d
theorem kr:SO cq:=⟨lq,λ_ _ _=>na,λx y z b a=>by
 cases h:cq x z with
 |false=>rfl
 |true=>
  cases h3:cq y x with
  |true=>rw[na h3 h]at a;cases a
  |false=>have:=lp b h3;subst this;rw[h]at a;cases a⟩
theorem nk(a b:ByteArray)(R:au):Spec prog 48 [.string a,.string b] R [] λv H'=>v=.int .i64 (fS a b)/\H'=[]:=
 Spec.oZ (Nx a b) R
def m0(a b:Int):Int:=if a<b then-1 else if b<a then 1 else 0
def gi:List Int->Int
 |[]=>0
 |x::l=>if x=0 then gi l else x
def oK(x:Int):List Value:=[.int .i64 x]
def bz(s:ByteArray):List Value:=[.string s]
instance OW(s:ByteArray)(l:List ByteArray):Decidable (s∈l):=decidable_of_iff (l.any (λx=>decide (x=s))=true) (by simp)
instance O3:iO prog 9 (λs:ByteArray=>.string s):=iO.str qh rI
theorem wI{l:List Int}{i:Nat}(h:∀j x,j<i->l[j]? =some x->x=0):gi l=gi (l.drop i):=by
 induction i generalizing l with
 |zero=>simp
 |succ i ih=>
  cases l with
  |nil=>simp
  |cons x l=>
   have:x=0:=h 0 x (by omega) rfl
   subst this
   simp only[gi,if_true,List.drop_succ_cons]
   exact ih λj x b a=>h (j+1) x (by omega) (by simpa using a)
theorem wM(v:Value)(l:List Int)(R:au)(h:RS R 1 oK v l):Spec prog 186 [v] R [] λu H'=>u=.int .i64 (gi l)/\H'=[]:=by
 have p:=h.le
 refine Spec.body func186 rfl results186 ntmps186 rfl ?_
 refine .sr<|.ag rfl<|.z<|.ag rfl<|.zs<|.sr<|.mo rfl<|.q (.di h) ?_
 refine .mo rfl<|.zn<|.block ?_
 refine .loop (X:=Nat) (λi=>i<=l.length/\∀j x,j<i->l[j]? =some x->x=0) (λi=>[(3,.int .i64 0),(6,v),(7,.int .i64 l.length),(8,iN i)]) (λ_=>[]) (λi=>l.length-i) 0 ⟨by omega,by omega⟩ kE.c.c.c.c rH ?_
 rintro i ⟨m,g⟩
 refine .sr<|.q .lss<|.zs ?_
 refine .cond rfl (λb=>?_) λb=>?_
 have e:i<l.length:=by simp at b;omega
 obtain⟨z,a⟩:=dR e
 refine .kn<|.seq<|.block<|.sr ?_
 refine .ct i h a (λr=>?_)
 refine .lo rfl<|.ag rfl<|.z<|.mo rfl<|.mo rfl<|.q .dF<|.zn ?_
 refine .cond rfl (λd=>?_) λd=>?_
 refine .sr<|.mo rfl<|.az rfl ?_
 refine .ret (bp (aI (dj (bp (aI (aO rfl ?_))))))
 ·refine⟨?_,rfl⟩
  have k:z≠0:=by simpa using d
  rw[wI g,List.drop_eq_getElem_cons e]
  rw[bB e]at a
  cases a
  simp[gi,k]
 refine .skip<|bw<|aD<|.region ?_
 refine .q (.inc (n:=i) (by omega)) ?_
 refine .mo rfl<|.nil ?_
 ·exact bd (i+1) ⟨by omega,λj x o f=>by
   rcases acr j i with hh|hh
   ·exact g j x hh f
   ·obtain rfl:j=i:=by omega
    rw[a]at f;cases f;simpa using d⟩ (by omega) kE.c.c.c.c rH
 refine .exit<|bE<|bH<|bF<|aD<|.sr<|.mo rfl<|.az rfl ?_
 refine .ret (aO rfl ?_)
 ·refine⟨?_,rfl⟩
  have:i=l.length:=by simp at b;omega
  rw[wI g,this];simp[gi]
theorem vH(a:Int)(R:au):Spec prog 328 [.int .i64 a] R [] λu H'=>u=.bool false/\H'=[]:=by
 refine Spec.body func328 rfl results328 ntmps328 rfl ?_
 refine .sr<|.ag rfl<|.z<|.mo rfl<|.mo rfl<|.q .dF<|.az rfl ?_
 refine .ret (aO rfl ?_)
 ·exact⟨by simp,rfl⟩
theorem zW(a b:Int)(R:au):Spec prog 327 [.int .i64 a,.int .i64 b] R [] λu H'=>u=.int .i64 (m0 a b)/\H'=[]:=by
 refine Spec.body func327 rfl results327 ntmps327 rfl ?_
 refine .sr<|.ag rfl<|.z<|.mo rfl ?_
 refine .aL (vH a _) (λv e=>?_)
 subst e
 refine .ag rfl<|.z<|.mo rfl ?_
 refine .aL (vH b _) (λv e=>?_)
 subst e
 refine .ag rfl<|.zs<|.sr<|.mo rfl<|.zn<|.bX<|.kn<|.seq<|.sr<|.mo rfl<|.zn<|.bX<|.kn<|.seq<|.sr<|.mo rfl<|.mo rfl<|.q .lss<|.zn ?_
 refine .cond rfl (λc=>?_) λc=>?_
 refine .sr<|.az rfl ?_
 refine .ret (aI (aO rfl ?_))
 ·refine⟨?_,rfl⟩
  simp at c
  try simp at d
  unfold m0
  congr 1
  split
  ·first|rfl|omega
  ·first|rfl|(exfalso;omega)|(split<;>first|rfl|omega)
 refine .kn<|.seq<|.sr<|.mo rfl<|.mo rfl<|.q .gtr<|.zn ?_
 refine .cond rfl (λd=>?_) λd=>?_
 refine .sr<|.az rfl ?_
 refine .ret (aI (aO rfl ?_))
 ·refine⟨?_,rfl⟩
  simp at c
  try simp at d
  unfold m0
  congr 1
  split
  ·first|rfl|omega
  ·first|rfl|(exfalso;omega)|(split<;>first|rfl|omega)
 refine .kn<|.sr<|.az rfl ?_
 refine .ret (aO rfl ?_)
 ·refine⟨?_,rfl⟩
  simp at c
  try simp at d
  unfold m0
  congr 1
  split
  ·first|rfl|omega
  ·first|rfl|(exfalso;omega)|(split<;>first|rfl|omega)
section
variable{κ β:Type} [DecidableEq κ]
def dK(k:κ)(A:List (κ×β)):List (κ×β):=A.filter λp=>decide (p.1≠k)
def cO(k:κ)(x:β)(A:List (κ×β)):List (κ×β):=dK k A++[(k,x)]
theorem qn{k:κ}{A B:List (κ×β)}(h:A.Perm B):(dK k A).Perm (dK k B):=h.filter _
theorem mH{k:κ}{x:β}{A B:List (κ×β)}(h:A.Perm B):(cO k x A).Perm (cO k x B):=(qn h).append_right _
theorem m1{k:κ}{A:List (κ×β)}(h:k∉A.map (·.1)):dK k A=A:=by
 unfold dK
 rw[acJ]
 intro p a
 simp only[ace]
 exact λe=>h (e▸acX a)
theorem oO{k:κ}{x:β}{A:List (κ×β)}(h:k∉A.map (·.1)):dK k ((k,x)::A)=A:=by
 have:=m1 h
 unfold dK at *
 rw[acn,ab8 (by simp)]
 exact this
theorem vJ{k:κ}{x:β}{A B:List (κ×β)}(a:((A++(k,x)::B).map (·.1)).Nodup):dK k (A++(k,x)::B)=A++B:=by
 simp only[acm,acs,acK,acu,acv]at a
 obtain⟨_,⟨d,_⟩,e⟩:=a
 have b:dK k A=A:=m1 λf=>e k f k (.inl rfl) rfl
 have c:dK k ((k,x)::B)=B:=oO d
 unfold dK at *
 rw[List.filter_append,b,c]
theorem rX{k:κ}{x b:β}{A B:List (κ×β)}(e:((A++(k,x)::B).map (·.1)).Nodup):(A++(k,b)::B).Perm (cO k b (A++(k,x)::B)):=by
 unfold cO
 rw[vJ e]
 have c:(A++(k,b)::B).Perm ((k,b)::(A++B)):=acP
 have d:((A++B)++[(k,b)]).Perm ((k,b)::(A++B)):=by simpa using(acP (a:=(k,b)) (l₁:=A++B) (l₂:=[]))
 exact c.trans d.symm
theorem mj{k:κ}:∀{M:List (κ×β)},(M.map (·.1)).Nodup->eC k M=dK k M
 |[],_=>rfl
 |(k',y)::r,hn=>by
  simp only[acs,acu]at hn
  simp only[eC]
  split
  ·rename_i a;subst a;exact(oO hn.1).symm
  ·rename_i a
   rw[mj hn.2]
   simp[dK,Ne.symm a]
theorem nJ{k:κ}{A B:List (κ×β)}(h:A.Perm B)(b:(A.map (·.1)).Nodup):aS k A=aS k B:=by
 have c:(B.map (·.1)).Nodup:=(h.map (·.1)).nodup_iff.1 b
 cases h1:aS k A with
 |some x=>exact(gu c (h.mem_iff.1 (fG h1))).symm
 |none=>
  rw[ig]at h1
  refine(ig.2 λa=>h1 ?_).symm
  exact(h.map (·.1)).mem_iff.2 a
theorem ll{k:κ}{A B:List (κ×β)}:aS k (A++B)=(aS k A).or (aS k B):=by
 induction A with
 |nil=>simp[aS]
 |cons p A ih=>
  obtain⟨a,y⟩:=p
  simp only[acY,aS]
  split
  ·rfl
  ·exact ih
theorem wc{k k':κ}{A:List (κ×β)}:aS k' (dK k A)=if k'=k then none else aS k' A:=by
 induction A with
 |nil=>simp[dK,aS]
 |cons p A ih=>
  obtain⟨a,y⟩:=p
  unfold dK at ih⊢
  by_cases h:a=k
  ·subst h
   simp only[acn,ne_eq,not_true,decide_false,acQ,acB,ih,aS]
   split
   ·rfl
   ·rfl
  ·simp only[acn,ne_eq,h,not_false_eq_true,decide_true,if_true,aS,ih]
   split
   ·rename_i e;subst e;simp[h]
   ·rfl
theorem KS{k k':κ}{x:β}{A:List (κ×β)}:aS k' (cO k x A)=if k'=k then some x else aS k' A:=by
 unfold cO
 rw[ll,wc]
 split
 ·rename_i e;subst e;simp[aS]
 ·rename_i e;simp[aS,e]
theorem oQ{k:κ}{x:β}{A:List (κ×β)}:(cO k x A).length<=A.length+1:=by
 unfold cO dK
 have:=List.length_filter_le (λp:κ×β=>decide (p.1≠k)) A
 simp only[List.length_append,List.length_singleton];omega
end
structure XE where
 b:Nat
 key:ByteArray
 at_:Int
def XE.cells(e:XE)(i:Nat):List Value:=[.string e.key,.int .i64 e.at_,.int .i64 i]
def XE.obj(e:XE)(i:Nat):Obj:=.cells (e.cells i).toArray 224 (0,0)
abbrev XE.ptr(e:XE):Value:=.pointer (some ⟨e.b,0,none⟩)
def kk(e:XE):List Value:=[e.ptr]
def gl(L:List XE):ax:=L.zipIdx.map λp=>(p.1.b,p.1.obj p.2)
def rF(e f:XE):Int:=gi [m0 e.at_ f.at_,fS e.key f.key]
def kK(e f:XE):Bool:=decide (rF e f<0)
theorem nm(L:List XE)(j:Nat):(gl L)[j]? =L[j]?.map λe=>(e.b,e.obj j):=by
 simp[gl,List.getElem?_zipIdx]
 cases L[j]? <;>rfl
theorem uL(L:List XE):(gl L).length=L.length:=by simp[gl]
theorem nn{L:List XE}{i:Nat}{e:XE}(h:L[i]? =some e):(e.b,e.obj i)∈gl L:=by
 refine bU (i:=i) ?_
 rw[nm,h];rfl
theorem uK(L:List XE):(gl L).map (·.1)=L.map (·.b):=by
 apply acR
 intro j
 rw[acS,nm,acS]
 cases L[j]? <;>rfl
def TI(q:Nat)(vm:Value)(L:List XE)(T:ax):Prop:=∃vt Tt Te,T=(q,.cells [vt,vm].toArray 183 (0,0))::(Tt++Te)/\OS 225 1 kk vt L Tt/\Te.Perm (gl L)/\L.length<=1000000000
theorem Ag(e f:XE)(i k:Nat)(R:au)(c:R e.b (e.obj i))(d:R f.b (f.obj k)):Spec prog 326 [e.ptr,f.ptr] R [] λv H'=>v=.int .i64 (rF e f)/\H'=[]:=by
 have h:PC R (.pointer (some ⟨e.b,0,none⟩)) (e.cells i):=PC.of c
 have j:PC R (.pointer (some ⟨f.b,0,none⟩)) (f.cells k):=PC.of d
 refine Spec.body func326 rfl results326 ntmps326 rfl ?_
 refine .sr<|.ag rfl<|.zs<|.cP [] mixed ?_
 refine .tO 0 rfl .move<|.tO 1 rfl (.nilCheck rfl)<|.tO 2 rfl (.fieldAddr rfl)<|.tO 3 rfl (.bK rfl)<|.tO 4 rfl .move<|.tO 5 rfl (.nilCheck rfl)<|.tO 6 rfl (.fieldAddr rfl)<|.tO 7 rfl (.bK rfl)<|.tO 9 rfl .move<|.tO 10 rfl (.nilCheck rfl)<|.tO 11 rfl (.fieldAddr rfl)<|.tO 12 rfl (.bK rfl)<|.tO 13 rfl .move<|.tO 14 rfl (.nilCheck rfl)<|.tO 15 rfl (.fieldAddr rfl)<|.tO 16 rfl (.bK rfl) ?_
 refine .sT 8 rfl ?_
 refine .aL (zW e.at_ f.at_ _) (λv a=>?_)
 subst a
 refine .nil (Next.sub ?_)
 refine .sT 17 rfl ?_
 refine .aL (nk e.key f.key _) (λv a=>?_)
 subst a
 refine .nil (Next.sub ?_)
 refine .sT 18 rfl ?_
 refine .p8 [_,_] (λg=>?_)
 refine .nil (Next.sub ?_)
 refine .sT 19 rfl ?_
 refine .aL (wM _ [m0 e.at_ f.at_,fS e.key f.key] _ (RS.lits rfl (by simp[oK]) (by simp[oK,av]))) (λv a=>?_)
 subst a
 refine .nil (Next.sub ?_)
 refine .tO 20 rfl .assign ?_
 refine RA.nil (by kernel_rfl) ?_
 refine aD ?_
 refine .ret (aO rfl ?_)
 ·exact⟨rfl,rfl⟩
theorem NO(a:Value)(L:List XE)(R:au)(h:RS R 1 kk a L):Spec prog 323 [a] R [] λv H'=>v=.int .i64 L.length/\H'=[]:=by
 refine Spec.body func323 rfl results323 ntmps323 rfl ?_
 refine .sr<|.ag rfl<|.z<|.mo rfl<|.q (.di h) ?_
 refine .az rfl ?_
 refine .ret (aO rfl ?_)
 ·exact⟨rfl,rfl⟩
theorem NQ(a:Value)(L:List XE)(R:au)(h:RS R 1 kk a L)(i k:Nat)(e f:XE)(c:L[i]? =some e)(d:L[k]? =some f)(g:R e.b (e.obj i))(j:R f.b (f.obj k)):
  Spec prog 324 [a,.int .i64 i,.int .i64 k] R [] λv H'=>v=.bool (kK e f)/\H'=[]:=by
 refine Spec.body func324 rfl results324 ntmps324 rfl ?_
 refine .sr<|.ag rfl<|.zs ?_
 refine .dc 8 mixed (by kernel_rfl) ?_
 conv=>arg 6;dsimp only[List.take]
 refine .mo rfl<|.mo rfl ?_
 refine .ct i h c (λm=>?_)
 refine .lo rfl<|.mo rfl<|.mo rfl ?_
 refine .ct k h d (λn=>?_)
 refine .lo rfl<|.nil ?_
 refine .aL (Ag e f i k _ (.inl g) (.inl j)) (λv l=>?_)
 subst l
 refine .q .lss<|.az rfl ?_
 refine .ret (aO rfl ?_)
 ·exact⟨rfl,rfl⟩
theorem np{L:List XE}(f:(L.map (·.b)).Nodup){i k:Nat}{x y:XE}(g:L[i]? =some x)(h:L[k]? =some y)(a:x.b=y.b):i=k:=by
 obtain⟨c,rfl⟩:=aco.1 g
 obtain⟨d,rfl⟩:=aco.1 h
 exact(List.getElem_inj (xs:=L.map λe:XE=>e.b) (i:=i) (j:=k) (h₀:=by simpa using c) (h₁:=by simpa using d) f).1 (by simpa using a)
theorem Ak{L:List XE}{n:ax}(q:n.Perm (gl L))(m:(L.map (·.b)).Nodup){i k:Nat}{x y:XE}(c:L[i]? =some x)(a:L[k]? =some y):
  (fu (fu n y.b (y.obj i)) x.b (x.obj k)).Perm (gl (swp L i k)):=by
 have g:=(aco.1 c).1
 have l:=(aco.1 a).1
 refine(sY (sY q)).trans ?_
 have r:(swp L i k)[k]? =some x:=by rw[fb g l,ab7 rfl,c]
 have s:(swp L i k)[i]? =some y:=by
  rw[fb g l]
  split
  ·rename_i e;subst e;rw[c]at a;cases a;exact c
  ·rw[ab7 rfl,a]
 have t:fu (fu (gl L) y.b (y.obj i)) x.b (x.obj k)=swp (gl (swp L i k)) i k:=by
  apply acR
  intro j
  rw[sW,sW,nm,fb (by rw[uL,jV];exact g) (by rw[uL,jV];exact l)]
  simp only[nm]
  by_cases d:j=k
  ·subst d
   rw[ab7 rfl,s,a]
   simp only[Option.map_some,if_true,acZ]
   split
   ·rename_i e
    have:=np m a c e
    subst this
    rw[c]at a;cases a;rfl
   ·rfl
  ·rw[ab8 d]
   by_cases f:j=i
   ·subst f
    rw[ab7 rfl,r,c]
    have:x.b≠y.b:=λe=>d (np m c a e)
    simp[this]
   ·rw[ab8 f,fb g l,ab8 d,ab8 f]
    cases he:L[j]? with
    |none=>rfl
    |some e=>
     have o:e.b≠y.b:=λh=>d (np m he a h)
     have p:e.b≠x.b:=λh=>f (np m he c h)
     simp[o,p]
 rw[t]
 exact lu
theorem N6(n:Value)(L:List XE)(o f:ax)(R:au)(h:OS 225 1 kk n L o)(g:f.Perm (gl L))(i k:Nat)(j:i<L.length)(l:k<L.length):
  Spec prog 325 [n,.int .i64 i,.int .i64 k] R [o,f] λv H'=>∃Tt' Te',H'=[Tt',Te']/\OS 225 1 kk n (swp L i k) Tt'/\Te'.Perm (gl (swp L i k)):=by
 refine Spec.nodup λs=>?_
 have r:(L.map (·.b)).Nodup:=by
  rw[<-uK, <-(g.map (·.1)).nodup_iff]
  simp only[acw,acC,acD,acm,acK]at s
  exact s.2.1
 obtain⟨x,c⟩:=dR j
 obtain⟨y,a⟩:=dR l
 obtain⟨_,A⟩:∃u,(L.set k x)[i]? =some u:=⟨_,bB (by simpa using j)⟩
 obtain⟨_,C⟩:∃u,(L.set i y)[k]? =some u:=⟨_,bB (by simpa using l)⟩
 have F:=h.av
 refine Spec.body func325 rfl results325 ntmps325 rfl ?_
 refine .seq<|.cP [13,15] mixed ?_
 refine .tO 0 rfl .move<|.tO 1 rfl .move<|.tK 2 rfl .move<|.tK 3 rfl .move<|.tO 4 rfl .move<|.tO 5 rfl .move ?_
 refine RA.ba 6 rfl k h a rfl rfl rfl (by kernel_rfl) (λG=>?_)
 refine .tO 7 rfl (.bK rfl)<|.tO 8 rfl .move<|.tO 9 rfl .move ?_
 refine RA.ba 10 rfl i h c rfl rfl rfl (by kernel_rfl) (λH=>?_)
 refine .tO 11 rfl (.bK rfl) ?_
 refine RA.ba 12 rfl i h c rfl rfl rfl (by kernel_rfl) (λI=>?_)
 refine .sT 13 rfl ?_
 first
  |refine aF.eH i d A y (λp q=>?_)
  |refine aF.eH i h c y (λw q=>?_)
 refine .nil (Next.mod rfl ?_)
 refine RA.ba 14 rfl k h a rfl rfl rfl (by kernel_rfl) (λJ=>?_)
 refine .sT 15 rfl ?_
 first
  |refine aF.eH k q C x (λp d=>?_)
  |refine aF.eH k h a x (λw d=>?_)
 refine .nil (Next.mod rfl ?_)
 refine RA.nil (by kernel_rfl) ?_
 have B:(swp L i k)[k]? =some x:=by rw[fb j l,ab7 rfl,c]
 have D:(swp L i k)[i]? =some y:=by
  rw[fb j l]
  split
  ·rename_i e;subst e;rw[c]at a;cases a;exact c
  ·rw[ab7 rfl,a]
 rw[<-fi c a]at d
 have m:=g.mem_iff.2 (nn c)
 have t:=g.mem_iff.2 (nn a)
 have N:PS f (.pointer (some ⟨x.b,0,none⟩)) (x.cells i):=PS.of m
 have O:PS f (.pointer (some ⟨y.b,0,none⟩)) (y.cells k):=PS.of t
 refine aD<|.cP [12,15] mixed ?_
 refine .tO 0 rfl .move<|.tO 1 rfl .move ?_
 refine RA.ba 2 rfl i d D rfl rfl rfl (by kernel_rfl) (λK=>?_)
 refine .tO 3 rfl (.bK rfl)<|.tO 4 rfl .move<|.tO 5 rfl .move ?_
 refine RA.ba 6 rfl k d B rfl rfl rfl (by kernel_rfl) (λM=>?_)
 refine .tO 7 rfl (.bK rfl)<|.tO 8 rfl .move<|.tK 9 rfl .move<|.tO 10 rfl (.nilCheck rfl)<|.tO 11 rfl (.fieldAddr rfl) ?_
 refine .sT 12 rfl ?_
 refine .sN (vs:=y.cells k) (off:=2) t ?_
 rw[show Obj.cells (bZ (y.cells k) 2 [iN i]).toArray 224 (0,0)=y.obj i from rfl]
 refine .nil (Next.mod rfl ?_)
 refine .tK 13 rfl (.mJ rfl) ?_
 refine .tK 14 rfl (.gm rfl) ?_
 refine .sT 15 rfl ?_
 have E:(x.b,x.obj i)∈fu f y.b (y.obj i):=by
  by_cases e:x.b=y.b
  ·have z:=np r c a e
   subst z
   rw[c]at a;cases a
   exact yr m
  ·exact Ob m e
 refine .sN (vs:=x.cells i) (off:=2) E ?_
 rw[show Obj.cells (bZ (x.cells i) 2 [iN k]).toArray 224 (0,0)=x.obj k from rfl]
 refine .nil (Next.mod rfl ?_)
 refine RA.nil (by kernel_rfl) ?_
 refine ed _ .none rH ?_
 ·exact⟨p,_,rfl,d,Ak g r c a⟩
theorem oH{e f:XE}:kK e f=true↔e.at_<f.at_\/e.at_=f.at_/\cq e.key f.key=true:=by
 unfold kK rF
 rw[ace,jE]
 unfold m0
 simp only[gi]
 by_cases a:e.at_<f.at_
 ·simp[a]
 ·by_cases b:f.at_<e.at_
  ·have:¬e.at_=f.at_:=by omega
   simp[a,b,this]
  ·have:e.at_=f.at_:=by omega
   simp only[this,if_true,Int.lt_irrefl,acB,false_or,true_and]
   split
   ·rename_i h;rw[h]
   ·rfl
theorem mX:SO kK:=by
 have f:∀x y z,kK x y=true->kK y z=true->kK x z=true:=λx y z h1 h2=>by
  rw[oH]at *
  rcases h1 with h1|⟨h1,a⟩<;>rcases h2 with h2|⟨h2,d⟩
  ·exact .inl (by omega)
  ·exact .inl (by omega)
  ·exact .inl (by omega)
  ·exact .inr ⟨by omega,na a d⟩
 have e:∀x,kK x x=false:=λx=>by
  rw[ac0];intro h
  rw[oH,lq]at h
  rcases h with h|⟨_,h⟩
  ·omega
  ·cases h
 refine⟨e,f,λx y z h1 h2=>?_⟩
 rw[ac0]at *
 rw[ne_eq,oH]at *
 rintro(h|⟨h,a⟩)
 ·simp only[not_or]at h1 h2;omega
 ·simp only[not_or,not_and]at h1 h2
  have b:x.at_=y.at_:=by omega
  have c:y.at_=z.at_:=by omega
  have:=kr.gQ x.key y.key z.key (by simpa using h1.2 b) (by simpa using h2.2 c)
  rw[this]at a;cases a
theorem NW(q:Nat)(vm:Value)(L:List XE)(T:ax)(h:TI q vm L T)(e:XE)(m:L.length<1000000000)(R:au):
  Spec prog 330 [pT q,.iface 225 e.ptr] R [T++[(e.b,e.obj 0)]] λv H'=>∃T',H'=[T']/\TI q vm (L++[e]) T':=by
 obtain⟨k,g,c,rfl,a,i,_⟩:=h
 refine Spec.cX (H':=[bl q [k,vm] 183,g,c,[(e.b,.cells (e.cells 0).toArray 224 (0,0))]]) (by simp[XE.obj]) ?_
 have n:=a.av
 refine Spec.body func330 rfl results330 ntmps330 rfl ?_
 refine .sr<|.mo rfl<|.q (.tI) ?_
 refine .ag rfl<|.z<|.mo rfl<|.mo rfl<|.nc rfl<|.lo rfl<|.q (.ei a) ?_
 refine .nc rfl<|.fa rfl<|.cH rfl rfl<|.zn<|.region<|.mo rfl<|.mo rfl<|.nc rfl<|.lo rfl<|.mo rfl ?_
 refine .hZ (λl=>?_)
 refine .append a (RS.lits (xs:=[e]) rfl (by simp[kk]) (by simp[kk,av])) (by simp;omega) (λj f d=>?_)
 have o:=d.av
 refine .nc rfl<|.cH rfl rfl<|.nil<|ed _ .none (.one [1,1,1,1] _) ?_
 ·refine⟨_,rfl,j,f,c++[(e.b,e.obj L.length)],by simp[take,aY];exact⟨rfl,rfl⟩,d,?_,by simp;omega⟩
  have:gl (L++[e])=gl L++[(e.b,e.obj L.length)]:=by simp[gl,List.zipIdx_append]
  rw[this]
  exact i.append_right _
def TJ(q:Nat)(vm:Value)(x:XE)(L:List XE)(T:ax):Prop:=∃T1 i,T.Perm (T1++[(x.b,x.obj i)])/\TI q vm L T1
theorem NV(q:Nat)(vm:Value)(L:List XE)(x:XE)(T:ax)(h:TI q vm (L++[x]) T)(R:au):
  Spec prog 329 [pT q] R [T] λv H'=>∃T',H'=[T']/\v=.iface 225 x.ptr/\TJ q vm x L T':=by
 obtain⟨j,c,g,rfl,a,d,i⟩:=h
 simp only[List.length_append,List.length_singleton]at i
 refine Spec.cX (H':=[bl q [j,vm] 183,c,g]) (by simp) ?_
 have k:=a.av
 refine Spec.body func329 rfl results329 ntmps329 rfl ?_
 refine .sr<|.ag rfl<|.z<|.mo rfl<|.nc rfl<|.lo rfl<|.ag rfl<|.z<|.mo rfl<|.mo rfl<|.q (.ei a) ?_
 refine .q (.i64 ((L.length:Nat):Int) .sub ⟨by simp,by omega,by omega⟩) ?_
 refine .ba L.length a (z:=x) (by simp) (λm=>?_)
 refine .lo rfl<|.ag rfl<|.z<|.mo rfl<|.mo rfl<|.mo rfl<|.q (.ei a) ?_
 refine .q (.i64 ((L.length:Nat):Int) .sub ⟨by simp,by omega,by omega⟩) ?_
 refine .nX 0 L.length a rfl ⟨_,rfl⟩ (by omega) (by simp) (λf e=>?_)
 have l:=e.av
 refine .nc rfl<|.cH rfl rfl<|.z<|.mo rfl<|.q .makeInterface<|.az rfl ?_
 refine .ret (aN _ (.one (.tmp rfl)) (.one [0,0,0] _) ?_)
 ·refine⟨_,rfl,rfl,(q,.cells [f,vm].toArray 183 (0,0))::(c++gl L),L.length,?_,f,c,gl L,rfl,by simpa using e,.refl _,by omega⟩
  have:gl (L++[x])=gl L++[(x.b,x.obj L.length)]:=by simp[gl,List.zipIdx_append]
  rw[this]at d
  simp only[take,aY,List.getD_cons_zero,acw,acC,acD,acY,List.nil_append,acL]
  exact(d.append_left c).cons _
theorem oU:∀w,(typeInfo 227).run prog w=.ok t227 w:=typeInfo227
theorem qP(q:Nat)(vm:Value)(R:au):mT prog R 227 (pT q) kK (TI q vm) where
 kh L T h:=by obtain⟨a,c,b,rfl,e,d,g⟩:=h;exact g
 len L T h:=by
  obtain⟨a,c,b,rfl,e,d,g⟩:=h
  have l:RS (Rx R [(q,.cells [a,vm].toArray 183 (0,0))::(c++b)]) 1 kk a L:=e.rs λp j=>.inr (by simp[j])
  refine(gS.iH (r:=a) (f:=323) (jq.val oU (by kernel_rfl) inferInstance (by kernel_rfl) inferInstance (PC.of (vs:=[a,vm]) (E:=183) (fr:=(0,0)) (.inr (by simp)))) (NO a L _ l)).mono λu s m=>?_
  obtain⟨rfl,rfl⟩:=m
  exact⟨rfl,a,c,b,rfl,e,d,g⟩
 less L T i k x y h hx hy:=by
  obtain⟨a,c,b,rfl,e,d,g⟩:=h
  have l:RS (Rx R [(q,.cells [a,vm].toArray 183 (0,0))::(c++b)]) 1 kk a L:=e.rs λp j=>.inr (by simp[j])
  have A:=d.mem_iff.2 (nn hx)
  have B:=d.mem_iff.2 (nn hy)
  refine(gS.iH (r:=a) (f:=324) (jq.val oU (by kernel_rfl) inferInstance (by kernel_rfl) inferInstance (PC.of (vs:=[a,vm]) (E:=183) (fr:=(0,0)) (.inr (by simp)))) (NQ a L _ l i k x y hx hy (.inr (by simp[A])) (.inr (by simp[B])))).mono λu s m=>?_
  obtain⟨rfl,rfl⟩:=m
  exact⟨rfl,a,c,b,rfl,e,d,g⟩
 swap L T i k h hi hk:=by
  obtain⟨a,c,b,rfl,e,d,g⟩:=h
  refine⟨325,a,jq.val oU (by kernel_rfl) inferInstance (by kernel_rfl) inferInstance (PC.of (vs:=[a,vm]) (E:=183) (fr:=(0,0)) (.inr (by simp))),inferInstance,?_⟩
  refine Spec.cX (H':=[bl q [a,vm] 183,c,b]) (by simp) ?_
  refine Spec.flat ((Spec.nH [1,1] (N6 a L c b _ e d i k hi hk)).mono λv H' z=>?_)
  obtain⟨C,rfl,o,n,rfl,w,t⟩:=z
  refine⟨_,(q,.cells [a,vm].toArray 183 (0,0))::(o++n),rfl,?_,_,rfl,a,o,n,rfl,w,t,by rw[jV];exact g⟩
  simp only[rest,aY,List.flatten_append,acw,acC,acD]
  exact acT
theorem N0(q:Nat)(vm:Value)(L:List XE)(T:ax)(h:TI q vm L T)(e:XE)(hl:L.length<1000000000)(R:au):gS Tryz.prog 227 (.pointer (some ⟨q,0,none⟩)) "Push" [.iface 225 e.ptr] R (T++[(e.b,e.obj 0)]) fun _ T'=>TI q vm (L++[e]) T':=
 ⟨330,_,jq.ptr oU (by kernel_rfl) inferInstance (by kernel_rfl),inferInstance,NW q vm L T h e hl R⟩
theorem yn(q:Nat)(vm:Value)(L:List XE)(x:XE)(T:ax)(h:TI q vm (L++[x]) T)(R:au):gS Tryz.prog 227 (.pointer (some ⟨q,0,none⟩)) "Pop" [] R T fun v T'=>v=.iface 225 x.ptr∧TJ q vm x L T':=
 ⟨329,_,jq.ptr oU (by kernel_rfl) inferInstance (by kernel_rfl),inferInstance,NV q vm L x T h R⟩
abbrev LR(b:Nat):Value:=pT b
def XE.kb(e:XE):ByteArray×Nat:=(e.key,e.b)
def XE.ka(e:XE):ByteArray×Int:=(e.key,e.at_)
def QI(q:Nat)(A:List (ByteArray×Int))(T:ax):Prop:=∃L vm M T1 Tm,T=T1++Tm/\TI q vm L T1/\MS (λs:ByteArray=>.string s) LR vm M Tm/\
 M.Perm (L.map XE.kb)/\fC kK L L.length/\(L.map XE.ka).Perm A
theorem QI.nodup{q:Nat}{A:List (ByteArray×Int)}{T:ax}(h:QI q A T):(A.map (·.1)).Nodup:=by
 obtain⟨L,k,M,f,g,rfl,i,d,e,j,c⟩:=h
 have a:=(e.map (·.1)).nodup_iff.1 d.nd
 have b:=(c.map (·.1)).nodup_iff.1 (by rw[acx]at a⊢;exact a)
 exact b
theorem QI.len{q:Nat}{A:List (ByteArray×Int)}{T:ax}(h:QI q A T):A.length<=1000000000:=by
 obtain⟨L,k,M,b,d,rfl,⟨l,e,c,_,_,_,i⟩,f,j,g,a⟩:=h
 have:=a.length_eq
 simp at this;omega
theorem QI.perm{q:Nat}{A B:List (ByteArray×Int)}{T:ax}(h:QI q A T)(j:A.Perm B):QI q B T:=by
 obtain⟨L,k,M,a,b,c,d,e,f,g,i⟩:=h
 exact⟨L,k,M,a,b,c,d,e,f,g,i.trans j⟩
theorem xn(R:au):Spec prog 63 [] R [] λv H'=>∃T,H'=[T]/\∃q,v=pT q/\QI q [] T:=by
 refine Spec.body func63 rfl results63 ntmps63 rfl ?_
 refine .sr<|.ag rfl<|.z ?_
 refine .makeMap (λa=>?_)
 refine .q .du ?_
 refine .dA rfl (λb=>?_)
 refine .az rfl ?_
 refine .ret (aN _ (.one (.tmp rfl)) (.one [0,0] _) ?_)
 ·exact⟨_,rfl,_,rfl,[],_,[],bl b [sZ,.map (some a)] 183,_,rfl,⟨_,[],[],rfl,OS.nil,.refl _,by simp⟩,MS.nil,.refl _,λk d c=>by simp at c,.refl _⟩
theorem su(q:Nat)(a:Value)(b:Nat)(R:au) [pc:PC R (pT q) [a,.map (some b)]]:
  Spec prog 244 [pT q] R [] λv H'=>v=.bool true/\H'=[]:=by
 refine Spec.body func244 rfl results244 ntmps244 rfl ?_
 refine .sr<|.ag rfl<|.z<|.mo rfl<|.q (.qu rfl rfl) ?_
 refine .mo rfl<|.gt rfl ?_
 refine .mo rfl<|.gt rfl ?_
 refine .nc rfl<|.gt rfl ?_
 refine .fa rfl<|.gt rfl ?_
 refine .lo rfl<|.gt rfl ?_
 refine .q (.qt rfl rfl) ?_
 refine .q .bY<|.az rfl ?_
 refine .ret (aO rfl ?_)
 ·exact⟨rfl,rfl⟩
theorem Mc(q:Nat)(A:List (ByteArray×Int))(T:ax)(h:QI q A T)(R:au)(f:∀p∈T,R p.1 p.2):
  Spec prog 189 [pT q] R [] λv H'=>v=.int .i64 A.length/\H'=[]:=by
 obtain⟨L,l,M,m,o,rfl,⟨a,r,n,rfl,d,s,u⟩,i,e,t,g⟩:=h
 obtain⟨c,rfl⟩:∃b,l=.map (some b):=by obtain⟨b,es,clock,h1,_⟩:=i;exact⟨b,h1⟩
 have x:PC R (pT q) [a,.map (some c)]:=PC.of (E:=183) (fr:=(0,0)) (f (q,.cells [a,.map (some c)].toArray 183 (0,0)) (by simp))
 have j:RS R 1 kk a L:=d.rs λp e=>f p (by simp[e])
 have w:=d.av
 refine Spec.body func189 rfl results189 ntmps189 rfl ?_
 refine .sr<|.ag rfl<|.zs<|.sr<|.mo rfl ?_
 refine .aL (su q a c _) (λv k=>?_)
 subst k
 refine .q .not<|.zn<|.bX<|.kn<|.sr<|.mo rfl<|.nc rfl<|.fa rfl<|.lo rfl<|.q (.di j) ?_
 refine .az rfl ?_
 refine .ret (aO rfl ?_)
 ·exact⟨by rw[<-g.length_eq];simp,rfl⟩
theorem tJ{L:List XE}{M:List (ByteArray×Nat)}{A:List (ByteArray×Int)}(n:(M.map (·.1)).Nodup)(g:M.Perm (L.map XE.kb))(f:(L.map XE.ka).Perm A)(key:ByteArray):
  (aS key M=none/\aS key A=none/\∀e∈L,e.key≠key)\/∃(i:Nat) (e:XE),L[i]? =some e/\e.key=key/\aS key M=some e.b/\aS key A=some e.at_:=by
 have k:((L.map XE.kb).map (·.1)).Nodup:=(g.map (·.1)).nodup_iff.1 n
 have o:(A.map (·.1)).Nodup:=(f.map (·.1)).nodup_iff.1 (by rw[acx]at k⊢;exact k)
 cases hm:aS key M with
 |none=>
  have d:=ig.1 hm
  have h:∀e∈L,e.key≠key:=λe c a=>d (by
   rw[(g.map (·.1)).mem_iff,acx]
   exact acf.2 ⟨e,c,a⟩)
  refine .inl ⟨rfl,ig.2 λj=>?_,h⟩
  rw[<-(f.map (·.1)).mem_iff,acx]at j
  obtain⟨e,c,a⟩:=acf.1 j
  exact h e c a
 |some b=>
  have d:=g.mem_iff.1 (fG hm)
  obtain⟨e,c,a⟩:=acf.1 d
  simp only[XE.kb,Prod.mk.injEq]at a
  obtain⟨i,l,m⟩:=acE.1 c
  refine .inr ⟨i,e,by rw[bB l,m],a.1,by rw[a.2],gu o (f.mem_iff.1 (acf.2 ⟨e,c,?_⟩))⟩
  simp[XE.ka,a.1]
set_option maxRecDepth 4000
theorem TI.set{q:Nat}{vm:Value}{L:List XE}{T:ax}(h:TI q vm L T)(l:(T.map (·.1)).Nodup){i:Nat}{e e':XE}(a:L[i]? =some e)(n:e'.b=e.b):TI q vm (L.set i e') (fu T e.b (e'.obj i)):=by
 obtain⟨m,d,g,rfl,v,k,w⟩:=h
 have x:=k.mem_iff.2 (nn a)
 have D:=l
 simp only[acs,acm,acu,acK,acF]at l
 obtain⟨r,C,s,t⟩:=l
 have o:e.b∈g.map (·.1):=acX x
 have A:q≠e.b:=λf=>r (.inr (f▸o))
 have B:fu d e.b (e'.obj i)=d:=sX λp z f=>t p.1 (acX z) e.b o f
 have y:(L.map (·.b)).Nodup:=by rw[<-uK, <-(k.map (·.1)).nodup_iff];exact s
 refine⟨m,d,fu g e.b (e'.obj i),?_,v.congr ?_,?_,by simpa using w⟩
 ·have:fu ((q,Obj.cells [m,vm].toArray 183 (0,0))::(d++g)) e.b (e'.obj i)=(q,Obj.cells [m,vm].toArray 183 (0,0))::(fu d e.b (e'.obj i)++fu g e.b (e'.obj i)):=by simp[fu,A]
  rw[this,B]
 ·apply acR
  intro j
  rw[acS,acS,List.getElem?_set]
  by_cases c:i=j
  ·subst c
   have:i<L.length:=(aco.1 a).1
   rw[ab7 rfl,ab7 this,a]
   simp[kk,XE.ptr,n]
  ·simp[c]
 ·refine(sY k).trans ?_
  have:fu (gl L) e.b (e'.obj i)=gl (L.set i e'):=by
   apply acR
   intro j
   rw[sW,nm,nm,List.getElem?_set]
   by_cases c:i=j
   ·subst c
    have:i<L.length:=(aco.1 a).1
    rw[ab7 rfl,ab7 this,a]
    simp[n]
   ·simp only[c,acB]
    cases hj:L[j]? with
    |none=>rfl
    |some u=>
     have:u.b≠e.b:=λf=>c (np y hj a f).symm
     simp[this]
  rw[this]
theorem TI.ps{q:Nat}{vm:Value}{L:List XE}{T:ax}(h:TI q vm L T):∃vt,One vt/\PS T (pT q) [vt,vm]:=by
 obtain⟨vt,c,b,rfl,a,d,e⟩:=h
 exact⟨vt,a.av,PS.of (E:=183) (fr:=(0,0)) (by simp)⟩
theorem TI.mem{q:Nat}{vm:Value}{L:List XE}{T:ax}(h:TI q vm L T){i:Nat}{e:XE}(c:L[i]? =some e):(e.b,e.obj i)∈T:=by
 obtain⟨k,f,d,rfl,g,a,j⟩:=h
 have:=a.mem_iff.2 (nn c)
 simp[this]
theorem Ng{L:List XE}{i:Nat}{e:XE}(a:L[i]? =some e):∃L1 L2,L=L1++e::L2/\∀e',L.set i e'=L1++e'::L2:=by
 obtain⟨h,rfl⟩:=aco.1 a
 refine⟨L.take i,L.drop (i+1),?_,λe'=>?_⟩
 ·rw[List.getElem_cons_drop,List.take_append_drop]
 ·rw[List.set_eq_take_append_cons_drop,ab7 h]
theorem xr(q:Nat)(A:List (ByteArray×Int))(T:ax)(h:QI q A T)(key:ByteArray)(at_:Int)(hl:A.length<1000000000)(R:au):
  Spec prog 203 [pT q,.string key,.int .i64 at_] R [T] λv H'=>∃T',H'=[T']/\v=.tuple #[]/\QI q (cO key at_ A) T':=by
 have a0:=h.nodup
 obtain⟨L,vm,M,a,t,rfl,n,g,D,I,f⟩:=h
 obtain⟨m,rfl⟩:∃b,vm=.map (some b):=by obtain⟨b,es,clock,h1,_⟩:=g;exact⟨b,h1⟩
 obtain⟨vt,i1,ps⟩:=n.ps
 have H:=tJ g.nd D f key
 have a4:L.length=A.length:=by simpa using f.length_eq
 refine Spec.cX (H':=[a,t]) (by simp) ?_
 refine Spec.body func203 rfl results203 ntmps203 rfl ?_
 refine .seq<|.sr<|.mo rfl ?_
 refine .aL (su q vt m _) (λv l=>?_)
 subst l
 refine .q .not<|.zn<|.bX<|.kn<|.seq<|.sr<|.mo rfl<|.nc rfl<|.fa rfl<|.lo rfl<|.mo rfl<|.q (.kN g.rx rfl (show _=some (Value.string key)from rfl)) ?_
 refine .mo rfl<|.q .extract<|.q .extract<|.ag rfl<|.ag rfl<|.z<|.mo rfl<|.zn ?_
 refine .cond rfl (λd=>?_) λd=>?_
 obtain⟨i,e,r,C,Z,ha⟩:∃(i:Nat) (e:XE),L[i]? =some e/\e.key=key/\aS key M=some e.b/\aS key A=some e.at_:=by
  rcases H with⟨h3,_⟩|h3
  ·rw[h3]at d;simp at d
  ·exact h3
 have E:=n.mem r
 have pe:PS a (.pointer (some ⟨e.b,0,none⟩)) (e.cells i):=PS.of E
 obtain⟨e',p⟩:∃e':XE,e'=⟨e.b,e.key,at_⟩:=⟨_,rfl⟩
 rw[Z]
 simp only[Option.map_some,Option.getD_some]
 refine .sr<|.mo rfl<|.mo rfl<|.nc rfl<|.fa rfl ?_
 refine .nodup λK=>?_
 have a1:(a.map (·.1)).Nodup:=by
  simp only[acw,acm,acK]at K
  exact K.1
 refine .sN (vs:=e.cells i) (off:=1) E ?_
 rw[show Obj.cells (bZ (e.cells i) 1 [.int .i64 at_]).toArray 224 (0,0)=e'.obj i from by rw[p];rfl]
 have x:=n.set a1 r (e':=e') (by rw[p])
 have a3:PS (fu a e.b (e'.obj i)) (.pointer (some ⟨e.b,0,none⟩)) (e'.cells i):=PS.of (yr E)
 generalize fu a e.b (e'.obj i)=T1' at x a3⊢
 obtain⟨a7,a5,a6⟩:=x.ps
 clear pe ps
 have W:i<L.length:=(aco.1 r).1
 have V:ke kK (L.set i e') (L.set i e').length i:=by
  rw[List.length_set]
  exact I.hole mX (Nat.le_refl _) λk C Y=>by rw[List.getElem?_set_ne (Ne.symm Y)]
 refine .zs ?_
 refine .dc 8 mixed (by kernel_rfl) ?_
 conv=>arg 6;dsimp only[List.take]
 refine .mo rfl<|.nc rfl<|.fa rfl<|.q .makeInterface<|.mo rfl<|.nc rfl<|.fa rfl<|.lo rfl<|.nil ?_
 refine .bT (J3 (qP q (.map (some m)) _) mX _ _ x i (by simpa using W) V) (λv c l=>?_)
 obtain⟨rfl,s,y,j,B⟩:=l
 refine .zn ?_
 refine .ret (aI (aN _ .none (aU.merge [0,0] _) ?_))
 ·obtain⟨L1,L3,Q,a2⟩:=Ng r
  have O:=a2 e'
  have X:e'.kb=e.kb:=by rw[p];rfl
  refine⟨c++t,by simp[take,rest,aY],rfl,s,_,M,c,t,rfl,y,g,?_,B,?_⟩
  ·refine D.trans ?_
   have:(L.set i e').map XE.kb=L.map XE.kb:=by rw[O,Q];simp[X]
   rw[<-this]
   exact(j.map _).symm
  ·refine((j.map _).trans ?_).trans (mH f)
   have J:((L.map XE.ka).map (·.1)).Nodup:=(f.map (·.1)).nodup_iff.2 a0
   rw[O,Q]at *
   simp only[acm,acs]at J⊢
   have S:e'.ka=(key,at_):=by rw[p];simp[XE.ka,C]
   have G:e.ka=(key,e.at_):=by simp[XE.ka,C]
   rw[S,G]
   exact rX (by rw[<-G];simpa using J)
 have N:aS key M=none/\aS key A=none/\∀e∈L,e.key≠key:=by
  rcases H with h3|⟨i,e,_,_,h3,_⟩
  ·exact h3
  ·rw[h3]at d;simp at d
 refine .kn<|.sr<|.mo rfl<|.mo rfl ?_
 refine .q .du ?_
 refine .dA rfl (λF=>?_)
 refine .ag rfl<|.z<|.mo rfl<|.nc rfl<|.fa rfl<|.lo rfl<|.mo rfl<|.mo rfl ?_
 refine .update (u:=F) g rfl (show _=some (Value.string key)from rfl) rfl (λw U _=>?_)
 refine .zn<|.region<|.mo rfl<|.nc rfl<|.fa rfl<|.q .makeInterface<|.mo rfl<|.q .makeInterface ?_
 obtain⟨e,o⟩:∃e:XE,e=⟨F,key,at_⟩:=⟨_,rfl⟩
 refine .sub (H':=[a++[(e.b,e.obj 0)],w]) (aU.bu (by
  rw[o]
  simp only[acw,acC,acD,acL,acY,List.nil_append]
  exact acP.symm)) ?_
 refine .bT (LS (qP q (.map (some m)) _) mX L _ (.iface 225 e.ptr) e (N0 q (.map (some m)) L a n e (by omega) _) I) (λv c l=>?_) (hxs:=by rw[o];rfl)
 obtain⟨rfl,s,y,j,B⟩:=l
 refine .nil<|ed _ .none (aU.merge [0,0] _) ?_
 ·refine⟨c++w,by simp[take,rest,aY],rfl,s,_,_,c,w,rfl,y,U,?_,B,?_⟩
  ·rw[oY (ig.1 N.1)]
   refine(D.append_right _).trans ?_
   have:=(j.map XE.kb).symm
   rw[acm]at this
   rw[o]at this
   exact this
  ·refine(j.map _).trans ?_
   unfold cO
   rw[m1 (ig.1 N.2.1),acm,o]
   exact f.append_right _
theorem xy{L a:List XE}{x:XE}{M:List (ByteArray×Nat)}{A:List (ByteArray×Int)}(f:(M.map (·.1)).Nodup)(i:M.Perm (L.map XE.kb))(h:(L.map XE.ka).Perm A)(e:L.Perm (x::a)):
  (eC x.key M).Perm (a.map XE.kb)/\(a.map XE.ka).Perm (dK x.key A):=by
 have d:M.Perm ((x.key,x.b)::a.map XE.kb):=i.trans (e.map _)
 have g:A.Perm ((x.key,x.at_)::a.map XE.ka):=h.symm.trans (e.map _)
 have c:=(d.map (·.1)).nodup_iff.1 f
 simp only[acs,acu]at c
 have j:x.key∉(a.map XE.ka).map (·.1):=by rw[acx]at c⊢;exact c.1
 refine⟨?_,?_⟩
 ·rw[mj f]
  have:=qn (k:=x.key) d
  rwa [oO c.1]at this
 ·have:=qn (k:=x.key) g
  rw[oO j]at this
  exact this.symm
theorem xk(q:Nat)(A:List (ByteArray×Int))(T:ax)(h:QI q A T)(key:ByteArray)(R:au):
  Spec prog 195 [pT q,.string key] R [T] λv H'=>∃T',H'=[T']/\v=.bool (aS key A).isSome/\QI q (dK key A) T':=by
 have V:=h.nodup
 obtain⟨L,Q,M,c,d,rfl,j,a,n,w,l⟩:=h
 obtain⟨k,rfl⟩:∃b,Q=.map (some b):=by obtain⟨b,es,clock,h1,_⟩:=a;exact⟨b,h1⟩
 obtain⟨S,W,Z⟩:=j.ps
 have u:=tJ a.nd n l key
 refine Spec.cX (H':=[c,d]) (by simp) ?_
 refine Spec.body func195 rfl results195 ntmps195 rfl ?_
 refine .sr<|.ag rfl<|.zs<|.sr<|.mo rfl ?_
 refine .aL (su q S k _) (λv o=>?_)
 subst o
 refine .q .not<|.zn<|.bX<|.kn<|.sr<|.mo rfl<|.nc rfl<|.fa rfl<|.lo rfl<|.mo rfl<|.q (.kN a.rx rfl (show _=some (Value.string key)from rfl)) ?_
 refine .mo rfl<|.q .extract<|.q .extract<|.ag rfl<|.ag rfl<|.zs<|.sr<|.mo rfl<|.zn ?_
 refine .cond rfl (λf=>?_) λf=>?_
 obtain⟨i,e,y,H,I,F⟩:∃(i:Nat) (e:XE),L[i]? =some e/\e.key=key/\aS key M=some e.b/\aS key A=some e.at_:=by
  rcases u with⟨h3,_⟩|h3
  ·rw[h3]at f;simp at f
  ·exact h3
 have O:=j.mem y
 have Y:PS c (.pointer (some ⟨e.b,0,none⟩)) (e.cells i):=PS.of O
 rw[I]
 simp only[Option.map_some,Option.getD_some]
 refine .seq ?_
 refine .dc 8 mixed (by kernel_rfl) ?_
 conv=>arg 6;dsimp only[List.take]
 refine .mo rfl<|.nc rfl<|.fa rfl<|.q .makeInterface<|.mo rfl<|.nc rfl<|.fa rfl<|.lo rfl<|.nil ?_
 refine .bT (Mq (qP q (.map (some k)) _) mX L c j i e y w (λx=>.iface 225 x.ptr) (TJ q (.map (some k)) e) (λB T' D _=>yn q _ B e T' D _)) (λv U o=>?_)
 obtain⟨rfl,C,⟨g,N,K,t⟩,J,G⟩:=o
 obtain⟨a1,X,a0⟩:=t.ps
 refine .sub (H':=[g,d,[(e.b,e.obj N)]]) (aU.bu (by
  simp only[acw,acC,acD]
  refine(K.append_right d).trans ?_
  rw[acL]
  exact acT.append_left g)) ?_
 refine .zn<|.region<|.mo rfl<|.nc rfl<|.fa rfl<|.lo rfl<|.mo rfl ?_
 refine .delete a rfl (show _=some (Value.string key)from rfl) (λp E _=>?_)
 refine .z<|.mo rfl<|.az rfl ?_
 refine .ret (aN _ (.one (.tmp rfl)) (aU.one [0,0] _) ?_)
 ·obtain⟨r,s⟩:=xy a.nd n l J
  rw[H]at r s
  refine⟨g++p,by simp[take,aY],by rw[F];rfl,C,_,_,g,p,rfl,t,E,r,G,s⟩
 have m:aS key M=none/\aS key A=none/\∀e∈L,e.key≠key:=by
  rcases u with h3|⟨i,e,_,_,h3,_⟩
  ·exact h3
  ·rw[h3]at f;simp at f
 refine .kn<|.sr<|.mo rfl<|.az rfl ?_
 refine .ret (aN _ (.one (.tmp rfl)) (aU.one [0,0] _) ?_)
 ·refine⟨c++d,by simp[take,aY],by rw[m.1,m.2.1];rfl,L,_,M,c,d,rfl,j,a,n,w,?_⟩
  rw[m1 (ig.1 m.2.1)]
  exact l
def oN(p r:ByteArray×Int):Bool:=decide (p.2<r.2)||decide (p.2=r.2)&&cq p.1 r.1
theorem Ah{e f:XE}:kK e f=oN e.ka f.ka:=by
 rw[show oN e.ka f.ka=(decide (e.at_<f.at_)||decide (e.at_=f.at_)&&cq e.key f.key)from rfl,acd,oH]
 simp only[acN,acO,ace]
theorem TI.read{q:Nat}{vm:Value}{L:List XE}{T:ax}(h:TI q vm L T):∃vt,One vt/\PS T (pT q) [vt,vm]/\RS (sg T) 1 kk vt L/\∀(i:Nat) (e:XE),L[i]? =some e->PS T (.pointer (some ⟨e.b,0,none⟩)) (e.cells i):=by
 have d:=λ(i:Nat) (e:XE) (a:L[i]? =some e)=>h.mem a
 obtain⟨vt,j,g,rfl,c,k,l⟩:=h
 exact⟨vt,c.av,PS.of (E:=183) (fr:=(0,0)) (by simp),c.rs λp f=>by simp[sg,f],λi e a=>PS.of (d i e a)⟩
structure pU(A:List (ByteArray×Int))(now:Int)(B A':List (ByteArray×Int)):Prop where
 pm:A.Perm (B++A')
 ord:B.Pairwise λp r=>oN r p=false
 le:∀p∈B,p.2<=now
 front:∀p∈B,∀r∈A',oN r p=false
theorem pU.filter{A B a:List (ByteArray×Int)}{now:Int}(h:pU A now B a)(f:∀p∈a,now<p.2):a.Perm (A.filter λp=>decide (now<p.2)):=by
 have b:=h.pm.filter (λp=>decide (now<p.2))
 rw[List.filter_append]at b
 have d:B.filter (λp=>decide (now<p.2))=[]:=by
  rw[List.filter_eq_nil_iff]
  intro p c
  have:=h.le p c
  simp;omega
 have e:a.filter (λp=>decide (now<p.2))=a:=by
  rw[acJ]
  intro p c
  simpa using f p c
 rw[d,e]at b
 exact b.symm
theorem xm(q:Nat)(A:List (ByteArray×Int))(T:ax)(h:QI q A T)(now:Int)(R:au):
  Spec prog 132 [pT q,.int .i64 now] R [T] λv H'=>∃T' To B A',H'=[T',To]/\OS 9 1 bz v (B.map (·.1)) To/\QI q A' T'/\pU A now B A'/\∀p∈A',now<p.2:=by
 refine Spec.cX (H':=[T,[]]) (by simp) ?_
 refine Spec.body func132 rfl results132 ntmps132 rfl ?_
 refine .sr<|.ag rfl<|.z<|.ag rfl<|.zs<|.block ?_
 refine .loop (X:=List (ByteArray×Int)×List (ByteArray×Int)×Value×ax×ax) (λy=>QI q y.1 y.2.2.2.1/\OS 9 1 bz y.2.2.1 (y.2.1.map (·.1)) y.2.2.2.2/\pU A now y.2.1 y.1) (λy=>[(0,pT q),(1,.int .i64 now),(5,y.2.2.1)]) (λy=>[y.2.2.2.1,y.2.2.2.2]) (λy=>y.1.length) (A,[],sZ,T,[]) ⟨h,OS.nil,⟨.refl _,by simp,by simp,by simp⟩⟩ kE.c.c.c rH ?_
 rintro⟨g,B,v,Q,To⟩ ⟨u,o,i⟩
 simp only at u o i⊢
 have F:=u
 have b6:=u.len
 have a4:=i.pm.length_eq
 have b4:=h.len
 obtain⟨L,O,M,j,m,Y,W,V,hp,I,n⟩:=u
 obtain⟨vt,i1,ps,hs,pe⟩:=W.read
 have i2:=o.av
 have b5:g.length=L.length:=by simpa using n.length_eq.symm
 have b2:aU [Q,To] [j,m,To]:=aU.bu (by rw[Y];simp)
 refine .seq<|.sr<|.mo rfl ?_
 refine .aL (Mc q g _ F _ (λp hp=>.inr (by simp[hp]))) (λv N=>?_)
 subst N
 refine .q .gtr<|.mo rfl ?_
 refine .split (t:=10) rfl (λd=>?_) (λd=>?_)
 obtain⟨e,l⟩:∃e,L[0]? =some e:=⟨_,bB (by simp at d;omega)⟩
 have b8:=pe 0 e l
 have px:PS j (eK vt (0*1)) (kk e):=⟨hs.pc l⟩
 refine .sub b2 ?_
 refine .gT d<|.mo rfl<|.gT d<|.nc rfl<|.gT d<|.fa rfl<|.gT d<|.lo rfl<|.gT d<|.q (.ct 0 hs l rfl rfl rfl) ?_
 refine .gT d<|.lo rfl<|.gT d ?_
 refine .nc rfl<|.gT d<|.fa rfl<|.gT d<|.lo rfl<|.gT d<|.mo rfl<|.gT d<|.q .leq<|.q (.aW d) ?_
 refine .zn ?_
 refine .cond rfl (λD=>?_) λD=>?_
 refine .kn<|.block<|.sr<|.mo rfl<|.nc rfl<|.fa rfl<|.q .makeInterface ?_
 refine .bT (LI (qP q O _) mX L j W e l I (λx=>.iface 225 x.ptr) (TJ q O e) (λL' T' h' _=>yn q _ L' e T' h' _)) (λv j N=>?_)
 obtain⟨rfl,L2,⟨s,C,b0,Z⟩,a1,a7⟩:=N
 obtain⟨c1,b7,c0⟩:=Z.ps
 have b9:PS [(e.b,e.obj C)] (.pointer (some ⟨e.b,0,none⟩)) (e.cells C):=PS.of (E:=224) (fr:=(0,0)) (by simp[XE.obj])
 refine .sub (H':=[s,m,To,[(e.b,e.obj C)]]) (aU.bu (by
  simp only[acw,acC,acD]
  refine(b0.append_right _).trans ?_
  simpa[acL]using(acT (l₁:=[(e.b,e.obj C)]) (l₂:=m++To)).append_left s)) ?_
 refine .q (.tI) ?_
 refine .ag rfl<|.zs ?_
 refine .dc 8 mixed (by kernel_rfl) ?_
 conv=>arg 6;dsimp only[List.take]
 refine .mo rfl<|.nc rfl<|.fa rfl<|.lo rfl<|.mo rfl ?_
 refine .nc rfl<|.fa rfl<|.lo rfl<|.nil ?_
 obtain⟨g1,U⟩:=xy V.nd hp n a1
 refine .delete V rfl (show _=some (Value.string e.key)from rfl) (λS a5 _=>?_)
 refine .zn<|.region<|.mo rfl<|.mo rfl<|.nc rfl<|.fa rfl<|.lo rfl ?_
 refine .hZ (λb3=>?_)
 refine .append o (RS.lits (xs:=[e.key]) rfl (by simp[bz]) (by simp[bz,av])) (by simp at a4⊢;omega) (λv3 a3 a6=>?_)
 refine .ag rfl<|.nil<|bw ?_
 ·have a0:e.at_<=now:=by simpa using D
  have a9:∀r∈g,oN r e.ka=false:=λr b1=>by
   obtain⟨f,G,rfl⟩:=acf.1 (n.mem_iff.2 b1)
   obtain⟨k,J,H⟩:=acE.1 G
   rw[<-Ah]
   exact I.least mX l k f (by rw[bB J,H])
  have K:g.Perm (e.ka::dK e.key g):=n.symm.trans ((a1.map _).trans (U.cons _))
  have a8:e.ka∈g:=K.mem_iff.2 (by simp)
  refine bd (dK e.key g,B++[e.ka],v3,s++S,a3) ⟨⟨L2,O,_,s,S,rfl,Z,a5,g1,a7,U⟩,by rw[acm];exact a6,⟨?_,?_,?_,?_⟩⟩ ?_ kE.c.c.c ?_
  ·refine i.pm.trans ?_
   simp only[acL]
   exact K.append_left B
  ·rw[List.pairwise_append]
   exact⟨i.ord,by simp,λp hp r w=>by simp at w;subst w;exact i.front p hp _ a8⟩
  ·intro p hp
   rcases acF.1 hp with hp|hp
   ·exact i.le p hp
   ·simp at hp;subst hp;exact a0
  ·intro p hp r w
   have a2:r∈g:=(acy.1 w).1
   rcases acF.1 hp with hp|hp
   ·exact i.front p hp r a2
   ·simp at hp;subst hp;exact a9 r a2
  ·have:=K.length_eq
   simp at this⊢;omega
  ·exact(aH [1,1,1]).trans (aU.bu (by simp[take,aY]))
 refine .exit<|bE<|bH<|bF<|aD<|.sr<|.mo rfl<|.az rfl ?_
 refine .ret (aN _ (.one (.tmp rfl)) (aU.bu (H':=[j++m,To]) (by simp)) ?_)
 ·refine⟨j++m,To,B,g,rfl,o,Y▸F,i,λp hp=>?_⟩
  have a0:now<e.at_:=by simpa using D
  obtain⟨f,G,rfl⟩:=acf.1 (n.mem_iff.2 hp)
  obtain⟨k,J,H⟩:=acE.1 G
  have h3:=I.least mX l k f (by rw[bB J,H])
  rw[ac0,ne_eq,oH]at h3
  have h4:e.at_<=f.at_:=by omega
  show now<f.at_
  omega
 refine .gF d<|.gF d<|.gF d<|.gF d<|.gF d<|.gF d<|.gF d<|.gF d<|.gF d<|.gF d<|.gF d<|.q (.aQ d) ?_
 refine .zn<|.bX<|.exit<|bE<|bH<|bF<|aD<|.sr<|.mo rfl<|.az rfl ?_
 refine .ret (aN _ (.one (.tmp rfl)) rH ?_)
 ·have hz:g=[]:=by
   rcases g with _|⟨a,r⟩
   ·rfl
   ·simp at d
  exact⟨Q,To,B,g,rfl,o,F,i,by rw[hz];simp⟩
def short(s:ByteArray)(n:Nat):ByteArray:=if n<s.size then s.extract 0 n else s
theorem sI{s:ByteArray}{n:Nat}:(short s n).size<=n:=by
 unfold short
 split
 ·rw[ByteArray.size_extract];omega
 ·omega
theorem lO(s:ByteArray)(n:Nat)(R:au):Spec prog 15 [.string s,.int .i64 n] R [] λv H'=>v=.string (short s n)/\H'=[]:=by
 refine Spec.body func15 rfl results15 ntmps15 rfl ?_
 refine .sr<|.ag rfl<|.zs<|.sr<|.mo rfl<|.q .fF<|.mo rfl<|.q .gtr<|.zn ?_
 refine .cond rfl (λa=>?_) λa=>?_
 refine .sr<|.mo rfl<|.mo rfl ?_
 have b:n<s.size:=by simp at a;omega
 refine .q (.sL (s:=s) 0 n rfl ⟨_,rfl⟩ (by omega) (by omega)) ?_
 refine .az rfl ?_
 refine .ret (aI (aO rfl ?_))
 ·exact⟨by unfold short;rw[ab7 (by simp at a;omega)],rfl⟩
 refine .kn<|.sr<|.mo rfl<|.az rfl ?_
 refine .ret (aO rfl ?_)
 ·exact⟨by unfold short;rw[ab8 (by simp at a;omega)],rfl⟩
theorem nf(v:Value)(xs:List ByteArray)(R:au)(h:RS R 1 bz v xs)(i:xs.length<=1000000):
  Spec prog 117 [v] R [] λv' H'=>∃T,H'=[T]/\OS 9 1 bz v' xs T:=by
 obtain⟨b,d,rfl⟩:=h.val
 have f:∀H,RS (Rx R H) 1 bz (.slice b xs.length d) xs:=λH=>h.rx
 refine Spec.cX (H':=[[]]) (by simp) ?_
 refine Spec.body func117 rfl results117 ntmps117 rfl ?_
 refine .sr<|.ag rfl<|.zs<|.sr<|.mo rfl<|.q (.Am rfl rfl) ?_
 refine .zn ?_
 refine .cond rfl (λa=>?_) λa=>?_
 refine .sr<|.az rfl ?_
 refine .ret (aI (aN _ (.one (.tmp rfl)) (.one [0] _) ?_))
 ·obtain rfl:b=none:=by simpa using a
  have:=h.K1
  subst this
  exact⟨[],rfl,OS.nil⟩
 refine .kn<|.sr ?_
 refine .zg (λg=>?_)
 refine .mo rfl ?_
 refine .append (OS.empty (enc:=bz) (sz:=1)) (f _) (by simp;omega) (λv' c e=>?_)
 refine .az rfl ?_
 refine .ret (aN _ (.one (.tmp rfl)) (.one [0] _) ?_)
 ·exact⟨c,by simp[take],by simpa using e⟩
theorem RS.nK{α:Type}{R:au}{sz:Nat}{enc:α->List Value}:RS R sz enc (sZ) ([]:List α):=⟨by simp,by simp,none,0,rfl,by simp,by simp,.inl rfl⟩
def texts(l:List ByteArray)(n k:Nat):List ByteArray:=(l.take n).map λs=>short s k
theorem pt(v:Value)(l:List ByteArray)(n k:Nat)(C:n<=1000000)(R:au)(h:RS R 1 bz v l):
  Spec prog 40 [v,.int .i64 n,.int .i64 k] R [] λv' H'=>∃T,H'=[T]/\OS 9 1 bz v' (texts l n k) T:=by
 have B:=h.le
 refine Spec.cX (H':=[[]]) (by simp) ?_
 refine Spec.body func40 rfl results40 ntmps40 rfl ?_
 refine .sr<|.ag rfl<|.z<|.ag rfl<|.zs<|.sr<|.az rfl<|.block ?_
 refine .loop (X:=Nat×Value×ax) (λy=>(y.1<=l.length/\y.1<=n)/\OS 9 1 bz y.2.1 (texts l y.1 k) y.2.2) (λy=>[(0,v),(1,iN n),(2,iN k),(7,y.2.1),(8,iN y.1)]) (λy=>[y.2.2]) (λy=>l.length-y.1) (0,sZ,[]) ⟨⟨by omega,by omega⟩,OS.nil⟩ kE.c.c.c.c.c rH ?_
 rintro⟨i,w,T⟩ ⟨⟨m,o⟩,b⟩
 simp only at m o b⊢
 have E:=b.av
 refine .seq<|.sr<|.mo rfl<|.mo rfl<|.q (.di h) ?_
 refine .q .lss<|.mo rfl ?_
 refine .split (t:=13) rfl (λa=>?_) (λa=>?_)
 refine .gT a<|.mo rfl<|.gT a<|.mo rfl<|.gT a<|.q .lss<|.q (.aW a) ?_
 refine .zn ?_
 refine .cond rfl (λd=>?_) λd=>?_
 have p:i<l.length/\i<n:=by simp at a d;omega
 obtain⟨z,g⟩:∃z,l[i]? =some z:=⟨_,bB p.1⟩
 have D:(texts l i k).length<=i:=by simp[texts];omega
 have r:texts l (i+1) k=texts l i k++[short z k]:=by unfold texts;rw[acz,g];simp
 refine .kn<|.seq<|.block<|.region<|.mo rfl<|.mo rfl<|.mo rfl ?_
 refine .ct i h g (λF=>?_)
 refine .lo rfl<|.mo rfl ?_
 refine .aL (lO z k _) (λu s=>?_)
 subst s
 refine .hZ (λA=>?_)
 refine .append b (RS.lits (xs:=[short z k]) rfl (by simp[bz]) (by simp[bz,av])) (by simp;omega) (λx j f=>?_)
 rw[<-r]at f
 refine .ag rfl<|.nil<|bw<|aD<|.region<|.mo rfl ?_
 refine .q (.inc (n:=i) (by omega)) ?_
 refine .ag rfl<|.nil ?_
 ·exact bd (i+1,x,j) ⟨⟨by simp only;omega,by simp only;omega⟩,f⟩ (by simp only;omega) kE.c.c.c.c.c (aH [1])
 refine .exit<|bE<|bH<|bF<|aD<|.sr<|.mo rfl<|.az rfl ?_
 refine .ret (aN _ (.one (.tmp rfl)) rH ?_)
 ·refine⟨_,rfl,?_⟩
  have:i=n\/i=l.length:=by
   first
    |(simp at a d;omega)
    |(simp at a;omega)
  rcases this with e|e
  ·rw[<-e];exact b
  ·have:texts l n k=texts l i k:=by unfold texts;rw[e,ach,ac1 (by omega)]
   rw[this];exact b
 refine .gF a<|.gF a<|.gF a<|.q (.aQ a) ?_
 refine .zn<|.bX<|.exit<|bE<|bH<|bF<|aD<|.sr<|.mo rfl<|.az rfl ?_
 refine .ret (aN _ (.one (.tmp rfl)) rH ?_)
 ·refine⟨_,rfl,?_⟩
  have:i=n\/i=l.length:=by
   first
    |(simp at a d;omega)
    |(simp at a;omega)
  rcases this with e|e
  ·rw[<-e];exact b
  ·have:texts l n k=texts l i k:=by unfold texts;rw[e,ach,ac1 (by omega)]
   rw[this];exact b
theorem yh{l:List ByteArray}{n k:Nat}:∀s∈texts l n k,s.size<=k:=by
 intro s a
 obtain⟨t,_,rfl⟩:=acf.1 a
 exact sI
def dU(T:ax):au:=λb o=>(b,o)∈T/\∃c E,o=.cells c E (0,0)
theorem OS.dU{α:Type}{E sz:Nat}{enc:α->List Value}{v:Value}{xs:List α}{T:ax}(h:OS E sz enc v xs T):RS (Go.Proofs.YtkkmbiojicgobaaGreatDoor.dU T) sz enc v xs:=
 ⟨h.len,h.one,by
  rcases h.h with⟨rfl,rfl,rfl⟩|⟨b,a,c,d,rfl,rfl,e,f,i,g⟩
  ·exact⟨none,0,rfl,Nat.le_refl _,Nat.zero_le _,.inl rfl⟩
  ·exact⟨some ⟨b,a,none⟩,d,rfl,e,f,.inr ⟨b,a,c,E,(0,0),rfl,⟨by simp,c,E,rfl⟩,g⟩⟩⟩
theorem mK{A B:ax}{b:Nat}{o:Obj}(h:dU A b o):dU (A++B) b o:=⟨List.mem_append_left B h.1,h.2⟩
theorem nV{A B:ax}{b:Nat}{o:Obj}(h:dU B b o):dU (A++B) b o:=⟨List.mem_append_right A h.1,h.2⟩
section
variable{κ β γ:Type}
def dL(f:β->γ)(A:List (κ×β)):List (κ×γ):=A.map λp=>(p.1,f p.2)
theorem kM{f:β->γ}{A:List (κ×β)}:(dL f A).map (·.1)=A.map (·.1):=by rw[dL,acx];rfl
theorem mf{f:β->γ}{A B:List (κ×β)}(h:A.Perm B):(dL f A).Perm (dL f B):=h.map _
theorem mG{f:β->γ}{A:List (κ×β)}:(dL f A).length=A.length:=by simp[dL]
theorem oP{f:β->γ}{A:List (κ×β)}{p:κ×β}(h:p∈A):(p.1,f p.2)∈dL f A:=acf.2 ⟨p,h,rfl⟩
theorem qp{f:β->γ}{A:List (κ×β)}{p:κ×γ}(h:p∈dL f A):∃q∈A,p=(q.1,f q.2):=let ⟨q,h1,h2⟩:=acf.1 h;⟨q,h1,h2.symm⟩
variable [DecidableEq κ]
theorem nC{f:β->γ}{A:List (κ×β)}{k:κ}:dL f (dK k A)=dK k (dL f A):=by unfold dL dK;rw[List.filter_map];rfl
theorem mg{f:β->γ}{A:List (κ×β)}{k:κ}{x:β}:dL f (cO k x A)=cO k (f x) (dL f A):=by
 unfold cO;rw[<-nC];simp[dL]
theorem nD{f:β->γ}{k:κ}:∀{A:List (κ×β)},aS k (dL f A)=(aS k A).map f
 |[]=>rfl
 |(k',x)::A=>by
  have a:=nD (f:=f) (k:=k) (A:=A)
  simp only[dL,acs,aS]at a⊢
  split
  ·rfl
  ·exact a
theorem m4{k:κ}{x:β}:∀{M:List (κ×β)},(M.map (·.1)).Nodup->(il k x M).Perm (cO k x M)
 |[],_=>by simp[il,cO,dK]
 |(k',x')::M,hn=>by
  rw[acs,acu]at hn
  simp only[il]
  split
  ·rename_i h
   subst h
   unfold cO
   rw[oO hn.1]
   exact acT (l₁:=[(k,x)])
  ·rename_i h
   have a:=(m4 (k:=k) (x:=x) hn.2).cons (k',x')
   refine a.trans (List.Perm.of_eq ?_)
   unfold cO dK
   have:decide ((k',x').1≠k)=true:=ab9 λe=>h e.symm
   rw[acn,ab7 this]
   rfl
theorem oX{k:κ}{x:β}{M:List (κ×β)}(a:(M.map (·.1)).Nodup){p:κ×β}(h:p∈il k x M):p∈M\/p=(k,x):=by
 have:=(m4 a).mem_iff.1 h
 rcases acF.1 this with h|h
 ·exact .inl (acy.1 h).1
 ·exact .inr (by simpa using h)
theorem nE{k:κ}{x:β}{A:List (κ×β)}{p:κ×β}(h:p∈cO k x A):p∈A/\p.1≠k\/p=(k,x):=by
 rcases acF.1 h with h|h
 ·have:=acy.1 h
  exact .inl ⟨this.1,by simpa using this.2⟩
 ·exact .inr (by simpa using h)
theorem vK{k:κ}{x:β}{A:List (κ×β)}(a:(A.map (·.1)).Nodup)(h:aS k A=some x):(cO k x A).Perm A:=by
 obtain⟨X,Y,rfl⟩:=List.append_of_mem (fG h)
 unfold cO
 rw[vJ a]
 exact(List.perm_append_singleton _ _).trans acP.symm
end
theorem filter_one{k:ByteArray}:∀{l:List ByteArray},l.Nodup->k∈l->l.Perm (k::l.filter λk'=>decide (k'≠k))
 |[],_,h=>by cases h
 |x::l,hn,h=>by
  have b:=acu.1 hn
  by_cases a:x=k
  ·subst a
   have:l.filter (λk'=>decide (k'≠x))=l:=acJ.2 λy f=>by
    have:y≠x:=λe=>b.1 (e▸f)
    simp[this]
   rw[acn]
   simp only[ne_eq,not_true_eq_false,decide_false,acQ,acB]
   have c:l.filter (λk'=> !decide (k'=x))=l:=by simpa using this
   simp only[decide_not,c]
   exact .refl _
  ·have d:k∈l:=by
    rcases acv.1 h with e|h
    ·exact absurd e.symm a
    ·exact h
   have:=(filter_one b.2 d).cons x
   rw[acn,ab7 (by simp[a])]
   exact this.trans (List.Perm.swap k x _)
structure Tok where
 text:ByteArray
 kind:Int
 aC:ByteArray
 user:ByteArray
 scopes:List ByteArray
 family:Int
 cb:Int
 rev:Int
 used:Bool
abbrev TP:Type:=Value×Tok
def bA(p:TP):List Value:=[.string p.2.text,.int .i64 p.2.kind,.string p.2.aC,.string p.2.user,p.1,.int .i64 p.2.family,.int .i64 p.2.cb,.int .u64 p.2.rev,.bool p.2.used]
def dh(R:au)(p:TP):Prop:=RS R 1 bz p.1 p.2.scopes
theorem dh.mono{R R':au}{p:TP}(h:dh R p)(a:∀b o,R b o->R' b o):dh R' p:=RS.mono h a
theorem dh.bD{R:au}{p:TP}(h:dh R p):∀u∈bA p,av u=true:=by
 have b:=h.av.h
 intro u a
 simp only[bA,acv,acG,or_false]at a
 rcases a with rfl|rfl|rfl|rfl|rfl|rfl|rfl|rfl|rfl<;>first|rfl|assumption
def Tok.eh(t:Tok):Prop:=t.scopes.length<=1000000
def Tok.zero:Tok:=⟨⟨#[]⟩,0,⟨#[]⟩,⟨#[]⟩,[],0,0,0,false⟩
def tz:TP:=(sZ,Tok.zero)
theorem dh.zero(R:au):dh R tz:=RS.nK
theorem pr(w:Value)(t:Tok)(R:au)(h:dh R (w,t))(c:t.eh):Spec prog 45 [.agg (bA (w,t)).toArray] R [] λv H'=>∃T,H'=[T]/\∃w',v=.agg (bA (w',t)).toArray/\dh (dU T) (w',t):=by
 have k:bG (bA (w,t)):=⟨h.bD⟩
 have i:One w:=h.av
 have d:RS R 1 bz w t.scopes:=h
 refine Spec.body func45 rfl results45 ntmps45 rfl ?_
 refine .sr ?_
 refine .dA rfl (λf=>?_)
 refine .cG (λg=>?_)
 refine .z<|.fa rfl<|.lo rfl ?_
 refine .cW (nf w t.scopes _ d.rx c) (λe b a=>?_)
 have j:=a.av
 refine .fa rfl<|.cH rfl rfl<|.z<|.q (.bI rfl)<|.cc rfl rfl<|.zn ?_
 refine .ret (aN _ (.one (.dO rfl rfl)) (.one [0] _) ?_)
 ·exact⟨b,by simp[take],e,rfl,a.dU⟩
def VJ(g:Nat)(A:List (ByteArray×Tok))(last:Int)(Td T0:ax):Prop:=∃vm M q Tm Tq,T0=(g,.cells [vm,pT q,.int .i64 last].toArray 102 (0,0))::(Tm++Tq)/\
 MS (λs:ByteArray=>.string s) (λp:TP=>.agg (bA p).toArray) vm M Tm/\(∀p∈M,p.1=p.2.2.text/\dh (dU Td) p.2/\p.2.2.eh)/\(dL (λp:TP=>p.2) M).Perm A/\QI q (dL (λt:Tok=>t.cb) A) Tq
def VI(g:Nat)(A:List (ByteArray×Tok))(last:Int)(T:ax):Prop:=∃Td T0,T=T0++Td/\VJ g A last Td T0
theorem On{M:List (ByteArray×TP)}{A:List (ByteArray×Tok)}(b:(M.map (·.1)).Nodup)(a:(dL (λp:TP=>p.2) M).Perm A):(A.map (·.1)).Nodup:=((a.map (·.1)).nodup_iff).1 (by rw[kM];exact b)
theorem qS{M:List (ByteArray×TP)}{A:List (ByteArray×Tok)}{c:ax}(i:(M.map (·.1)).Nodup)(h:∀p∈M,p.1=p.2.2.text/\dh (dU c) p.2/\p.2.2.eh)(g:(dL (λp:TP=>p.2) M).Perm A)(k:ByteArray):
  ∃w t,((aS k M).map λp:TP=>Value.agg (bA p).toArray).getD (.agg (bA tz).toArray)=.agg (bA (w,t)).toArray/\dh (dU c) (w,t)/\t.eh/\(aS k M).isSome=(aS k A).isSome/\(aS k A).getD Tok.zero=t/\(∀u,aS k A=some u->u=t/\t.text=k/\aS k M=some (w,t)):=by
 have a:aS k A=(aS k M).map (·.2):=by rw[<-nJ g (by rw[kM];exact i),nD]
 cases hm:aS k M with
 |none=>rw[hm]at a;rw[a];exact⟨_,_,rfl,dh.zero _,by simp[Tok.eh,Tok.zero],rfl,rfl,λu b=>by cases b⟩
 |some p=>
  obtain⟨w,t⟩:=p
  rw[hm]at a;rw[a]
  obtain⟨d,e,f⟩:=h _ (fG hm)
  exact⟨w,t,rfl,e,f,rfl,rfl,λu b=>by cases b;exact⟨rfl,d.symm,rfl⟩⟩
theorem VI.keys{g:Nat}{A:List (ByteArray×Tok)}{last:Int}{T:ax}(h:VI g A last T):∀p∈A,p.1=p.2.text:=by
 obtain⟨e,_,rfl,l,M,q,f,i,rfl,j,b,a,k⟩:=h
 intro p c
 obtain⟨x,d,rfl⟩:=qp (a.mem_iff.2 c)
 exact(b x d).1
theorem VI.nd{g:Nat}{A:List (ByteArray×Tok)}{last:Int}{T:ax}(h:VI g A last T):(A.map (·.1)).Nodup:=by
 obtain⟨c,_,rfl,j,M,q,d,e,rfl,b,f,a,i⟩:=h
 exact On b.nd a
theorem Oo(R:au):Spec prog 20 [] R [] λv H'=>∃T,H'=[T]/\∃g,v=pT g/\VI g [] 0 T:=by
 refine Spec.body func20 rfl results20 ntmps20 rfl ?_
 refine .sr<|.ag rfl<|.z ?_
 refine .makeMap (λa=>?_)
 refine .cW (xn _) (λu b e=>?_)
 obtain⟨q,rfl,d⟩:=e
 refine .q .du ?_
 refine .dA rfl (λc=>?_)
 refine .az rfl ?_
 refine .ret (aN _ (.one (.tmp rfl)) ((aH [0,1,0]).trans (aU.bu (H':=[(c,.cells [.map (some a),pT q,.int .i64 0].toArray 102 (0,0))::([(a,.map #[] 0)]++b)++[]]) (by simp[take,aY];exact .refl _))) ?_)
 ·exact⟨_,rfl,_,rfl,[],_,rfl,.map (some a),[],q,_,b,rfl,MS.nil,by simp,.refl _,d⟩
theorem lR(g b:Nat)(x y:Value)(R:au) [pc:PC R (pT g) [.map (some b),x,y]]:Spec prog 44 [pT g] R [] λv H'=>v=.bool true/\H'=[]:=by
 refine Spec.body func44 rfl results44 ntmps44 rfl ?_
 refine .sr<|.ag rfl<|.z<|.mo rfl<|.q (.qu rfl rfl) ?_
 refine .mo rfl<|.gt rfl ?_
 refine .mo rfl<|.gt rfl ?_
 refine .nc rfl<|.gt rfl ?_
 refine .fa rfl<|.gt rfl ?_
 refine .lo rfl<|.gt rfl ?_
 refine .q (.qt rfl rfl) ?_
 refine .q .bY<|.az rfl ?_
 refine .ret (aO rfl ?_)
 ·exact⟨rfl,rfl⟩
theorem Om(g:Nat)(A:List (ByteArray×Tok))(last:Int)(T:ax)(h:VI g A last T)(o:0<=last)(f:last<=4611686018427387904)(R:au):
  Spec prog 77 [pT g] R [T] λv H'=>∃T',H'=[T']/\v=.int .i64 (last+1)/\VI g A (last+1) T':=by
 obtain⟨a,_,rfl,n,M,q,c,d,rfl,i,k,j,l⟩:=h
 obtain⟨e,rfl⟩:∃b,n=.map (some b):=by obtain⟨b,es,clock,f,_⟩:=i;exact⟨b,f⟩
 refine Spec.cX (H':=[bl g [.map (some e),pT q,.int .i64 last] 102,c++(d++a)]) (by simp) ?_
 refine Spec.body func77 rfl results77 ntmps77 rfl ?_
 refine .sr<|.ag rfl<|.zs<|.sr<|.mo rfl ?_
 refine .aL (lR g e _ _ _) (λv m=>?_)
 subst m
 refine .q .not<|.zn<|.bX<|.kn<|.sr<|.mo rfl<|.nc rfl<|.fa rfl<|.lo rfl ?_
 refine .q (.i64 (last+1) .add ⟨by omega,by omega,by omega⟩) ?_
 refine .nc rfl<|.fa rfl<|.cH rfl rfl<|.z<|.mo rfl<|.nc rfl<|.fa rfl<|.lo rfl<|.az rfl ?_
 refine .ret (aN _ (.one (.tmp rfl)) (.one [0,0] _) ?_)
 ·exact⟨((g,.cells [.map (some e),pT q,.int .i64 (last+1)].toArray 102 (0,0))::(c++d))++a,by simp[take,aY];rfl,rfl,a,_,rfl,_,M,q,c,d,rfl,i,k,j,l⟩
theorem qT(g:Nat)(A:List (ByteArray×Tok))(last:Int)(T:ax)(h:VI g A last T)(R:au)(d:∀p∈T,R p.1 p.2):
  Spec prog 55 [pT g] R [] λv H'=>v=.int .i64 last/\H'=[]:=by
 obtain⟨i,_,rfl,f,M,q,j,k,rfl,c,m,l,n⟩:=h
 obtain⟨a,rfl⟩:∃b,f=.map (some b):=by obtain⟨b,es,clock,h1,_⟩:=c;exact⟨b,h1⟩
 have o:PC R (pT g) [.map (some a),pT q,.int .i64 last]:=PC.of (E:=102) (fr:=(0,0)) (d (g,.cells [.map (some a),pT q,.int .i64 last].toArray 102 (0,0)) (by simp))
 refine Spec.body func55 rfl results55 ntmps55 rfl ?_
 refine .sr<|.ag rfl<|.zs<|.sr<|.mo rfl ?_
 refine .aL (lR g a _ _ _) (λv e=>?_)
 subst e
 refine .q .not<|.zn<|.bX<|.kn<|.sr<|.mo rfl<|.nc rfl<|.fa rfl<|.lo rfl<|.az rfl ?_
 refine .ret (aO rfl ?_)
 ·exact⟨rfl,rfl⟩
def hK(t:Tok)(last:Int):Bool:=(t.kind==1||t.kind==2)&&decide (1<=t.family)&&decide (t.family<=last)
theorem Ou(g:Nat)(x y:Value)(last:Int)(w:Value)(t:Tok)(R:au)(ho:One w) [pc:PC R (pT g) [x,y,.int .i64 last]]:
  Spec prog 207 [pT g,.agg (bA (w,t)).toArray] R [] λv H'=>v=.bool (hK t last)/\H'=[]:=by
 have i:bG (bA (w,t)):=⟨by
  have f:=ho.h
  intro u d
  simp only[bA,acv,acG,or_false]at d
  rcases d with rfl|rfl|rfl|rfl|rfl|rfl|rfl|rfl|rfl<;>first|rfl|assumption⟩
 refine Spec.body func207 rfl results207 ntmps207 rfl ?_
 refine .sr ?_
 refine .dA rfl (λe=>?_)
 refine .ag rfl<|.zs ?_
 refine .iA mixed (by kernel_rfl) ?_
 refine .fa rfl<|.lo rfl<|.q .bR<|.mo rfl ?_
 refine .split (t:=8) rfl (λb=>?_) (λb=>?_)
 refine .gF b<|.gF b<|.gF b<|.q (.aW b) ?_
 refine .mo rfl<|.gt rfl ?_
 refine .fa rfl<|.gt rfl ?_
 refine .lo rfl<|.gt rfl ?_
 refine .q .geq<|.q .bY<|.mo rfl ?_
 refine .split (t:=18) rfl (λa=>?_) (λa=>?_)
 refine .gT a<|.fa rfl<|.gT a<|.lo rfl<|.gT a<|.mo rfl<|.gT a ?_
 refine .nc rfl<|.gT a<|.fa rfl<|.gT a<|.lo rfl<|.gT a<|.q .leq<|.q (.aW a) ?_
 refine .az rfl ?_
 refine .ret (aO rfl ?_)
 ·refine⟨acH _ ?_,rfl⟩
  unfold hK
  simp_all<;>omega
 refine .gF a<|.gF a<|.gF a<|.gF a<|.gF a<|.gF a<|.gF a<|.q (.aQ a) ?_
 refine .az rfl ?_
 refine .ret (aO rfl ?_)
 ·refine⟨acH _ ?_,rfl⟩
  unfold hK
  simp_all<;>omega
 refine .gT b<|.fa rfl<|.gT b<|.lo rfl<|.gT b<|.q .bR<|.q (.aQ b) ?_
 refine .mo rfl ?_
 refine .split (t:=13) rfl (λc=>?_) (λc=>?_)
 refine .gT c<|.fa rfl<|.gT c<|.lo rfl<|.gT c<|.q .geq<|.q (.aW c) ?_
 refine .mo rfl ?_
 refine .split (t:=18) rfl (λa=>?_) (λa=>?_)
 refine .gT a<|.fa rfl<|.gT a<|.lo rfl<|.gT a<|.mo rfl<|.gT a ?_
 refine .nc rfl<|.gT a<|.fa rfl<|.gT a<|.lo rfl<|.gT a<|.q .leq<|.q (.aW a) ?_
 refine .az rfl ?_
 refine .ret (aO rfl ?_)
 ·refine⟨acH _ ?_,rfl⟩
  unfold hK
  simp_all<;>omega
 refine .gF a<|.gF a<|.gF a<|.gF a<|.gF a<|.gF a<|.gF a<|.q (.aQ a) ?_
 refine .az rfl ?_
 refine .ret (aO rfl ?_)
 ·refine⟨acH _ ?_,rfl⟩
  unfold hK
  simp_all<;>omega
 refine .gF c<|.gF c<|.gF c<|.q (.aQ c) ?_
 refine .mo rfl<|.gX<|.gX<|.gX<|.gX<|.gX<|.gX<|.gX<|.q .bW<|.az rfl ?_
 refine .ret (aO rfl ?_)
 ·refine⟨acH _ ?_,rfl⟩
  unfold hK
  simp_all<;>omega
theorem Oq(g:Nat)(A:List (ByteArray×Tok))(last:Int)(T:ax)(h:VI g A last T)(w:Value)(t:Tok)(R:au)(r:dh R (w,t))(n:t.eh)(J:A.length<1000000000):
  Spec prog 208 [pT g,.agg (bA (w,t)).toArray] R [T] λv H'=>∃T',H'=[T']/\v=.tuple #[]/\VI g (cO t.text t A) last T':=by
 obtain⟨d,_,rfl,H,M,q,x,j,rfl,c,z,y,C⟩:=h
 obtain⟨l,rfl⟩:∃b,H=.map (some b):=by obtain⟨b,es,clock,h1,_⟩:=c;exact⟨b,h1⟩
 have L:bG (bA (w,t)):=⟨r.bD⟩
 refine Spec.cX (H':=[bl g [.map (some l),pT q,.int .i64 last] 102,x,j,d]) (by simp) ?_
 refine Spec.body func208 rfl results208 ntmps208 rfl ?_
 refine .sr ?_
 refine .dA rfl (λI=>?_)
 refine .zs<|.cP [8] mixed ?_
 refine .tO 0 rfl .move<|.tO 1 rfl (.nilCheck rfl)<|.tO 2 rfl (.fieldAddr rfl)<|.tO 3 rfl (.bK rfl)<|.tO 4 rfl (.fieldAddr rfl)<|.tO 5 rfl (.bK rfl)<|.tO 6 rfl (.bI rfl) ?_
 refine .sT 7 rfl ?_
 refine .cW (pr w t _ (r.mono λb o a=>.inl a) n) (λv f e=>?_)
 obtain⟨s,rfl,m⟩:=e
 have K:bG (bA (s,t)):=⟨m.bD⟩
 refine .nil (Next.sub ?_)
 refine .sT 8 rfl ?_
 refine .update (u:=((s,t):TP)) c rfl (show _=some (Value.string t.text)from rfl) rfl (λi B _=>?_)
 refine .nil (Next.mod rfl ?_)
 refine RA.nil (by kernel_rfl) ?_
 refine aD ?_
 refine .dc 8 mixed (by kernel_rfl) ?_
 conv=>arg 6;dsimp only[List.take]
 refine .mo rfl<|.nc rfl<|.fa rfl<|.lo rfl<|.fa rfl<|.lo rfl<|.fa rfl<|.lo rfl<|.nil ?_
 refine .bT (xr q _ j C t.text t.cb (by rw[mG];omega) _) (λv k e=>?_)
 obtain⟨rfl,D⟩:=e
 refine .nil<|ed _ .none (.one [2,2,2,2,0] _) ?_
 ·refine⟨((g,.cells [.map (some l),pT q,.int .i64 last].toArray 102 (0,0))::(i++k))++(d++f),by simp[take,aY],rfl,d++f,_,rfl,_,_,q,i,k,rfl,B,λp hp=>?_,?_,by rw[mg];exact D⟩
  ·rcases oX c.nd hp with hp|rfl
   ·obtain⟨E,F,G⟩:=z p hp
    exact⟨E,F.mono λb o a=>mK a,G⟩
   ·exact⟨rfl,m.mono λb o a=>nV a,n⟩
  ·exact(mf (m4 c.nd)).trans (by rw[mg];exact mH y)
structure bJ where
 text:ByteArray
 aC:ByteArray
 user:ByteArray
 uri:ByteArray
 scopes:List ByteArray
 lB:ByteArray
 cb:Int
 family:Int
 used:Bool
abbrev GP:Type:=Value×bJ
def bM(p:GP):List Value:=[.string p.2.text,.string p.2.aC,.string p.2.user,.string p.2.uri,p.1,.string p.2.lB,.int .i64 p.2.cb,.int .i64 p.2.family,.bool p.2.used]
def dl(R:au)(p:GP):Prop:=RS R 1 bz p.1 p.2.scopes
theorem dl.mono{R R':au}{p:GP}(h:dl R p)(a:∀b o,R b o->R' b o):dl R' p:=RS.mono h a
theorem dl.bD{R:au}{p:GP}(h:dl R p):∀u∈bM p,av u=true:=by
 have b:=h.av.h
 intro u a
 simp only[bM,acv,acG,or_false]at a
 rcases a with rfl|rfl|rfl|rfl|rfl|rfl|rfl|rfl|rfl<;>first|rfl|assumption
theorem Aj{w:Value}{t:bJ}(h:One w):bG (bM (w,t)):=⟨by
 have b:=h.h
 intro u a
 simp only[bM,acv,acG,or_false]at a
 rcases a with rfl|rfl|rfl|rfl|rfl|rfl|rfl|rfl|rfl<;>first|rfl|assumption⟩
def bJ.eh(t:bJ):Prop:=t.scopes.length<=1000000
def bJ.zero:bJ:=⟨⟨#[]⟩,⟨#[]⟩,⟨#[]⟩,⟨#[]⟩,[],⟨#[]⟩,0,0,false⟩
def gz:GP:=(sZ,bJ.zero)
theorem dl.zero(R:au):dl R gz:=RS.nK
theorem ql(w:Value)(t:bJ)(R:au)(h:dl R (w,t))(c:t.eh):Spec prog 124 [.agg (bM (w,t)).toArray] R [] λv H'=>∃T,H'=[T]/\∃w',v=.agg (bM (w',t)).toArray/\dl (dU T) (w',t):=by
 have k:bG (bM (w,t)):=⟨h.bD⟩
 have i:One w:=h.av
 have d:RS R 1 bz w t.scopes:=h
 refine Spec.body func124 rfl results124 ntmps124 rfl ?_
 refine .sr ?_
 refine .dA rfl (λf=>?_)
 refine .cG (λg=>?_)
 refine .z<|.fa rfl<|.lo rfl ?_
 refine .cW (nf w t.scopes _ d.rx c) (λe b a=>?_)
 have j:=a.av
 refine .fa rfl<|.cH rfl rfl<|.z<|.q (.bI rfl)<|.cc rfl rfl<|.zn ?_
 refine .ret (aN _ (.one (.dO rfl rfl)) (.one [0] _) ?_)
 ·exact⟨b,by simp[take],e,rfl,a.dU⟩
abbrev cw:Type:=ByteArray×ByteArray
def gY(k:cw):List Value:=[.string k.1,.string k.2]
theorem OA(k:cw):fB [.s,.s] (gY k):=⟨acp,acp,acp⟩
theorem Oz(k r:cw):jc (gY k) (gY r)=decide (k=r):=by
 obtain⟨a,b⟩:=k
 obtain⟨c,d⟩:=r
 simp only[gY,jc,oo,Prod.mk.injEq]
 rw[acd];simp
instance Pc(k:cw):bG (gY k):=⟨by simp[gY,av]⟩
instance Pb:iO prog 169 (λk:cw=>.agg (gY k).toArray):=iO.agg uR underlying169 rfl OA Oz
abbrev WS:Type:=Value×List ByteArray
def GJ(g:Nat)(C:List (cw×List ByteArray))(A:List (ByteArray×bJ))(Td T0:ax):Prop:=∃vc MC vm M q Tc Tm Tq,T0=(g,.cells [vc,vm,pT q].toArray 132 (0,0))::(Tc++(Tm++Tq))/\
 (MS (λk:cw=>.agg (gY k).toArray) (λp:WS=>p.1) vc MC Tc/\(∀p∈MC,RS (dU Td) 1 bz p.2.1 p.2.2)/\(dL (λp:WS=>p.2) MC).Perm C)/\
 (MS (λs:ByteArray=>.string s) (λp:GP=>.agg (bM p).toArray) vm M Tm/\(∀p∈M,p.1=p.2.2.text/\dl (dU Td) p.2/\p.2.2.eh)/\(dL (λp:GP=>p.2) M).Perm A/\QI q (dL (λt:bJ=>t.cb) A) Tq)
def GI(g:Nat)(C:List (cw×List ByteArray))(A:List (ByteArray×bJ))(T:ax):Prop:=∃Td T0,T=T0++Td/\GJ g C A Td T0
theorem Kh{M:List (ByteArray×GP)}{A:List (ByteArray×bJ)}(b:(M.map (·.1)).Nodup)(a:(dL (λp:GP=>p.2) M).Perm A):(A.map (·.1)).Nodup:=((a.map (·.1)).nodup_iff).1 (by rw[kM];exact b)
theorem vy{M:List (ByteArray×GP)}{A:List (ByteArray×bJ)}{c:ax}(i:(M.map (·.1)).Nodup)(h:∀p∈M,p.1=p.2.2.text/\dl (dU c) p.2/\p.2.2.eh)(g:(dL (λp:GP=>p.2) M).Perm A)(k:ByteArray):
  ∃w t,((aS k M).map λp:GP=>Value.agg (bM p).toArray).getD (.agg (bM gz).toArray)=.agg (bM (w,t)).toArray/\dl (dU c) (w,t)/\t.eh/\(aS k M).isSome=(aS k A).isSome/\(aS k A).getD bJ.zero=t/\(∀u,aS k A=some u->u=t/\t.text=k/\aS k M=some (w,t)):=by
 have a:aS k A=(aS k M).map (·.2):=by rw[<-nJ g (by rw[kM];exact i),nD]
 cases hm:aS k M with
 |none=>rw[hm]at a;rw[a];exact⟨_,_,rfl,dl.zero _,by simp[bJ.eh,bJ.zero],rfl,rfl,λu b=>by cases b⟩
 |some p=>
  obtain⟨w,t⟩:=p
  rw[hm]at a;rw[a]
  obtain⟨d,e,f⟩:=h _ (fG hm)
  exact⟨w,t,rfl,e,f,rfl,rfl,λu b=>by cases b;exact⟨rfl,d.symm,rfl⟩⟩
theorem GI.keys{g:Nat}{C:List (cw×List ByteArray)}{A:List (ByteArray×bJ)}{T:ax}(h:GI g C A T):∀p∈A,p.1=p.2.text:=by
 obtain⟨i,_,rfl,s,e,t,M,q,f,j,k,rfl,⟨o,m,l⟩,n,b,a,r⟩:=h
 intro p c
 obtain⟨x,d,rfl⟩:=qp (a.mem_iff.2 c)
 exact(b x d).1
theorem GI.nd{g:Nat}{C:List (cw×List ByteArray)}{A:List (ByteArray×bJ)}{T:ax}(h:GI g C A T):(A.map (·.1)).Nodup:=by
 obtain⟨e,_,rfl,o,c,p,M,q,d,f,i,rfl,⟨m,l,j⟩,b,k,a,n⟩:=h
 exact Kh b.nd a
theorem GI.KU{g:Nat}{C:List (cw×List ByteArray)}{A:List (ByteArray×bJ)}{T:ax}(h:GI g C A T):(C.map (·.1)).Nodup:=by
 obtain⟨e,_,rfl,o,c,p,M,q,d,f,i,rfl,⟨b,l,a⟩,m,k,j,n⟩:=h
 exact((a.map (·.1)).nodup_iff).1 (by rw[kM];exact b.nd)
theorem Kk(R:au):Spec prog 19 [] R [] λv H'=>∃T,H'=[T]/\∃g,v=pT g/\GI g [] [] T:=by
 refine Spec.body func19 rfl results19 ntmps19 rfl ?_
 refine .sr<|.ag rfl<|.z ?_
 refine .makeMap (λa=>?_)
 refine .makeMap (λb=>?_)
 refine .cW (xn _) (λu c f=>?_)
 obtain⟨q,rfl,e⟩:=f
 refine .q .du ?_
 refine .dA rfl (λd=>?_)
 refine .az rfl ?_
 refine .ret (aN _ (.one (.tmp rfl)) ((aH [0,2,1,0]).trans (aU.bu (H':=[(d,.cells [.map (some a),.map (some b),pT q].toArray 132 (0,0))::([(a,.map #[] 0)]++([(b,.map #[] 0)]++c))++[]]) (by simp[take,aY];exact .refl _))) ?_)
 ·exact⟨_,rfl,_,rfl,[],_,rfl,.map (some a),[],.map (some b),[],q,_,_,c,rfl,⟨MS.nil,by simp,.refl _⟩,MS.nil,by simp,.refl _,e⟩
theorem ma(g b:Nat)(x y:Value)(R:au) [pc:PC R (pT g) [x,.map (some b),y]]:Spec prog 121 [pT g] R [] λv H'=>v=.bool true/\H'=[]:=by
 refine Spec.body func121 rfl results121 ntmps121 rfl ?_
 refine .sr<|.ag rfl<|.z<|.mo rfl<|.q (.qu rfl rfl) ?_
 refine .mo rfl<|.gt rfl ?_
 refine .mo rfl<|.gt rfl ?_
 refine .nc rfl<|.gt rfl ?_
 refine .fa rfl<|.gt rfl ?_
 refine .lo rfl<|.gt rfl ?_
 refine .q (.qt rfl rfl) ?_
 refine .q .bY<|.az rfl ?_
 refine .ret (aO rfl ?_)
 ·exact⟨rfl,rfl⟩
theorem Kn(g:Nat)(C:List (cw×List ByteArray))(A:List (ByteArray×bJ))(T:ax)(h:GI g C A T)(w:Value)(t:bJ)(R:au)(z:dl R (w,t))(y:t.eh)(X:A.length<1000000000):
  Spec prog 150 [pT g,.agg (bM (w,t)).toArray] R [T] λv H'=>∃T',H'=[T']/\v=.tuple #[]/\GI g C (cO t.text t A) T':=by
 obtain⟨e,_,rfl,j,D,V,M,q,d,E,m,rfl,⟨s,K,I⟩,c,J,H,N⟩:=h
 obtain⟨r,rfl⟩:∃b,V=.map (some b):=by obtain⟨b,G,F,f,_⟩:=c;exact⟨b,f⟩
 have io:bG (bM (w,t)):=⟨z.bD⟩
 have Z:One j:=⟨by obtain⟨b,G,F,f,_⟩:=s;subst f;rfl⟩
 refine Spec.cX (H':=[bl g [j,.map (some r),pT q] 132,d,E,m,e]) (by simp) ?_
 refine Spec.body func150 rfl results150 ntmps150 rfl ?_
 refine .sr ?_
 refine .dA rfl (λW=>?_)
 refine .zs<|.cP [8] mixed ?_
 refine .tO 0 rfl .move<|.tO 1 rfl (.nilCheck rfl)<|.tO 2 rfl (.fieldAddr rfl)<|.tO 3 rfl (.bK rfl)<|.tO 4 rfl (.fieldAddr rfl)<|.tO 5 rfl (.bK rfl)<|.tO 6 rfl (.bI rfl) ?_
 refine .sT 7 rfl ?_
 refine .cW (ql w t _ (z.mono λb o a=>.inl a) y) (λv k i=>?_)
 obtain⟨B,rfl,x⟩:=i
 have Y:bG (bM (B,t)):=⟨x.bD⟩
 refine .nil (Next.sub ?_)
 refine .sT 8 rfl ?_
 refine .update (u:=((B,t):GP)) c rfl (show _=some (Value.string t.text)from rfl) rfl (λl L _=>?_)
 refine .nil (Next.mod rfl ?_)
 refine RA.nil (by kernel_rfl) ?_
 refine aD ?_
 refine .dc 8 mixed (by kernel_rfl) ?_
 conv=>arg 6;dsimp only[List.take]
 refine .mo rfl<|.nc rfl<|.fa rfl<|.lo rfl<|.fa rfl<|.lo rfl<|.fa rfl<|.lo rfl<|.nil ?_
 refine .bT (xr q _ m N t.text t.cb (by rw[mG];omega) _) (λv n i=>?_)
 obtain⟨rfl,O⟩:=i
 refine .nil<|ed _ .none (.one [2,2,2,2,2,0] _) ?_
 ·refine⟨((g,.cells [j,.map (some r),pT q].toArray 132 (0,0))::(d++(l++n)))++(e++k),by simp[take,aY],rfl,e++k,_,rfl,_,D,_,_,q,d,l,n,rfl,⟨s,λp hp=>(K p hp).mono λb o a=>mK a,I⟩,L,λp hp=>?_,?_,by rw[mg];exact O⟩
  ·rcases oX c.nd hp with hp|rfl
   ·obtain⟨Q,S,U⟩:=J p hp
    exact⟨Q,S.mono λb o a=>mK a,U⟩
   ·exact⟨rfl,x.mono λb o a=>nV a,y⟩
  ·exact(mf (m4 c.nd)).trans (by rw[mg];exact mH H)
def bJ.fresh(t:bJ):bJ:=⟨t.text,t.aC,t.user,t.uri,t.scopes,t.lB,t.cb,t.family,false⟩
def dp(A:List (ByteArray×bJ))(t:bJ):Int×List (ByteArray×bJ):=
 if(aS t.text A).isSome then(22,A)else if 4096<=A.length then(8,A)else(0,cO t.text t.fresh A)
theorem Ki(g:Nat)(C:List (cw×List ByteArray))(A:List (ByteArray×bJ))(T:ax)(h:GI g C A T)(w:Value)(t:bJ)(R:au)(k:dl R (w,t))(I:t.eh):
  Spec prog 76 [pT g,.agg (bM (w,t)).toArray] R [T] λv H'=>∃T',H'=[T']/\v=.int .i64 (dp A t).1/\GI g C (dp A t).2 T':=by
 have f:=h
 obtain⟨o,_,rfl,m,O,N,M,q,n,p,r,rfl,⟨F,V,U⟩,c,E,s,W⟩:=h
 obtain⟨d,rfl⟩:∃b,N=.map (some b):=by obtain⟨b,D,B,i,_⟩:=c;exact⟨b,i⟩
 have io:bG (bM (w,t)):=⟨k.bD⟩
 have iw:One w:=k.av
 have ic:One m:=⟨by obtain⟨b,D,B,i,_⟩:=F;subst i;rfl⟩
 have Y:M.length=A.length:=by simpa[mG]using s.length_eq
 obtain⟨x,u,K,H,X,L,_,_⟩:=vy c.nd E s t.text
 have Z:bG (bM (x,u)):=⟨H.bD⟩
 refine Spec.cX (H':=[bl g [m,.map (some d),pT q] 132,n,p,r,o]) (by simp) ?_
 refine Spec.body func76 rfl results76 ntmps76 rfl ?_
 refine .sr ?_
 refine .dA rfl (λQ=>?_)
 refine .ag rfl<|.zs<|.sr<|.mo rfl ?_
 refine .aL (ma g d _ _ _) (λv l=>?_)
 subst l
 refine .q .not<|.zn<|.bX<|.kn<|.seq<|.seq<|.cP [11] mixed ?_
 refine .tO 0 rfl .move<|.tO 1 rfl (.nilCheck rfl)<|.tO 2 rfl (.fieldAddr rfl)<|.tO 3 rfl (.bK rfl)<|.tO 4 rfl (.fieldAddr rfl)<|.tO 5 rfl (.bK rfl) ?_
 refine .eA 6 rfl (aP.cast (v':=.tuple [.agg (bM (x,u)).toArray,.bool (aS t.text A).isSome].toArray) (.kN c.rx rfl (show _=some (Value.string t.text)from rfl)) (by rw[<-L, <-K];rfl)) (by kernel_rfl) ?_
 refine .tO 7 rfl .move<|.tO 8 rfl .extract<|.tK 9 rfl .extract ?_
 refine .sT 10 rfl ?_
 refine .cG (λS=>?_)
 refine .nil (Next.sub ?_)
 refine .sT 11 rfl ?_
 refine .cc rfl rfl ?_
 refine .nil (Next.mod rfl ?_)
 refine .tK 12 rfl .assign ?_
 refine RA.nil (by kernel_rfl) ?_
 refine aD<|.sr<|.mo rfl<|.zn ?_
 refine .cond rfl (λa=>?_) λa=>?_
 refine .sr<|.az rfl ?_
 refine .ret (aI (aN _ (.one (.tmp rfl)) (.one [2,2,2,2,2] _) ?_))
 ·have e:dp A t=(22,A):=by unfold dp;rw[ab7 a]
  rw[e];exact⟨_,by simp[take,aY],rfl,f⟩
 refine .kn<|.seq<|.sr<|.mo rfl<|.nc rfl<|.fa rfl<|.lo rfl<|.q (.r0 c.rx rfl) ?_
 refine .q .geq<|.zn ?_
 refine .cond rfl (λj=>?_) λj=>?_
 refine .sr<|.az rfl ?_
 refine .ret (aI (aN _ (.one (.tmp rfl)) (.one [2,2,2,2,2] _) ?_))
 ·have e:dp A t=(8,A):=by unfold dp;rw[ab8 (by rw[a];simp),ab7 (by have:=bq j;omega)]
  rw[e];exact⟨_,by simp[take,aY],rfl,f⟩
 have J:¬4096<=A.length:=by have:=bi j;omega
 refine .kn<|.sr<|.fa rfl<|.cH rfl rfl<|.z<|.mo rfl<|.q (.bI rfl) ?_
 refine .sub (H':=[((g,.cells [m,.map (some d),pT q].toArray 132 (0,0))::(n++(p++r)))++o]) ((aH [2,2,2,2,2]).trans (aU.bu (by simp[take,aY]))) ?_
 refine .bT (Kn g C A _ f w t.fresh _ k I (by omega)) (λv y l=>?_)
 obtain⟨rfl,G⟩:=l
 refine .z<|.az rfl ?_
 refine .ret (aN _ (.one (.tmp rfl)) (.one [0] _) ?_)
 ·have e:dp A t=(0,cO t.text t.fresh A):=by unfold dp;rw[ab8 (by rw[a];simp),ab8 J]
  rw[e];exact⟨y,by simp[take],rfl,G⟩
theorem oW{α:Type}{l:List α}{i:Nat}{x:α}(h:l[i]? =some x)(y:α):y∈l.take (i+1)↔y∈l.take i\/y=x:=by
 rw[acz,h];simp
theorem nL{α:Type}{l:List α}{i:Nat}{x:α}(h:l[i]? =some x):(l.take (i+1)).Nodup↔(l.take i).Nodup/\x∉l.take i:=by
 rw[acz,h,acK]
 simp only[Option.toList_some,acu,acG,not_false_eq_true,List.nodup_nil,and_self,true_and,List.mem_singleton]
 constructor
 ·rintro⟨c,d⟩
  exact⟨c,λj=>d x j x rfl rfl⟩
 ·rintro⟨c,d⟩
  exact⟨c,λa f b g=>by rw[g];exact λe=>d (e▸f)⟩
theorem Nk(v:Value)(l:List ByteArray)(s:ByteArray)(R:au)(h:RS R 1 bz v l):
  Spec prog 198 [v,.string s] R [] λu H'=>(∃k:Int,u=.int .i64 k/\(0<=k↔s∈l))/\H'=[]:=by
 have m:=h.le
 refine Spec.body func198 rfl results198 ntmps198 rfl ?_
 refine .sr<|.ag rfl<|.zs<|.sr<|.mo rfl<|.q (.di h) ?_
 refine .mo rfl<|.zn<|.block ?_
 refine .loop (X:=Nat) (λi=>i<=l.length/\s∉l.take i) (λi=>[(0,v),(1,.string s),(7,.int .i64 l.length),(8,iN i)]) (λ_=>[]) (λi=>l.length-i) 0 ⟨by omega,by simp⟩ kE.c.c.c.c rH ?_
 rintro i ⟨j,e⟩
 refine .sr<|.q .lss<|.zs ?_
 refine .cond rfl (λb=>?_) λb=>?_
 have g:i<l.length:=by simp at b;omega
 obtain⟨z,f⟩:=dR g
 refine .kn<|.seq<|.block<|.sr<|.mo rfl<|.ag rfl<|.z<|.mo rfl<|.mo rfl<|.mo rfl ?_
 refine .ct i h f (λo=>?_)
 refine .lo rfl<|.q .eg<|.zn ?_
 refine .cond rfl (λa=>?_) λa=>?_
 refine .sr<|.mo rfl<|.az rfl ?_
 refine .ret (bp (aI (dj (bp (aI (aO rfl ?_))))))
 ·have d:s=z:=by simpa using a
  exact⟨⟨_,rfl,by rw[d];simp[bU f]⟩,rfl⟩
 refine .skip<|bw<|aD<|.region ?_
 refine .q (.inc (n:=i) (by omega)) ?_
 refine .mo rfl<|.nil ?_
 ·exact bd (i+1) ⟨by omega,by rw[oW f];simp at a;simp[e,a]⟩ (by omega) kE.c.c.c.c rH
 refine .exit<|bE<|bH<|bF<|aD<|.sr<|.az rfl ?_
 refine .ret (aO rfl ?_)
 ·have d:i=l.length:=by simp at b;omega
  rw[d,ach]at e
  exact⟨⟨_,rfl,by simp[e]⟩,rfl⟩
theorem qI(v:Value)(l:List ByteArray)(s:ByteArray)(R:au)(h:RS R 1 bz v l):
  Spec prog 144 [v,.string s] R [] λu H'=>u=.bool (decide (s∈l))/\H'=[]:=by
 refine Spec.body func144 rfl results144 ntmps144 rfl ?_
 refine .sr<|.ag rfl<|.z<|.mo rfl<|.mo rfl ?_
 refine .aL (Nk v l s _ h.rx) (λu b=>?_)
 obtain⟨k,rfl,a⟩:=b
 refine .q .geq<|.az rfl ?_
 refine .ret (aO rfl ?_)
 ·exact⟨by simp only[a],rfl⟩
theorem nA(v:Value)(l:List ByteArray)(s:ByteArray)(R:au)(h:RS R 1 bz v l):
  Spec prog 114 [v,.string s] R [] λu H'=>u=.bool (decide (s∈l))/\H'=[]:=by
 have m:=h.le
 refine Spec.body func114 rfl results114 ntmps114 rfl ?_
 refine .sr<|.ag rfl<|.zs<|.sr<|.az rfl<|.block ?_
 refine .loop (X:=Nat) (λi=>i<=l.length/\s∉l.take i) (λi=>[(0,v),(1,.string s),(5,iN i)]) (λ_=>[]) (λi=>l.length-i) 0 ⟨by omega,by simp⟩ kE.c.c.c rH ?_
 rintro i ⟨k,f⟩
 refine .seq<|.sr<|.mo rfl<|.mo rfl<|.q (.di h) ?_
 refine .q .lss<|.zn ?_
 refine .cond rfl (λb=>?_) λb=>?_
 have j:i<l.length:=by simp at b;omega
 obtain⟨z,g⟩:=dR j
 refine .kn<|.seq<|.block<|.sr<|.mo rfl<|.mo rfl ?_
 refine .ct i h g (λo=>?_)
 refine .lo rfl<|.mo rfl<|.q .eg<|.zn ?_
 refine .cond rfl (λa=>?_) λa=>?_
 refine .sr<|.az rfl ?_
 refine .ret (bp (aI (dj (bp (aI (aO rfl ?_))))))
 ·have d:z=s:=by simpa using a
  exact⟨by rw[ab9 (d▸bU g)],rfl⟩
 refine .skip<|bw<|aD<|.region<|.mo rfl ?_
 refine .q (.inc (n:=i) (by omega)) ?_
 refine .ag rfl<|.nil ?_
 ·exact bd (i+1) ⟨by omega,by rw[oW g];simp at a;simp only[f,false_or];exact λe=>a e.symm⟩ (by omega) kE.c.c.c rH
 refine .exit<|bE<|bH<|bF<|aD<|.sr<|.az rfl ?_
 refine .ret (aO rfl ?_)
 ·have d:i=l.length:=by simp at b;omega
  rw[d,ach]at f
  exact⟨by rw[acg f],rfl⟩
theorem rC(v:Value)(l:List ByteArray)(R:au)(h:RS R 1 bz v l):
  Spec prog 141 [v] R [] λu H'=>u=.bool (decide l.Nodup)/\H'=[]:=by
 have s:=h.le
 refine Spec.body func141 rfl results141 ntmps141 rfl ?_
 refine .sr<|.ag rfl<|.zs<|.sr<|.mo rfl<|.q (.di h) ?_
 refine .mo rfl<|.zn<|.block ?_
 refine .loop (X:=Nat) (λi=>i<=l.length/\(l.take i).Nodup) (λi=>[(0,v),(5,v),(6,.int .i64 l.length),(7,iN i)]) (λ_=>[]) (λi=>l.length-i) 0 ⟨by omega,by simp⟩ kE.c.c.c.c rH ?_
 rintro i ⟨r,d⟩
 refine .sr<|.q .lss<|.zs ?_
 refine .cond rfl (λa=>?_) λa=>?_
 have k:i<l.length:=by simp at a;omega
 obtain⟨z,e⟩:=dR k
 refine .kn<|.seq<|.block<|.sr<|.mo rfl ?_
 refine .ct i h e (λt=>?_)
 refine .lo rfl<|.ag rfl<|.ag rfl<|.z<|.mo rfl<|.mo rfl ?_
 refine .jS 0 i h rfl ⟨_,rfl⟩ (by omega) (by omega) (λp f=>?_)
 rw[List.drop_zero,Nat.sub_zero]at f
 refine .mo rfl ?_
 refine .aL (qI p _ z _ f.rx) (λu m=>?_)
 subst m
 refine .zn ?_
 refine .cond rfl (λb=>?_) λb=>?_
 refine .sr<|.az rfl ?_
 refine .ret (bp (aI (dj (bp (aI (aO rfl ?_))))))
 ·have o:z∈l.take i:=by simpa using b
  exact⟨by rw[acg (λg:l.Nodup=>((nL e).1 (g.sublist (List.take_sublist _ _))).2 o)],rfl⟩
 refine .skip<|bw<|aD<|.region ?_
 refine .q (.inc (n:=i) (by omega)) ?_
 refine .mo rfl<|.nil ?_
 ·exact bd (i+1) ⟨by omega,(nL e).2 ⟨d,by simpa using b⟩⟩ (by omega) kE.c.c.c.c rH
 refine .exit<|bE<|bH<|bF<|aD<|.sr<|.az rfl ?_
 refine .ret (aO rfl ?_)
 ·have j:i=l.length:=by simp at a;omega
  rw[j,ach]at d
  exact⟨by rw[ab9 d],rfl⟩
theorem sV(v:Value)(l:List ByteArray)(R:au)(h:RS R 1 bz v l):
  Spec prog 164 [v] R [] λu H'=>u=.bool (!decide l.Nodup)/\H'=[]:=by
 have s:=h.le
 refine Spec.body func164 rfl results164 ntmps164 rfl ?_
 refine .sr<|.ag rfl<|.zs<|.sr<|.az rfl<|.block ?_
 refine .loop (X:=Nat) (λi=>i<=l.length/\(l.take i).Nodup) (λi=>[(0,v),(3,iN i)]) (λ_=>[]) (λi=>l.length-i) 0 ⟨by omega,by simp⟩ kE.c.c rH ?_
 rintro i ⟨r,d⟩
 refine .seq<|.sr<|.mo rfl<|.mo rfl<|.q (.di h) ?_
 refine .q .lss<|.zn ?_
 refine .cond rfl (λa=>?_) λa=>?_
 have k:i<l.length:=by simp at a;omega
 obtain⟨z,e⟩:=dR k
 refine .kn<|.seq<|.block<|.seq ?_
 refine .dc 7 mixed (by kernel_rfl) ?_
 conv=>arg 6;dsimp only[List.take]
 refine .mo rfl<|.mo rfl ?_
 refine .jS 0 i h rfl ⟨_,rfl⟩ (by omega) (by omega) (λp f=>?_)
 rw[List.drop_zero,Nat.sub_zero]at f
 refine .mo rfl<|.mo rfl ?_
 refine .ct i h e (λt=>?_)
 refine .lo rfl<|.nil ?_
 refine .aL (nA p _ z _ f.rx) (λu m=>?_)
 subst m
 refine .zn ?_
 refine .cond rfl (λb=>?_) λb=>?_
 refine .sr<|.az rfl ?_
 refine .ret (bp (aI (dj (bp (aI (aO rfl ?_))))))
 ·have o:z∈l.take i:=by simpa using b
  exact⟨by rw[acg (λg:l.Nodup=>((nL e).1 (g.sublist (List.take_sublist _ _))).2 o)];rfl,rfl⟩
 refine .skip<|bw<|aD<|.region<|.mo rfl ?_
 refine .q (.inc (n:=i) (by omega)) ?_
 refine .ag rfl<|.nil ?_
 ·exact bd (i+1) ⟨by omega,(nL e).2 ⟨d,by simpa using b⟩⟩ (by omega) kE.c.c rH
 refine .exit<|bE<|bH<|bF<|aD<|.sr<|.az rfl ?_
 refine .ret (aO rfl ?_)
 ·have j:i=l.length:=by simp at a;omega
  rw[j,ach]at d
  exact⟨by rw[ab9 d];rfl,rfl⟩
theorem Nj(f:FuncId)(caps:List Value) [e:aw prog f](p:ByteArray->Bool)(v:Value)(l:List ByteArray)(R:au)(h:RS R 1 bz v l)(w:∀s∈l,∀R',(∀b o,R b o->R' b o)->Spec prog f (.string s::caps) R' [] λu H'=>u=.bool (p s)/\H'=[]):
  Spec prog 210 [v,.func (.func f) #[] caps.toArray] R [] λu H'=>(∃k:Int,u=.int .i64 k/\(decide (0<=k)=l.any p))/\H'=[]:=by
 have C:=h.le
 refine Spec.body func210 rfl results210 ntmps210 rfl ?_
 refine .sr<|.ag rfl<|.zs<|.sr<|.mo rfl<|.q (.di h) ?_
 refine .mo rfl<|.zn<|.block ?_
 refine .loop (X:=Nat) (λi=>i<=l.length/\(l.take i).any p=false) (λi=>[(0,v),(1,.func (.func f) #[] caps.toArray),(7,.int .i64 l.length),(8,iN i)]) (λ_=>[]) (λi=>l.length-i) 0 ⟨by omega,by simp⟩ kE.c.c.c.c rH ?_
 rintro i ⟨B,g⟩
 refine .sr<|.q .lss<|.zs ?_
 refine .cond rfl (λa=>?_) λa=>?_
 have x:i<l.length:=by simp at a;omega
 obtain⟨z,j⟩:=dR x
 have m:=bU j
 have y:(l.take (i+1)).any p=((l.take i).any p||p z):=by rw[acz,j,List.any_append];simp
 refine .kn<|.seq<|.block<|.sr<|.mo rfl<|.ag rfl<|.z<|.mo rfl<|.mo rfl<|.mo rfl ?_
 refine .ct i h j (λD=>?_)
 refine .lo rfl ?_
 refine .gD (first:=[]) (captured:=caps) (vs:=[.string z]) (w z m _ λb o r=>.inl r) (λu A=>?_)
 subst A
 refine .zn ?_
 refine .cond rfl (λd=>?_) λd=>?_
 refine .sr<|.mo rfl<|.az rfl ?_
 refine .ret (bp (aI (dj (bp (aI (aO rfl ?_))))))
 ·refine⟨⟨_,rfl,?_⟩,rfl⟩
  rw[List.any_eq_true.2 ⟨z,m,d⟩];simp
 refine .skip<|bw<|aD<|.region ?_
 refine .q (.inc (n:=i) (by omega)) ?_
 refine .mo rfl<|.nil ?_
 ·exact bd (i+1) ⟨by omega,by rw[y,g,d];rfl⟩ (by omega) kE.c.c.c.c rH
 refine .exit<|bE<|bH<|bF<|aD<|.sr<|.az rfl ?_
 refine .ret (aO rfl ?_)
 ·have t:i=l.length:=by simp at a;omega
  rw[t,ach]at g
  exact⟨⟨_,rfl,by rw[g];rfl⟩,rfl⟩
theorem sE(f:FuncId)(caps:List Value) [e:aw prog f](p:ByteArray->Bool)(v:Value)(l:List ByteArray)(R:au)(h:RS R 1 bz v l)(d:∀s∈l,∀R',(∀b o,R b o->R' b o)->Spec prog f (.string s::caps) R' [] λu H'=>u=.bool (p s)/\H'=[]):
  Spec prog 158 [v,.func (.func f) #[] caps.toArray] R [] λu H'=>u=.bool (l.any p)/\H'=[]:=by
 refine Spec.body func158 rfl results158 ntmps158 rfl ?_
 refine .sr<|.ag rfl<|.z<|.mo rfl<|.mo rfl ?_
 refine .aL (Nj f caps p v l _ h.rx λs i R' a=>d s i R' λb o c=>a b o (.inl c)) (λu j=>?_)
 obtain⟨k,rfl,g⟩:=j
 refine .q .geq<|.az rfl ?_
 refine .ret (aO rfl ?_)
 ·exact⟨by simp only[g],rfl⟩
theorem zu(f:FuncId) [e:aw prog f](q:ByteArray->Bool)(s:ByteArray)(b:Nat)(R:au)(d:PC R (pT b) [.func (.func f) #[] #[]])(a:∀R',Spec prog f [.string s] R' [] λu H'=>u=.bool (q s)/\H'=[]):
  Spec prog 197 [.string s,pT b] R [] λu H'=>u=.bool (!q s)/\H'=[]:=by
 refine Spec.body func197 rfl results197 ntmps197 rfl ?_
 refine .sr<|.ag rfl<|.z<|.lo rfl<|.mo rfl ?_
 refine .gD (first:=[]) (captured:=[]) (vs:=[.string s]) (a _) (λu c=>?_)
 subst c
 refine .q .not<|.az rfl ?_
 refine .ret (aO rfl ?_)
 ·exact⟨rfl,rfl⟩
theorem tV(f:FuncId) [e:aw prog f](q:ByteArray->Bool)(v:Value)(l:List ByteArray)(R:au)(h:RS R 1 bz v l)(c:∀s∈l,∀R',Spec prog f [.string s] R' [] λu H'=>u=.bool (q s)/\H'=[]):
  Spec prog 142 [v,.func (.func f) #[] #[]] R [] λu H'=>u=.bool (l.all q)/\H'=[]:=by
 refine Spec.body func142 rfl results142 ntmps142 rfl ?_
 refine .sr ?_
 refine .ki rfl (λa=>?_)
 refine .ag rfl<|.z<|.mo rfl<|.q .makeFunc ?_
 refine .aL (sE 197 [pT a] (λs=> !q s) v l _ h.rx λs d R' b=>zu f q s a R' (PC.of (E:=135) (fr:=(0,0)) (b _ _ (.inr (by simp)))) (c s d)) (λu g=>?_)
 subst g
 refine .q .not<|.az rfl ?_
 refine .ret (aO rfl ?_)
 ·exact⟨by congr 1;rw[List.all_eq_not_any_not],rfl⟩
def eZ(s:ByteArray)(p:Int->Bool):Bool:=s.data.toList.all λc=>p (c.toNat:Int)
theorem mA{s:ByteArray}{p:Int->Bool}(h:∀j (hj:j<s.size),p (s[j]'hj).toNat=true):eZ s p=true:=by
 unfold eZ
 rw[List.all_eq_true]
 intro c a
 obtain⟨j,hj,rfl⟩:=acE.1 a
 exact h j (by simpa using hj)
theorem dW{s:ByteArray}{p:Int->Bool}{j:Nat}(a:j<s.size)(h:p (s[j]'a).toNat=false):eZ s p=false:=by
 unfold eZ
 rw[List.all_eq_false]
 refine⟨s[j],?_,by rw[h];simp⟩
 have:s[j]=s.data.toList[j]'(by simpa using a):=by simp[ByteArray.getElem_eq_getElem_data]
 rw[this]
 exact List.getElem_mem _
def cB(z:Int):Bool:=decide (97<=z)&&decide (z<=122)
def cU(z:Int):Bool:=(decide (48<=z)&&decide (z<=57))||z==95
def dC(z:Int):Bool:=cB z||cU z||(decide (65<=z)&&decide (z<=90))||z==46||z==45
def fA(z:Int):Bool:=cB z||cU z
def dq(s:ByteArray):Bool:=eZ s dC&&decide (1<=s.size)&&decide (s.size<=32)
def ek(s:ByteArray):Bool:=decide (s=⟨#[117,115,101,114]⟩)||decide (s=⟨#[116,104,105,115]⟩)||decide (s=⟨#[110,97,109,101,115,112,97,99,101]⟩)||decide (s=⟨#[114,101,108,97,116,105,111,110]⟩)||decide (s=⟨#[115,99,111,112,101]⟩)
def isWord(s:ByteArray):Bool:= !ek s&&(eZ s fA&&decide (1<=s.size)&&decide (s.size<=32))&&(if h:0<s.size then cB (s[0]'h).toNat else false)
theorem sM(z:Int)(R:au):Spec prog 138 [.int .u8 z] R [] λv H'=>v=.bool (cB z)/\H'=[]:=by
 refine Spec.body func138 rfl results138 ntmps138 rfl ?_
 refine .sr<|.ag rfl<|.z<|.mo rfl<|.q .geq<|.mo rfl ?_
 refine .split (t:=5) rfl (λa=>?_) (λa=>?_)
 refine .gT a<|.mo rfl<|.gT a<|.q .leq<|.q (.aW a) ?_
 refine .az rfl ?_
 refine .ret (aO rfl ?_)
 ·exact⟨by simp_all[cB]<;>omega,rfl⟩
 refine .gF a<|.gF a<|.q (.aQ a) ?_
 refine .az rfl ?_
 refine .ret (aO rfl ?_)
 ·exact⟨by simp_all[cB]<;>omega,rfl⟩
theorem uX(z:Int)(R:au):Spec prog 139 [.int .u8 z] R [] λv H'=>v=.bool (cU z)/\H'=[]:=by
 refine Spec.body func139 rfl results139 ntmps139 rfl ?_
 refine .sr<|.ag rfl<|.z<|.mo rfl<|.q .geq<|.mo rfl ?_
 refine .split (t:=5) rfl (λa=>?_) (λa=>?_)
 refine .gT a<|.mo rfl<|.gT a<|.q .leq<|.q (.aW a) ?_
 refine .mo rfl ?_
 refine .split (t:=9) rfl (λb=>?_) (λb=>?_)
 refine .gF b<|.gF b<|.q (.aW b) ?_
 refine .az rfl ?_
 refine .ret (aO rfl ?_)
 ·exact⟨by simp_all[cU]<;>omega,rfl⟩
 refine .gT b<|.mo rfl<|.gT b<|.q .bR<|.q (.aQ b) ?_
 refine .az rfl ?_
 refine .ret (aO rfl ?_)
 ·exact⟨by simp_all[cU]<;>omega,rfl⟩
 refine .gF a<|.gF a<|.q (.aQ a) ?_
 refine .mo rfl<|.gt rfl ?_
 refine .mo rfl<|.gt rfl ?_
 refine .q .bR<|.q .bW<|.az rfl ?_
 refine .ret (aO rfl ?_)
 ·exact⟨by simp_all[cU]<;>omega,rfl⟩
theorem Kv(z:Int)(R:au):Spec prog 137 [.int .u8 z] R [] λv H'=>v=.bool (dC z)/\H'=[]:=by
 refine Spec.body func137 rfl results137 ntmps137 rfl ?_
 refine .sr<|.ag rfl<|.z<|.mo rfl ?_
 refine .aL (sM z _) (λv f=>?_)
 subst f
 refine .mo rfl ?_
 refine .split (t:=5) rfl (λd=>?_) (λd=>?_)
 refine .gF d<|.gF d<|.q (.aW d) ?_
 refine .mo rfl<|.gX<|.gX<|.gX<|.cT rfl ?_
 refine .cT rfl ?_
 refine .gX<|.q .bY<|.mo rfl<|.gX<|.gX<|.q .bY<|.mo rfl<|.gX<|.gX<|.q .bY<|.az rfl ?_
 refine .ret (aO rfl ?_)
 ·exact⟨by simp_all[dC]<;>omega,rfl⟩
 refine .gT d<|.mo rfl<|.gT d ?_
 refine .aL (uX z _) (λv f=>?_)
 subst f
 refine .q (.aQ d) ?_
 refine .mo rfl ?_
 refine .split (t:=9) rfl (λb=>?_) (λb=>?_)
 refine .gF b<|.gF b<|.gF b<|.cT rfl ?_
 refine .cT rfl ?_
 refine .gF b<|.q (.aW b) ?_
 refine .mo rfl<|.gX<|.gX<|.q .bY<|.mo rfl<|.gX<|.gX<|.q .bY<|.az rfl ?_
 refine .ret (aO rfl ?_)
 ·exact⟨by simp_all[dC]<;>omega,rfl⟩
 refine .gT b<|.mo rfl<|.gT b<|.q .geq<|.gT b<|.mo rfl ?_
 refine .split (t:=12) rfl (λe=>?_) (λe=>?_)
 refine .gT e<|.mo rfl<|.gT e<|.q .leq<|.gT b<|.q (.aW e) ?_
 refine .q (.aQ b) ?_
 refine .mo rfl ?_
 refine .split (t:=17) rfl (λc=>?_) (λc=>?_)
 refine .gF c<|.gF c<|.q (.aW c) ?_
 refine .mo rfl<|.gX<|.gX<|.q .bY<|.az rfl ?_
 refine .ret (aO rfl ?_)
 ·exact⟨by simp_all[dC]<;>omega,rfl⟩
 refine .gT c<|.mo rfl<|.gT c<|.q .bR<|.q (.aQ c) ?_
 refine .mo rfl ?_
 refine .split (t:=21) rfl (λa=>?_) (λa=>?_)
 refine .gF a<|.gF a<|.q (.aW a) ?_
 refine .az rfl ?_
 refine .ret (aO rfl ?_)
 ·exact⟨by simp_all[dC]<;>omega,rfl⟩
 refine .gT a<|.mo rfl<|.gT a<|.q .bR<|.q (.aQ a) ?_
 refine .az rfl ?_
 refine .ret (aO rfl ?_)
 ·exact⟨by simp_all[dC]<;>omega,rfl⟩
 refine .gF e<|.gF e<|.gT b<|.q (.aQ e) ?_
 refine .q (.aQ b) ?_
 refine .mo rfl<|.gt rfl ?_
 refine .mo rfl<|.gt rfl ?_
 refine .q .bR<|.q .bW<|.mo rfl ?_
 refine .split (t:=21) rfl (λa=>?_) (λa=>?_)
 refine .gF a<|.gF a<|.q (.aW a) ?_
 refine .az rfl ?_
 refine .ret (aO rfl ?_)
 ·exact⟨by simp_all[dC]<;>omega,rfl⟩
 refine .gT a<|.mo rfl<|.gT a<|.q .bR<|.q (.aQ a) ?_
 refine .az rfl ?_
 refine .ret (aO rfl ?_)
 ·exact⟨by simp_all[dC]<;>omega,rfl⟩
theorem OH(z:Int)(R:au):Spec prog 249 [.int .u8 z] R [] λv H'=>v=.bool (fA z)/\H'=[]:=by
 refine Spec.body func249 rfl results249 ntmps249 rfl ?_
 refine .sr<|.ag rfl<|.z<|.mo rfl ?_
 refine .aL (sM z _) (λv b=>?_)
 subst b
 refine .mo rfl ?_
 refine .split (t:=5) rfl (λa=>?_) (λa=>?_)
 refine .gF a<|.gF a<|.q (.aW a) ?_
 refine .az rfl ?_
 refine .ret (aO rfl ?_)
 ·exact⟨by simp_all[fA]<;>omega,rfl⟩
 refine .gT a<|.mo rfl<|.gT a ?_
 refine .aL (uX z _) (λv b=>?_)
 subst b
 refine .q (.aQ a) ?_
 refine .az rfl ?_
 refine .ret (aO rfl ?_)
 ·exact⟨by simp_all[fA]<;>omega,rfl⟩
theorem tB(s:ByteArray)(f:FuncId) [e:aw prog f](p:Int->Bool)(m:∀z R,Spec prog f [.int .u8 z] R [] λv H'=>v=.bool (p z)/\H'=[])(w:s.size<=9223372036854775807)(R:au):
  Spec prog 136 [.string s,.func (.func f) #[] #[]] R [] λv H'=>v=.bool (eZ s p&&decide (1<=s.size)&&decide (s.size<=32))/\H'=[]:=by
 refine Spec.body func136 rfl results136 ntmps136 rfl ?_
 refine .sr<|.ag rfl<|.zs<|.sr<|.mo rfl<|.q .fF<|.mo rfl<|.zn<|.block ?_
 refine .loop (X:=Nat) (λi=>i<=s.size/\∀j (b:j<s.size),j<i->p (s[j]'b).toNat=true) (λi=>[(0,.string s),(1,.func (.func f) #[] #[]),(7,iN s.size),(8,iN i)]) (λ_=>[]) (λi=>s.size-i) 0 ⟨by omega,by omega⟩ kE.c.c.c.c rH ?_
 rintro i ⟨r,l⟩
 refine .sr<|.q .lss<|.zs ?_
 refine .cond rfl (λd=>?_) λd=>?_
 have h:i<s.size:=by simp at d;omega
 refine .kn<|.seq<|.block<|.sr<|.mo rfl<|.ag rfl<|.z<|.mo rfl<|.mo rfl<|.mo rfl<|.q (.iG i h) ?_
 refine .gD (first:=[]) (captured:=[]) (vs:=[.int .u8 (s[i]'h).toNat]) (m _ _) (λv o=>?_)
 subst o
 refine .q .not<|.zn ?_
 refine .cond rfl (λg=>?_) λg=>?_
 refine .sr<|.az rfl ?_
 refine .ret (bp (aI (dj (bp (aI (aO rfl ?_))))))
 ·have:=dW h (p:=p) (by simpa using g)
  exact⟨by simp[this],rfl⟩
 refine .skip<|bw<|aD<|.region ?_
 refine .q (.inc (n:=i) (by omega)) ?_
 refine .mo rfl<|.nil ?_
 ·exact bd (i+1) ⟨by omega,λj b u=>by
   rcases acr j i with hh|hh
   ·exact l j b hh
   ·obtain rfl:j=i:=by omega
    simpa using g⟩ (by omega) kE.c.c.c.c rH
 have k:eZ s p=true:=mA λj b=>l j b (by simp at d;omega)
 refine .exit<|bE<|bH<|bF<|aD<|.sr<|.mo rfl<|.q .fF<|.q .geq<|.mo rfl ?_
 refine .split (t:=21) rfl (λa=>?_) (λa=>?_)
 refine .gT a<|.mo rfl<|.gT a<|.q .fF<|.gT a<|.q .leq<|.q (.aW a) ?_
 refine .az rfl ?_
 refine .ret (aO rfl ?_)
 ·exact⟨by rw[Value.bool.injEq,acd];simp[k]at *;omega,rfl⟩
 refine .gF a<|.gF a<|.gF a<|.q (.aQ a) ?_
 refine .az rfl ?_
 refine .ret (aO rfl ?_)
 ·exact⟨by rw[Value.bool.injEq,acd];simp[k]at *;omega,rfl⟩
theorem rU(s:ByteArray)(a:s.size<=9223372036854775807)(R:au):Spec prog 69 [.string s] R [] λv H'=>v=.bool (dq s)/\H'=[]:=by
 refine Spec.body func69 rfl results69 ntmps69 rfl ?_
 refine .sr<|.ag rfl<|.z<|.mo rfl ?_
 refine .aL (tB s 137 dC Kv a _) (λv b=>?_)
 subst b
 refine .az rfl ?_
 refine .ret (aO rfl ?_)
 ·exact⟨rfl,rfl⟩
theorem OJ(s:ByteArray)(j:s.size<=9223372036854775807)(R:au):Spec prog 193 [.string s] R [] λv H'=>v=.bool (isWord s)/\H'=[]:=by
 refine Spec.body func193 rfl results193 ntmps193 rfl ?_
 refine .sr<|.ag rfl<|.zs<|.sr<|.mo rfl<|.zn<|.block<|.seq<|.sr<|.q .eg<|.az rfl ?_
 refine bO.cut (X:=Unit) (λ_=>True) (λ_=>[(0,.string s),(4,.bool (ek s))]) (λ_=>[]) ?_ ?_
 refine .cond rfl (λa=>?_) λa=>?_
 refine .skip ?_
 ·refine aA () acp ?_ rH
  first
   |(simp only[ek,a,b,e,f,aca];exact kE.c.c)
   |(simp only[ek,a,b,e,f,aca,acb];exact kE.c.c)
   |(simp only[ek,a,b,e,aca,acb];exact kE.c.c)
   |(simp only[ek,a,b,aca,acb];exact kE.c.c)
   |(simp only[ek,a,acb];exact kE.c.c)
 refine .sr<|.q .eg<|.az rfl ?_
 refine .cond rfl (λb=>?_) λb=>?_
 refine .skip ?_
 ·refine aA () acp ?_ rH
  first
   |(simp only[ek,a,b,e,f,aca];exact kE.c.c)
   |(simp only[ek,a,b,e,f,aca,acb];exact kE.c.c)
   |(simp only[ek,a,b,e,aca,acb];exact kE.c.c)
   |(simp only[ek,a,b,aca,acb];exact kE.c.c)
   |(simp only[ek,a,acb];exact kE.c.c)
 refine .sr<|.q .eg<|.az rfl ?_
 refine .cond rfl (λe=>?_) λe=>?_
 refine .skip ?_
 ·refine aA () acp ?_ rH
  first
   |(simp only[ek,a,b,e,f,aca];exact kE.c.c)
   |(simp only[ek,a,b,e,f,aca,acb];exact kE.c.c)
   |(simp only[ek,a,b,e,aca,acb];exact kE.c.c)
   |(simp only[ek,a,b,aca,acb];exact kE.c.c)
   |(simp only[ek,a,acb];exact kE.c.c)
 refine .sr<|.q .eg<|.az rfl ?_
 refine .cond rfl (λf=>?_) λf=>?_
 refine .skip ?_
 ·refine aA () acp ?_ rH
  first
   |(simp only[ek,a,b,e,f,aca];exact kE.c.c)
   |(simp only[ek,a,b,e,f,aca,acb];exact kE.c.c)
   |(simp only[ek,a,b,e,aca,acb];exact kE.c.c)
   |(simp only[ek,a,b,aca,acb];exact kE.c.c)
   |(simp only[ek,a,acb];exact kE.c.c)
 refine .region<|.q .eg<|.ag rfl<|.nil ?_
 ·refine aA () acp ?_ rH
  first
   |(simp only[ek,a,b,e,f,aca];exact kE.c.c)
   |(simp only[ek,a,b,e,f,aca,acb];exact kE.c.c)
   |(simp only[ek,a,b,e,aca,acb];exact kE.c.c)
   |(simp only[ek,a,b,aca,acb];exact kE.c.c)
   |(simp only[ek,a,acb];exact kE.c.c)
 intro x k
 refine aD ?_
 refine .cond rfl (λg=>?_) λg=>?_
 refine .sr<|.az rfl ?_
 refine .ret (bp (aI (aO rfl ?_)))
 ·refine⟨?_,rfl⟩
  first
   |(simp[isWord,g];done)
   |(rw[isWord,g,d,dif_pos h,Bool.not_false,acq,acq])
   |(rw[isWord,d,acU,Bool.false_and])
 refine .skip<|bw<|aD<|.sr<|.mo rfl ?_
 refine .aL (tB s 249 fA OH j _) (λv i=>?_)
 subst i
 refine .mo rfl ?_
 refine .split (t:=12) rfl (λd=>?_) (λd=>?_)
 refine .gT d<|.mo rfl<|.gT d ?_
 have h:0<s.size:=by simp at d;omega
 refine .q (.iG 0 h) ?_
 refine .gT d ?_
 refine .aL (sM _ _) (λv i=>?_)
 subst i
 refine .q (.aW d) ?_
 refine .az rfl ?_
 refine .ret (aO rfl ?_)
 ·refine⟨?_,rfl⟩
  first
   |(simp[isWord,g];done)
   |(rw[isWord,g,d,dif_pos h,Bool.not_false,acq,acq])
   |(rw[isWord,d,acU,Bool.false_and])
 refine .gF d<|.gF d<|.gF d<|.q (.aQ d) ?_
 refine .az rfl ?_
 refine .ret (aO rfl ?_)
 ·refine⟨?_,rfl⟩
  first
   |(simp[isWord,g];done)
   |(rw[isWord,g,d,dif_pos h,Bool.not_false,acq,acq])
   |(rw[isWord,d,acU,Bool.false_and])
theorem fR{s:ByteArray}(h:s.size<1\/32<s.size):isWord s=false:=by
 unfold isWord
 rcases h with h|h
 ·have:decide (1<=s.size)=false:=acg (by omega)
  simp[this]
 ·have:decide (s.size<=32)=false:=acg (by omega)
  simp[this]
theorem ko{s:ByteArray}(a:0<s.size)(h:cB (s[0]'a).toNat=false):isWord s=false:=by
 unfold isWord
 rw[dif_pos a,h,acU]
theorem km{s:ByteArray}(h:eZ s fA=false):isWord s=false:=by
 unfold isWord
 simp[h]
theorem KA{s:ByteArray}(a:0<s.size)(d:s.size<=32)(e:cB (s[0]'a).toNat=true)(f:eZ s fA=true):isWord s= !ek s:=by
 unfold isWord
 have b:decide (1<=s.size)=true:=ab9 (by omega)
 have c:decide (s.size<=32)=true:=ab9 d
 rw[dif_pos a,e,f,b,c]
 simp
theorem sA(s:ByteArray)(B:s.size<=9223372036854775807)(R:au):Spec prog 98 [.string s] R [] λv H'=>v=.bool (dq s)/\H'=[]:=by
 refine Spec.body func98 rfl results98 ntmps98 rfl ?_
 refine .sr<|.ag rfl<|.zs<|.sr<|.az rfl<|.block ?_
 refine .loop (X:=Nat) (λi=>i<=s.size/\∀j (u:j<s.size),j<i->dC (s[j]'u).toNat=true) (λi=>[(0,.string s),(3,iN i)]) (λ_=>[]) (λi=>s.size-i) 0 ⟨by omega,by omega⟩ kE.c.c rH ?_
 rintro i ⟨z,d⟩
 refine .seq<|.sr<|.mo rfl<|.mo rfl<|.q .fF<|.q .lss<|.zn ?_
 refine .cond rfl (λw=>?_) λw=>?_
 have o:i<s.size:=by simp at w;omega
 refine .kn<|.seq<|.block<|.sr<|.mo rfl<|.mo rfl<|.q (.iG i o) ?_
 refine .az rfl ?_
 refine bO.cut (X:=Unit) (λ_=>dC (s[i]'o).toNat=true) (λ_=>[(0,.string s),(3,iN i)]) (λ_=>[]) ?_ ?_
 refine .sr<|.mo rfl<|.q .geq<|.mo rfl ?_
 refine .split (t:=16) rfl (λr=>?_) (λr=>?_)
 refine .gT r<|.mo rfl<|.gT r<|.q .leq<|.q (.aW r) ?_
 refine .mo rfl ?_
 refine .split (t:=20) rfl (λm=>?_) (λm=>?_)
 refine .gF m<|.gF m<|.gF m<|.cT rfl ?_
 refine .cT rfl ?_
 refine .gF m<|.q (.aW m) ?_
 refine .mo rfl<|.gX<|.gX<|.gX<|.cT rfl ?_
 refine .cT rfl ?_
 refine .gX<|.q .bY<|.mo rfl<|.gX<|.gX<|.q .bY<|.mo rfl<|.gX<|.gX<|.q .bY<|.mo rfl<|.gX<|.gX<|.q .bY<|.q .not<|.zn<|.bX<|.skip ?_
 ·exact aA () (by clear d;simp_all[dC,cB,cU]<;>omega) kE.c.c rH
 refine .gT m<|.mo rfl<|.gT m<|.q .geq<|.gT m<|.mo rfl ?_
 refine .split (t:=23) rfl (λk=>?_) (λk=>?_)
 refine .gT k<|.mo rfl<|.gT k<|.q .leq<|.gT m<|.q (.aW k) ?_
 refine .q (.aQ m) ?_
 refine .mo rfl ?_
 refine .split (t:=28) rfl (λg=>?_) (λg=>?_)
 refine .gF g<|.gF g<|.gF g<|.cT rfl ?_
 refine .cT rfl ?_
 refine .gF g<|.q (.aW g) ?_
 refine .mo rfl<|.gX<|.gX<|.q .bY<|.mo rfl<|.gX<|.gX<|.q .bY<|.mo rfl<|.gX<|.gX<|.q .bY<|.q .not<|.zn<|.bX<|.skip ?_
 ·exact aA () (by clear d;simp_all[dC,cB,cU]<;>omega) kE.c.c rH
 refine .gT g<|.mo rfl<|.gT g<|.q .geq<|.gT g<|.mo rfl ?_
 refine .split (t:=31) rfl (λe=>?_) (λe=>?_)
 refine .gT e<|.mo rfl<|.gT e<|.q .leq<|.gT g<|.q (.aW e) ?_
 refine .q (.aQ g) ?_
 refine .mo rfl ?_
 refine .split (t:=36) rfl (λf=>?_) (λf=>?_)
 refine .gF f<|.gF f<|.q (.aW f) ?_
 refine .mo rfl<|.gX<|.gX<|.q .bY<|.mo rfl<|.gX<|.gX<|.q .bY<|.q .not<|.zn<|.bX<|.skip ?_
 ·exact aA () (by clear d;simp_all[dC,cB,cU]<;>omega) kE.c.c rH
 refine .gT f<|.mo rfl<|.gT f<|.q .bR<|.q (.aQ f) ?_
 refine .mo rfl ?_
 refine .split (t:=40) rfl (λa=>?_) (λa=>?_)
 refine .gF a<|.gF a<|.q (.aW a) ?_
 refine .mo rfl<|.gX<|.gX<|.q .bY<|.q .not<|.zn<|.bX<|.skip ?_
 ·exact aA () (by clear d;simp_all[dC,cB,cU]<;>omega) kE.c.c rH
 refine .gT a<|.mo rfl<|.gT a<|.q .bR<|.q (.aQ a) ?_
 refine .mo rfl ?_
 refine .split (t:=44) rfl (λb=>?_) (λb=>?_)
 refine .gF b<|.gF b<|.q (.aW b) ?_
 refine .q .not<|.zn<|.bX<|.skip ?_
 ·exact aA () (by clear d;simp_all[dC,cB,cU]<;>omega) kE.c.c rH
 refine .gT b<|.mo rfl<|.gT b<|.q .bR<|.q (.aQ b) ?_
 refine .q .not<|.zn ?_
 refine .cond rfl (λl=>?_) λl=>?_
 refine .sr<|.az rfl ?_
 refine .ret (iT (bp (aI (dj (bp (aI (aO rfl ?_)))))))
 ·refine⟨?_,rfl⟩
  first
   |(rw[dq,p,Value.bool.injEq,acd];simp at h⊢;omega)
   |(rw[dq,dW o (by clear d;simp_all[dC,cB,cU]<;>omega)];rfl)
 refine .skip ?_
 ·exact aA () (by clear d;simp_all[dC,cB,cU]<;>omega) kE.c.c rH
 refine .gF e<|.gF e<|.gT g<|.q (.aQ e) ?_
 refine .q (.aQ g) ?_
 refine .mo rfl<|.gt rfl ?_
 refine .mo rfl<|.gt rfl ?_
 refine .q .bR<|.q .bW<|.mo rfl ?_
 refine .split (t:=40) rfl (λa=>?_) (λa=>?_)
 refine .gF a<|.gF a<|.q (.aW a) ?_
 refine .mo rfl<|.gX<|.gX<|.q .bY<|.q .not<|.zn<|.bX<|.skip ?_
 ·exact aA () (by clear d;simp_all[dC,cB,cU]<;>omega) kE.c.c rH
 refine .gT a<|.mo rfl<|.gT a<|.q .bR<|.q (.aQ a) ?_
 refine .mo rfl ?_
 refine .split (t:=44) rfl (λb=>?_) (λb=>?_)
 refine .gF b<|.gF b<|.q (.aW b) ?_
 refine .q .not<|.zn<|.bX<|.skip ?_
 ·exact aA () (by clear d;simp_all[dC,cB,cU]<;>omega) kE.c.c rH
 refine .gT b<|.mo rfl<|.gT b<|.q .bR<|.q (.aQ b) ?_
 refine .q .not<|.zn ?_
 refine .cond rfl (λl=>?_) λl=>?_
 refine .sr<|.az rfl ?_
 refine .ret (iT (bp (aI (dj (bp (aI (aO rfl ?_)))))))
 ·refine⟨?_,rfl⟩
  first
   |(rw[dq,p,Value.bool.injEq,acd];simp at h⊢;omega)
   |(rw[dq,dW o (by clear d;simp_all[dC,cB,cU]<;>omega)];rfl)
 refine .skip ?_
 ·exact aA () (by clear d;simp_all[dC,cB,cU]<;>omega) kE.c.c rH
 refine .gF k<|.gF k<|.gT m<|.q (.aQ k) ?_
 refine .q (.aQ m) ?_
 refine .mo rfl<|.gt rfl ?_
 refine .mo rfl<|.gt rfl ?_
 refine .q .geq<|.gt rfl ?_
 refine .mo rfl ?_
 refine .split (t:=31) rfl (λe=>?_) (λe=>?_)
 refine .gT e<|.mo rfl<|.gT e<|.q .leq<|.gt rfl ?_
 refine .q (.aW e) ?_
 refine .q .bW<|.mo rfl ?_
 refine .split (t:=36) rfl (λf=>?_) (λf=>?_)
 refine .gF f<|.gF f<|.q (.aW f) ?_
 refine .mo rfl<|.gX<|.gX<|.q .bY<|.mo rfl<|.gX<|.gX<|.q .bY<|.q .not<|.zn<|.bX<|.skip ?_
 ·exact aA () (by clear d;simp_all[dC,cB,cU]<;>omega) kE.c.c rH
 refine .gT f<|.mo rfl<|.gT f<|.q .bR<|.q (.aQ f) ?_
 refine .mo rfl ?_
 refine .split (t:=40) rfl (λa=>?_) (λa=>?_)
 refine .gF a<|.gF a<|.q (.aW a) ?_
 refine .mo rfl<|.gX<|.gX<|.q .bY<|.q .not<|.zn<|.bX<|.skip ?_
 ·exact aA () (by clear d;simp_all[dC,cB,cU]<;>omega) kE.c.c rH
 refine .gT a<|.mo rfl<|.gT a<|.q .bR<|.q (.aQ a) ?_
 refine .mo rfl ?_
 refine .split (t:=44) rfl (λb=>?_) (λb=>?_)
 refine .gF b<|.gF b<|.q (.aW b) ?_
 refine .q .not<|.zn<|.bX<|.skip ?_
 ·exact aA () (by clear d;simp_all[dC,cB,cU]<;>omega) kE.c.c rH
 refine .gT b<|.mo rfl<|.gT b<|.q .bR<|.q (.aQ b) ?_
 refine .q .not<|.zn ?_
 refine .cond rfl (λl=>?_) λl=>?_
 refine .sr<|.az rfl ?_
 refine .ret (iT (bp (aI (dj (bp (aI (aO rfl ?_)))))))
 ·refine⟨?_,rfl⟩
  first
   |(rw[dq,p,Value.bool.injEq,acd];simp at h⊢;omega)
   |(rw[dq,dW o (by clear d;simp_all[dC,cB,cU]<;>omega)];rfl)
 refine .skip ?_
 ·exact aA () (by clear d;simp_all[dC,cB,cU]<;>omega) kE.c.c rH
 refine .gF e<|.gF e<|.gt rfl ?_
 refine .q (.aQ e) ?_
 refine .q .bW<|.mo rfl<|.gt rfl ?_
 refine .mo rfl<|.gt rfl ?_
 refine .q .bR<|.q .bW<|.mo rfl ?_
 refine .split (t:=40) rfl (λa=>?_) (λa=>?_)
 refine .gF a<|.gF a<|.q (.aW a) ?_
 refine .mo rfl<|.gX<|.gX<|.q .bY<|.q .not<|.zn<|.bX<|.skip ?_
 ·exact aA () (by clear d;simp_all[dC,cB,cU]<;>omega) kE.c.c rH
 refine .gT a<|.mo rfl<|.gT a<|.q .bR<|.q (.aQ a) ?_
 refine .mo rfl ?_
 refine .split (t:=44) rfl (λb=>?_) (λb=>?_)
 refine .gF b<|.gF b<|.q (.aW b) ?_
 refine .q .not<|.zn<|.bX<|.skip ?_
 ·exact aA () (by clear d;simp_all[dC,cB,cU]<;>omega) kE.c.c rH
 refine .gT b<|.mo rfl<|.gT b<|.q .bR<|.q (.aQ b) ?_
 refine .q .not<|.zn ?_
 refine .cond rfl (λl=>?_) λl=>?_
 refine .sr<|.az rfl ?_
 refine .ret (iT (bp (aI (dj (bp (aI (aO rfl ?_)))))))
 ·refine⟨?_,rfl⟩
  first
   |(rw[dq,p,Value.bool.injEq,acd];simp at h⊢;omega)
   |(rw[dq,dW o (by clear d;simp_all[dC,cB,cU]<;>omega)];rfl)
 refine .skip ?_
 ·exact aA () (by clear d;simp_all[dC,cB,cU]<;>omega) kE.c.c rH
 refine .gF r<|.gF r<|.q (.aQ r) ?_
 refine .mo rfl<|.gt rfl ?_
 refine .mo rfl<|.gt rfl ?_
 refine .q .geq<|.gt rfl ?_
 refine .mo rfl ?_
 refine .split (t:=23) rfl (λk=>?_) (λk=>?_)
 refine .gT k<|.mo rfl<|.gT k<|.q .leq<|.gt rfl ?_
 refine .q (.aW k) ?_
 refine .q .bW<|.mo rfl ?_
 refine .split (t:=28) rfl (λg=>?_) (λg=>?_)
 refine .gF g<|.gF g<|.gF g<|.cT rfl ?_
 refine .cT rfl ?_
 refine .gF g<|.q (.aW g) ?_
 refine .mo rfl<|.gX<|.gX<|.q .bY<|.mo rfl<|.gX<|.gX<|.q .bY<|.mo rfl<|.gX<|.gX<|.q .bY<|.q .not<|.zn<|.bX<|.skip ?_
 ·exact aA () (by clear d;simp_all[dC,cB,cU]<;>omega) kE.c.c rH
 refine .gT g<|.mo rfl<|.gT g<|.q .geq<|.gT g<|.mo rfl ?_
 refine .split (t:=31) rfl (λe=>?_) (λe=>?_)
 refine .gT e<|.mo rfl<|.gT e<|.q .leq<|.gT g<|.q (.aW e) ?_
 refine .q (.aQ g) ?_
 refine .mo rfl ?_
 refine .split (t:=36) rfl (λf=>?_) (λf=>?_)
 refine .gF f<|.gF f<|.q (.aW f) ?_
 refine .mo rfl<|.gX<|.gX<|.q .bY<|.mo rfl<|.gX<|.gX<|.q .bY<|.q .not<|.zn<|.bX<|.skip ?_
 ·exact aA () (by clear d;simp_all[dC,cB,cU]<;>omega) kE.c.c rH
 refine .gT f<|.mo rfl<|.gT f<|.q .bR<|.q (.aQ f) ?_
 refine .mo rfl ?_
 refine .split (t:=40) rfl (λa=>?_) (λa=>?_)
 refine .gF a<|.gF a<|.q (.aW a) ?_
 refine .mo rfl<|.gX<|.gX<|.q .bY<|.q .not<|.zn<|.bX<|.skip ?_
 ·exact aA () (by clear d;simp_all[dC,cB,cU]<;>omega) kE.c.c rH
 refine .gT a<|.mo rfl<|.gT a<|.q .bR<|.q (.aQ a) ?_
 refine .mo rfl ?_
 refine .split (t:=44) rfl (λb=>?_) (λb=>?_)
 refine .gF b<|.gF b<|.q (.aW b) ?_
 refine .q .not<|.zn<|.bX<|.skip ?_
 ·exact aA () (by clear d;simp_all[dC,cB,cU]<;>omega) kE.c.c rH
 refine .gT b<|.mo rfl<|.gT b<|.q .bR<|.q (.aQ b) ?_
 refine .q .not<|.zn ?_
 refine .cond rfl (λl=>?_) λl=>?_
 refine .sr<|.az rfl ?_
 refine .ret (iT (bp (aI (dj (bp (aI (aO rfl ?_)))))))
 ·refine⟨?_,rfl⟩
  first
   |(rw[dq,p,Value.bool.injEq,acd];simp at h⊢;omega)
   |(rw[dq,dW o (by clear d;simp_all[dC,cB,cU]<;>omega)];rfl)
 refine .skip ?_
 ·exact aA () (by clear d;simp_all[dC,cB,cU]<;>omega) kE.c.c rH
 refine .gF e<|.gF e<|.gT g<|.q (.aQ e) ?_
 refine .q (.aQ g) ?_
 refine .mo rfl<|.gt rfl ?_
 refine .mo rfl<|.gt rfl ?_
 refine .q .bR<|.q .bW<|.mo rfl ?_
 refine .split (t:=40) rfl (λa=>?_) (λa=>?_)
 refine .gF a<|.gF a<|.q (.aW a) ?_
 refine .mo rfl<|.gX<|.gX<|.q .bY<|.q .not<|.zn<|.bX<|.skip ?_
 ·exact aA () (by clear d;simp_all[dC,cB,cU]<;>omega) kE.c.c rH
 refine .gT a<|.mo rfl<|.gT a<|.q .bR<|.q (.aQ a) ?_
 refine .mo rfl ?_
 refine .split (t:=44) rfl (λb=>?_) (λb=>?_)
 refine .gF b<|.gF b<|.q (.aW b) ?_
 refine .q .not<|.zn<|.bX<|.skip ?_
 ·exact aA () (by clear d;simp_all[dC,cB,cU]<;>omega) kE.c.c rH
 refine .gT b<|.mo rfl<|.gT b<|.q .bR<|.q (.aQ b) ?_
 refine .q .not<|.zn ?_
 refine .cond rfl (λl=>?_) λl=>?_
 refine .sr<|.az rfl ?_
 refine .ret (iT (bp (aI (dj (bp (aI (aO rfl ?_)))))))
 ·refine⟨?_,rfl⟩
  first
   |(rw[dq,p,Value.bool.injEq,acd];simp at h⊢;omega)
   |(rw[dq,dW o (by clear d;simp_all[dC,cB,cU]<;>omega)];rfl)
 refine .skip ?_
 ·exact aA () (by clear d;simp_all[dC,cB,cU]<;>omega) kE.c.c rH
 refine .gF k<|.gF k<|.gt rfl ?_
 refine .q (.aQ k) ?_
 refine .q .bW<|.mo rfl<|.gt rfl ?_
 refine .mo rfl<|.gt rfl ?_
 refine .q .geq<|.gt rfl ?_
 refine .mo rfl ?_
 refine .split (t:=31) rfl (λe=>?_) (λe=>?_)
 refine .gT e<|.mo rfl<|.gT e<|.q .leq<|.gt rfl ?_
 refine .q (.aW e) ?_
 refine .q .bW<|.mo rfl ?_
 refine .split (t:=36) rfl (λf=>?_) (λf=>?_)
 refine .gF f<|.gF f<|.q (.aW f) ?_
 refine .mo rfl<|.gX<|.gX<|.q .bY<|.mo rfl<|.gX<|.gX<|.q .bY<|.q .not<|.zn<|.bX<|.skip ?_
 ·exact aA () (by clear d;simp_all[dC,cB,cU]<;>omega) kE.c.c rH
 refine .gT f<|.mo rfl<|.gT f<|.q .bR<|.q (.aQ f) ?_
 refine .mo rfl ?_
 refine .split (t:=40) rfl (λa=>?_) (λa=>?_)
 refine .gF a<|.gF a<|.q (.aW a) ?_
 refine .mo rfl<|.gX<|.gX<|.q .bY<|.q .not<|.zn<|.bX<|.skip ?_
 ·exact aA () (by clear d;simp_all[dC,cB,cU]<;>omega) kE.c.c rH
 refine .gT a<|.mo rfl<|.gT a<|.q .bR<|.q (.aQ a) ?_
 refine .mo rfl ?_
 refine .split (t:=44) rfl (λb=>?_) (λb=>?_)
 refine .gF b<|.gF b<|.q (.aW b) ?_
 refine .q .not<|.zn<|.bX<|.skip ?_
 ·exact aA () (by clear d;simp_all[dC,cB,cU]<;>omega) kE.c.c rH
 refine .gT b<|.mo rfl<|.gT b<|.q .bR<|.q (.aQ b) ?_
 refine .q .not<|.zn ?_
 refine .cond rfl (λl=>?_) λl=>?_
 refine .sr<|.az rfl ?_
 refine .ret (iT (bp (aI (dj (bp (aI (aO rfl ?_)))))))
 ·refine⟨?_,rfl⟩
  first
   |(rw[dq,p,Value.bool.injEq,acd];simp at h⊢;omega)
   |(rw[dq,dW o (by clear d;simp_all[dC,cB,cU]<;>omega)];rfl)
 refine .skip ?_
 ·exact aA () (by clear d;simp_all[dC,cB,cU]<;>omega) kE.c.c rH
 refine .gF e<|.gF e<|.gt rfl ?_
 refine .q (.aQ e) ?_
 refine .q .bW<|.mo rfl<|.gt rfl ?_
 refine .mo rfl<|.gt rfl ?_
 refine .q .bR<|.q .bW<|.mo rfl ?_
 refine .split (t:=40) rfl (λa=>?_) (λa=>?_)
 refine .gF a<|.gF a<|.q (.aW a) ?_
 refine .mo rfl<|.gX<|.gX<|.q .bY<|.q .not<|.zn<|.bX<|.skip ?_
 ·exact aA () (by clear d;simp_all[dC,cB,cU]<;>omega) kE.c.c rH
 refine .gT a<|.mo rfl<|.gT a<|.q .bR<|.q (.aQ a) ?_
 refine .mo rfl ?_
 refine .split (t:=44) rfl (λb=>?_) (λb=>?_)
 refine .gF b<|.gF b<|.q (.aW b) ?_
 refine .q .not<|.zn<|.bX<|.skip ?_
 ·exact aA () (by clear d;simp_all[dC,cB,cU]<;>omega) kE.c.c rH
 refine .gT b<|.mo rfl<|.gT b<|.q .bR<|.q (.aQ b) ?_
 refine .q .not<|.zn ?_
 refine .cond rfl (λl=>?_) λl=>?_
 refine .sr<|.az rfl ?_
 refine .ret (iT (bp (aI (dj (bp (aI (aO rfl ?_)))))))
 ·refine⟨?_,rfl⟩
  first
   |(rw[dq,p,Value.bool.injEq,acd];simp at h⊢;omega)
   |(rw[dq,dW o (by clear d;simp_all[dC,cB,cU]<;>omega)];rfl)
 refine .skip ?_
 ·exact aA () (by clear d;simp_all[dC,cB,cU]<;>omega) kE.c.c rH
 intro y x
 refine bw<|aD<|.region<|.mo rfl ?_
 refine .q (.inc (n:=i) (by omega)) ?_
 refine .ag rfl<|.nil ?_
 ·exact bd (i+1) ⟨by omega,λj u A=>by
   rcases acr j i with hh|hh
   ·exact d j u hh
   ·obtain rfl:j=i:=by omega
    exact x⟩ (by omega) kE.c.c rH
 have p:eZ s dC=true:=mA λj u=>d j u (by simp at w;omega)
 refine .exit<|bE<|bH<|bF<|aD<|.sr<|.mo rfl<|.q .fF<|.q .geq<|.mo rfl ?_
 refine .split (t:=52) rfl (λh=>?_) (λh=>?_)
 refine .gT h<|.mo rfl<|.gT h<|.q .fF<|.gT h<|.q .leq<|.q (.aW h) ?_
 refine .az rfl ?_
 refine .ret (aO rfl ?_)
 ·refine⟨?_,rfl⟩
  first
   |(rw[dq,p,Value.bool.injEq,acd];simp at h⊢;omega)
   |(rw[dq,dW o (by clear d;simp_all[dC,cB,cU]<;>omega)];rfl)
 refine .gF h<|.gF h<|.gF h<|.q (.aQ h) ?_
 refine .az rfl ?_
 refine .ret (aO rfl ?_)
 ·refine⟨?_,rfl⟩
  first
   |(rw[dq,p,Value.bool.injEq,acd];simp at h⊢;omega)
   |(rw[dq,dW o (by clear d;simp_all[dC,cB,cU]<;>omega)];rfl)
theorem MO(s:ByteArray)(I:s.size<=9223372036854775807)(R:au):Spec prog 166 [.string s] R [] λv H'=>v=.bool (isWord s)/\H'=[]:=by
 refine Spec.body func166 rfl results166 ntmps166 rfl ?_
 refine .sr<|.ag rfl<|.zs<|.sr<|.mo rfl<|.q .fF<|.q .lss<|.mo rfl ?_
 refine .split (t:=8) rfl (λa=>?_) (λa=>?_)
 refine .gF a<|.gF a<|.gF a<|.q (.aW a) ?_
 refine .mo rfl<|.gX<|.gX<|.gX<|.q .bY<|.mo rfl<|.gX<|.gX<|.gX<|.q .bY<|.zn<|.dn<|.sr<|.az rfl ?_
 refine .ret (aI (aO rfl ?_))
 ·refine⟨?_,rfl⟩
  first
   |(rw[l];simp_all[ek])
   |(rw[km (dW h (by clear d;simp_all[fA,cB,cU]<;>omega))])
   |(rw[fR (by simp at a;omega)])
   |(rw[fR (by simp at b;omega)])
   |(rw[ko e (by simp_all[cB]<;>omega)])
 refine .gT a<|.mo rfl<|.gT a<|.q .fF<|.gT a<|.q .gtr<|.q (.aQ a) ?_
 refine .mo rfl ?_
 refine .split (t:=13) rfl (λb=>?_) (λb=>?_)
 refine .gF b<|.gF b<|.gF b<|.q (.aW b) ?_
 refine .mo rfl<|.gX<|.gX<|.gX<|.q .bY<|.zn<|.dn<|.sr<|.az rfl ?_
 refine .ret (aI (aO rfl ?_))
 ·refine⟨?_,rfl⟩
  first
   |(rw[l];simp_all[ek])
   |(rw[km (dW h (by clear d;simp_all[fA,cB,cU]<;>omega))])
   |(rw[fR (by simp at a;omega)])
   |(rw[fR (by simp at b;omega)])
   |(rw[ko e (by simp_all[cB]<;>omega)])
 have e:0<s.size:=by simp at a;omega
 refine .gT b<|.mo rfl<|.gT b<|.q (.iG 0 e) ?_
 refine .gT b<|.q .lss<|.q (.aQ b) ?_
 refine .mo rfl ?_
 refine .split (t:=18) rfl (λm=>?_) (λm=>?_)
 refine .gF m<|.gF m<|.gF m<|.q (.aW m) ?_
 refine .zn<|.dn<|.sr<|.az rfl ?_
 refine .ret (aI (aO rfl ?_))
 ·refine⟨?_,rfl⟩
  first
   |(rw[l];simp_all[ek])
   |(rw[km (dW h (by clear d;simp_all[fA,cB,cU]<;>omega))])
   |(rw[fR (by simp at a;omega)])
   |(rw[fR (by simp at b;omega)])
   |(rw[ko e (by simp_all[cB]<;>omega)])
 refine .gT m<|.mo rfl<|.gT m<|.q (.iG 0 e) ?_
 refine .gT m<|.q .gtr<|.q (.aQ m) ?_
 refine .zn ?_
 refine .cond rfl (λB=>?_) λB=>?_
 refine .sr<|.az rfl ?_
 refine .ret (aI (aO rfl ?_))
 ·refine⟨?_,rfl⟩
  first
   |(rw[l];simp_all[ek])
   |(rw[km (dW h (by clear d;simp_all[fA,cB,cU]<;>omega))])
   |(rw[fR (by simp at a;omega)])
   |(rw[fR (by simp at b;omega)])
   |(rw[ko e (by simp_all[cB]<;>omega)])
 have D:0<s.size/\s.size<=32:=by simp at a b;omega
 have F:cB (s[0]'e).toNat=true:=by simp at m B;simp[cB];omega
 refine .kn<|.seq<|.sr<|.az rfl<|.block ?_
 refine .loop (X:=Nat) (λi=>i<=s.size/\∀j (z:j<s.size),j<i->fA (s[j]'z).toNat=true) (λi=>[(0,.string s),(3,iN i)]) (λ_=>[]) (λi=>s.size-i) 0 ⟨by omega,by omega⟩ kE.c.c rH ?_
 rintro i ⟨G,d⟩
 refine .seq<|.sr<|.mo rfl<|.mo rfl<|.q .fF<|.q .lss<|.zn ?_
 refine .cond rfl (λA=>?_) λA=>?_
 have h:i<s.size:=by simp at A;omega
 refine .kn<|.seq<|.block<|.sr<|.mo rfl<|.mo rfl<|.q (.iG i h) ?_
 refine .az rfl ?_
 refine bO.cut (X:=Unit) (λ_=>fA (s[i]'h).toNat=true) (λ_=>[(0,.string s),(3,iN i)]) (λ_=>[]) ?_ ?_
 refine .sr<|.mo rfl<|.q .geq<|.mo rfl ?_
 refine .split (t:=34) rfl (λo=>?_) (λo=>?_)
 refine .gT o<|.mo rfl<|.gT o<|.q .leq<|.q (.aW o) ?_
 refine .mo rfl ?_
 refine .split (t:=38) rfl (λk=>?_) (λk=>?_)
 refine .gF k<|.gF k<|.gF k<|.cT rfl ?_
 refine .cT rfl ?_
 refine .gF k<|.q (.aW k) ?_
 refine .mo rfl<|.gX<|.gX<|.q .bY<|.q .not<|.zn<|.bX<|.skip ?_
 ·exact aA () (by clear d;simp_all[fA,cB,cU]<;>omega) kE.c.c rH
 refine .gT k<|.mo rfl<|.gT k<|.q .geq<|.gT k<|.mo rfl ?_
 refine .split (t:=41) rfl (λg=>?_) (λg=>?_)
 refine .gT g<|.mo rfl<|.gT g<|.q .leq<|.gT k<|.q (.aW g) ?_
 refine .q (.aQ k) ?_
 refine .mo rfl ?_
 refine .split (t:=46) rfl (λf=>?_) (λf=>?_)
 refine .gF f<|.gF f<|.q (.aW f) ?_
 refine .q .not<|.zn<|.bX<|.skip ?_
 ·exact aA () (by clear d;simp_all[fA,cB,cU]<;>omega) kE.c.c rH
 refine .gT f<|.mo rfl<|.gT f<|.q .bR<|.q (.aQ f) ?_
 refine .q .not<|.zn ?_
 refine .cond rfl (λx=>?_) λx=>?_
 refine .sr<|.az rfl ?_
 refine .ret (iT (bp (aI (dj (bp (aI (aO rfl ?_)))))))
 ·refine⟨?_,rfl⟩
  first
   |(rw[l];simp_all[ek])
   |(rw[km (dW h (by clear d;simp_all[fA,cB,cU]<;>omega))])
   |(rw[fR (by simp at a;omega)])
   |(rw[fR (by simp at b;omega)])
   |(rw[ko e (by simp_all[cB]<;>omega)])
 refine .skip ?_
 ·exact aA () (by clear d;simp_all[fA,cB,cU]<;>omega) kE.c.c rH
 refine .gF g<|.gF g<|.gT k<|.q (.aQ g) ?_
 refine .q (.aQ k) ?_
 refine .mo rfl<|.gt rfl ?_
 refine .mo rfl<|.gt rfl ?_
 refine .q .bR<|.q .bW<|.q .not<|.zn ?_
 refine .cond rfl (λx=>?_) λx=>?_
 refine .sr<|.az rfl ?_
 refine .ret (iT (bp (aI (dj (bp (aI (aO rfl ?_)))))))
 ·refine⟨?_,rfl⟩
  first
   |(rw[l];simp_all[ek])
   |(rw[km (dW h (by clear d;simp_all[fA,cB,cU]<;>omega))])
   |(rw[fR (by simp at a;omega)])
   |(rw[fR (by simp at b;omega)])
   |(rw[ko e (by simp_all[cB]<;>omega)])
 refine .skip ?_
 ·exact aA () (by clear d;simp_all[fA,cB,cU]<;>omega) kE.c.c rH
 refine .gF o<|.gF o<|.q (.aQ o) ?_
 refine .mo rfl<|.gt rfl ?_
 refine .mo rfl<|.gt rfl ?_
 refine .q .geq<|.gt rfl ?_
 refine .mo rfl ?_
 refine .split (t:=41) rfl (λg=>?_) (λg=>?_)
 refine .gT g<|.mo rfl<|.gT g<|.q .leq<|.gt rfl ?_
 refine .q (.aW g) ?_
 refine .q .bW<|.mo rfl ?_
 refine .split (t:=46) rfl (λf=>?_) (λf=>?_)
 refine .gF f<|.gF f<|.q (.aW f) ?_
 refine .q .not<|.zn<|.bX<|.skip ?_
 ·exact aA () (by clear d;simp_all[fA,cB,cU]<;>omega) kE.c.c rH
 refine .gT f<|.mo rfl<|.gT f<|.q .bR<|.q (.aQ f) ?_
 refine .q .not<|.zn ?_
 refine .cond rfl (λx=>?_) λx=>?_
 refine .sr<|.az rfl ?_
 refine .ret (iT (bp (aI (dj (bp (aI (aO rfl ?_)))))))
 ·refine⟨?_,rfl⟩
  first
   |(rw[l];simp_all[ek])
   |(rw[km (dW h (by clear d;simp_all[fA,cB,cU]<;>omega))])
   |(rw[fR (by simp at a;omega)])
   |(rw[fR (by simp at b;omega)])
   |(rw[ko e (by simp_all[cB]<;>omega)])
 refine .skip ?_
 ·exact aA () (by clear d;simp_all[fA,cB,cU]<;>omega) kE.c.c rH
 refine .gF g<|.gF g<|.gt rfl ?_
 refine .q (.aQ g) ?_
 refine .q .bW<|.mo rfl<|.gt rfl ?_
 refine .mo rfl<|.gt rfl ?_
 refine .q .bR<|.q .bW<|.q .not<|.zn ?_
 refine .cond rfl (λx=>?_) λx=>?_
 refine .sr<|.az rfl ?_
 refine .ret (iT (bp (aI (dj (bp (aI (aO rfl ?_)))))))
 ·refine⟨?_,rfl⟩
  first
   |(rw[l];simp_all[ek])
   |(rw[km (dW h (by clear d;simp_all[fA,cB,cU]<;>omega))])
   |(rw[fR (by simp at a;omega)])
   |(rw[fR (by simp at b;omega)])
   |(rw[ko e (by simp_all[cB]<;>omega)])
 refine .skip ?_
 ·exact aA () (by clear d;simp_all[fA,cB,cU]<;>omega) kE.c.c rH
 intro y E
 refine bw<|aD<|.region<|.mo rfl ?_
 refine .q (.inc (n:=i) (by omega)) ?_
 refine .ag rfl<|.nil ?_
 ·exact bd (i+1) ⟨by omega,λj z H=>by
   rcases acr j i with hh|hh
   ·exact d j z hh
   ·obtain rfl:j=i:=by omega
    exact E⟩ (by omega) kE.c.c rH
 have C:eZ s fA=true:=mA λj z=>d j z (by simp at A;omega)
 have l:=KA e D.2 F C
 refine .exit<|bE<|bH<|bF<|aD<|.sr<|.mo rfl<|.q .eU<|.mo rfl ?_
 refine .split (t:=53) rfl (λu=>?_) (λu=>?_)
 refine .gT u<|.mo rfl<|.gT u<|.q .eU<|.q (.aW u) ?_
 refine .mo rfl ?_
 refine .split (t:=57) rfl (λw=>?_) (λw=>?_)
 refine .gT w<|.mo rfl<|.gT w<|.q .eU<|.q (.aW w) ?_
 refine .mo rfl ?_
 refine .split (t:=61) rfl (λp=>?_) (λp=>?_)
 refine .gT p<|.mo rfl<|.gT p<|.q .eU<|.q (.aW p) ?_
 refine .mo rfl ?_
 refine .split (t:=65) rfl (λr=>?_) (λr=>?_)
 refine .gT r<|.mo rfl<|.gT r<|.q .eU<|.q (.aW r) ?_
 refine .az rfl ?_
 refine .ret (aO rfl ?_)
 ·refine⟨?_,rfl⟩
  first
   |(rw[l];simp_all[ek])
   |(rw[km (dW h (by clear d;simp_all[fA,cB,cU]<;>omega))])
   |(rw[fR (by simp at a;omega)])
   |(rw[fR (by simp at b;omega)])
   |(rw[ko e (by simp_all[cB]<;>omega)])
 refine .gF r<|.gF r<|.q (.aQ r) ?_
 refine .az rfl ?_
 refine .ret (aO rfl ?_)
 ·refine⟨?_,rfl⟩
  first
   |(rw[l];simp_all[ek])
   |(rw[km (dW h (by clear d;simp_all[fA,cB,cU]<;>omega))])
   |(rw[fR (by simp at a;omega)])
   |(rw[fR (by simp at b;omega)])
   |(rw[ko e (by simp_all[cB]<;>omega)])
 refine .gF p<|.gF p<|.q (.aQ p) ?_
 refine .mo rfl<|.gX<|.gX<|.q .bW<|.az rfl ?_
 refine .ret (aO rfl ?_)
 ·refine⟨?_,rfl⟩
  first
   |(rw[l];simp_all[ek])
   |(rw[km (dW h (by clear d;simp_all[fA,cB,cU]<;>omega))])
   |(rw[fR (by simp at a;omega)])
   |(rw[fR (by simp at b;omega)])
   |(rw[ko e (by simp_all[cB]<;>omega)])
 refine .gF w<|.gF w<|.q (.aQ w) ?_
 refine .mo rfl<|.gX<|.gX<|.q .bW<|.mo rfl<|.gX<|.gX<|.q .bW<|.az rfl ?_
 refine .ret (aO rfl ?_)
 ·refine⟨?_,rfl⟩
  first
   |(rw[l];simp_all[ek])
   |(rw[km (dW h (by clear d;simp_all[fA,cB,cU]<;>omega))])
   |(rw[fR (by simp at a;omega)])
   |(rw[fR (by simp at b;omega)])
   |(rw[ko e (by simp_all[cB]<;>omega)])
 refine .gF u<|.gF u<|.q (.aQ u) ?_
 refine .mo rfl<|.gX<|.gX<|.q .bW<|.mo rfl<|.gX<|.gX<|.q .bW<|.mo rfl<|.gX<|.gX<|.q .bW<|.az rfl ?_
 refine .ret (aO rfl ?_)
 ·refine⟨?_,rfl⟩
  first
   |(rw[l];simp_all[ek])
   |(rw[km (dW h (by clear d;simp_all[fA,cB,cU]<;>omega))])
   |(rw[fR (by simp at a;omega)])
   |(rw[fR (by simp at b;omega)])
   |(rw[ko e (by simp_all[cB]<;>omega)])
def fO(z:Int):Bool:=decide (33<=z)&&decide (z<=126)
def iX(z:Int):Bool:=z !=35
def jy:ByteArray:=⟨#[104,116,116,112,115,58,47,47]⟩
def eB(s:ByteArray):Bool:=decide (9<=s.size)&&decide (s.size<=200)&&eZ s fO&&eZ s iX&&decide (s.extract 0 8=jy)
def et(s:ByteArray):Bool:=decide (s=⟨#[]⟩)||(decide (8<=s.size)&&decide (s.size<=64)&&eZ s fO)
structure bx where
 id:ByteArray
 cy:ByteArray
 cp:List ByteArray
 scopes:List ByteArray
def bx.check(c:bx):Int:=
 if dq c.id=false then 9 else if et c.cy=false then 4
 else if c.cp.length<1\/8<c.cp.length\/¬c.cp.Nodup\/c.cp.all eB=false then 4
 else if 16<c.scopes.length\/¬c.scopes.Nodup\/c.scopes.all isWord=false then 4 else 0
def bx.fits(c:bx):Prop:=c.id.size<=9223372036854775807/\c.cy.size<=9223372036854775807/\(∀s∈c.cp,s.size<=9223372036854775807)/\∀s∈c.scopes,s.size<=9223372036854775807
theorem vG:∀(l:List UInt8),decide (0<=Lib.indexByte l 35)= !(l.all λc=>iX (c.toNat:Int))
 |[]=>rfl
 |b::l=>by
  have h:=vG l
  have i:=Lib.indexByte_ge l 35
  unfold Lib.indexByte
  rw[List.all_cons]
  by_cases a:b=35
  ·subst a;simp[iX]
  ·have f:(b==35)=false:=by simpa using a
   have g:iX (b.toNat:Int)=true:=by
    have:b.toNat≠35:=λe=>a (UInt8.toNat_inj.1 e)
    simp[iX];omega
   rw[f,g,acq, <-h]
   simp only[acQ,acB]
   by_cases d:Lib.indexByte l 35= -1
   ·simp[d]
   ·have:(Lib.indexByte l 35== -1)=false:=by simpa using d
    rw[this]
    simp only[acQ,acB]
    rw[acd];simp;omega
theorem Ks(s:ByteArray)(R:au):Spec prog 247 [.string s,.string ⟨#[35]⟩] R [] λv H'=>v=.bool (!eZ s iX)/\H'=[]:=
 (Spec.oZ (Ny s 35) R).mono λv H' ⟨a,b⟩=>⟨by rw[a,vG];rfl,b⟩
theorem LM(s:ByteArray)(R:au)(h:8<=s.size):Spec prog 248 [.string s,.string jy] R [] λv H'=>v=.bool (decide (s.extract 0 8=jy))/\H'=[]:=
 (Spec.oZ (Nz s jy) R).mono λv H' ⟨a,b⟩=>⟨by
  rw[a, <-Lib.hasPrefix_raw,p4,show jy.size=8 from rfl,ab9 h,acq],b⟩
theorem xR(s:ByteArray)(m:s.size<=9223372036854775807)(R:au):Spec prog 246 [.string s] R [] λv H'=>v=.bool (eZ s fO)/\H'=[]:=by
 refine Spec.body func246 rfl results246 ntmps246 rfl ?_
 refine .sr<|.ag rfl<|.zs<|.sr<|.mo rfl<|.q .fF<|.mo rfl<|.zn<|.block ?_
 refine .loop (X:=Nat) (λi=>i<=s.size/\∀j (f:j<s.size),j<i->fO (s[j]'f).toNat=true) (λi=>[(0,.string s),(5,iN s.size),(6,iN i)]) (λ_=>[]) (λi=>s.size-i) 0 ⟨by omega,by omega⟩ kE.c.c.c rH ?_
 rintro i ⟨k,b⟩
 refine .sr<|.q .lss<|.zs ?_
 refine .cond rfl (λg=>?_) λg=>?_
 have d:i<s.size:=by simp at g;omega
 refine .kn<|.seq<|.block<|.sr<|.mo rfl<|.ag rfl<|.z<|.mo rfl<|.mo rfl<|.q (.iG i d) ?_
 refine .q .lss<|.mo rfl ?_
 refine .split (t:=13) rfl (λa=>?_) (λa=>?_)
 refine .gF a<|.gF a<|.gF a<|.gF a<|.q (.aW a) ?_
 refine .zn<|.dn<|.sr<|.az rfl ?_
 refine .ret (bp (aI (dj (bp (aI (aO rfl ?_))))))
 ·refine⟨?_,rfl⟩
  first
   |rw[h]
   |rw[dW d (by clear b;simp at a;simp[fO];omega)]
   |rw[dW d (by clear b;simp at e;simp[fO];omega)]
 refine .gT a<|.mo rfl<|.gT a<|.mo rfl<|.gT a<|.q (.iG i d) ?_
 refine .gT a<|.q .gtr<|.q (.aQ a) ?_
 refine .zn ?_
 refine .cond rfl (λe=>?_) λe=>?_
 refine .sr<|.az rfl ?_
 refine .ret (bp (aI (dj (bp (aI (aO rfl ?_))))))
 ·refine⟨?_,rfl⟩
  first
   |rw[h]
   |rw[dW d (by clear b;simp at a;simp[fO];omega)]
   |rw[dW d (by clear b;simp at e;simp[fO];omega)]
 refine .skip<|bw<|aD<|.region ?_
 refine .q (.inc (n:=i) (by omega)) ?_
 refine .mo rfl<|.nil ?_
 ·exact bd (i+1) ⟨by omega,λj f l=>by
   rcases acr j i with hh|hh
   ·exact b j f hh
   ·obtain rfl:j=i:=by omega
    clear b
    simp at a e;simp[fO];omega⟩ (by omega) kE.c.c.c rH
 have h:eZ s fO=true:=mA λj f=>b j f (by simp at g;omega)
 refine .exit<|bE<|bH<|bF<|aD<|.sr<|.az rfl ?_
 refine .ret (aO rfl ?_)
 ·refine⟨?_,rfl⟩
  first
   |rw[h]
   |rw[dW d (by clear b;simp at a;simp[fO];omega)]
   |rw[dW d (by clear b;simp at e;simp[fO];omega)]
theorem xf(s:ByteArray)(m:s.size<=9223372036854775807)(R:au):Spec prog 163 [.string s] R [] λv H'=>v=.bool (eZ s fO)/\H'=[]:=by
 refine Spec.body func163 rfl results163 ntmps163 rfl ?_
 refine .sr<|.ag rfl<|.zs<|.sr<|.az rfl<|.block ?_
 refine .loop (X:=Nat) (λi=>i<=s.size/\∀j (f:j<s.size),j<i->fO (s[j]'f).toNat=true) (λi=>[(0,.string s),(3,iN i)]) (λ_=>[]) (λi=>s.size-i) 0 ⟨by omega,by omega⟩ kE.c.c rH ?_
 rintro i ⟨k,b⟩
 refine .seq<|.sr<|.mo rfl<|.mo rfl<|.q .fF<|.q .lss<|.zn ?_
 refine .cond rfl (λg=>?_) λg=>?_
 have d:i<s.size:=by simp at g;omega
 refine .kn<|.seq<|.block<|.sr<|.mo rfl<|.mo rfl<|.q (.iG i d) ?_
 refine .q .lss<|.mo rfl ?_
 refine .split (t:=14) rfl (λa=>?_) (λa=>?_)
 refine .gF a<|.gF a<|.gF a<|.gF a<|.q (.aW a) ?_
 refine .zn<|.dn<|.sr<|.az rfl ?_
 refine .ret (bp (aI (dj (bp (aI (aO rfl ?_))))))
 ·refine⟨?_,rfl⟩
  first
   |rw[h]
   |rw[dW d (by clear b;simp at a;simp[fO];omega)]
   |rw[dW d (by clear b;simp at e;simp[fO];omega)]
 refine .gT a<|.mo rfl<|.gT a<|.mo rfl<|.gT a<|.q (.iG i d) ?_
 refine .gT a<|.q .gtr<|.q (.aQ a) ?_
 refine .zn ?_
 refine .cond rfl (λe=>?_) λe=>?_
 refine .sr<|.az rfl ?_
 refine .ret (bp (aI (dj (bp (aI (aO rfl ?_))))))
 ·refine⟨?_,rfl⟩
  first
   |rw[h]
   |rw[dW d (by clear b;simp at a;simp[fO];omega)]
   |rw[dW d (by clear b;simp at e;simp[fO];omega)]
 refine .skip<|bw<|aD<|.region<|.mo rfl ?_
 refine .q (.inc (n:=i) (by omega)) ?_
 refine .ag rfl<|.nil ?_
 ·exact bd (i+1) ⟨by omega,λj f l=>by
   rcases acr j i with hh|hh
   ·exact b j f hh
   ·obtain rfl:j=i:=by omega
    clear b
    simp at a e;simp[fO];omega⟩ (by omega) kE.c.c rH
 have h:eZ s fO=true:=mA λj f=>b j f (by simp at g;omega)
 refine .exit<|bE<|bH<|bF<|aD<|.sr<|.az rfl ?_
 refine .ret (aO rfl ?_)
 ·refine⟨?_,rfl⟩
  first
   |rw[h]
   |rw[dW d (by clear b;simp at a;simp[fO];omega)]
   |rw[dW d (by clear b;simp at e;simp[fO];omega)]
theorem gG{s:ByteArray}(h:s.size<9\/200<s.size):eB s=false:=by
 unfold eB
 rcases h with h|h
 ·rw[acg (show ¬9<=s.size by omega)];simp
 ·rw[acg (show ¬s.size<=200 by omega)];simp
theorem lc{s:ByteArray}(h:eZ s fO=false):eB s=false:=by
 unfold eB;rw[h];simp
theorem k3{s:ByteArray}(h:eZ s iX=false):eB s=false:=by
 unfold eB;rw[h];simp
theorem nB{s:ByteArray}(h:s.extract 0 8≠jy):eB s=false:=by
 unfold eB;rw[acg h];simp
theorem la{s:ByteArray}(a:9<=s.size)(b:s.size<=200)(c:eZ s fO=true)(d:eZ s iX=true):eB s=decide (s.extract 0 8=jy):=by
 unfold eB;rw[ab9 a,ab9 b,c,d];simp
theorem yQ(s:ByteArray)(g:s.size<=9223372036854775807)(R:au):Spec prog 192 [.string s] R [] λv H'=>v=.bool (eB s)/\H'=[]:=by
 refine Spec.body func192 rfl results192 ntmps192 rfl ?_
 refine .sr<|.ag rfl<|.z<|.mo rfl<|.q .fF<|.q .geq<|.mo rfl ?_
 refine .split (t:=6) rfl (λa=>?_) (λa=>?_)
 refine .gT a<|.mo rfl<|.gT a<|.q .fF<|.gT a<|.q .leq<|.q (.aW a) ?_
 refine .mo rfl ?_
 refine .split (t:=11) rfl (λd=>?_) (λd=>?_)
 refine .gT d<|.mo rfl<|.gT d ?_
 refine .aL (xR s g _) (λv e=>?_)
 subst e
 refine .q (.aW d) ?_
 refine .mo rfl ?_
 refine .split (t:=15) rfl (λb=>?_) (λb=>?_)
 refine .gT b<|.mo rfl<|.gT b ?_
 refine .aL (Ks s _) (λv e=>?_)
 subst e
 refine .gT b<|.q .not<|.q (.aW b) ?_
 refine .mo rfl ?_
 refine .split (t:=20) rfl (λc=>?_) (λc=>?_)
 refine .gT c<|.mo rfl<|.gT c ?_
 have f:8<=s.size:=by simp at a;omega
 refine .aL (LM s _ f) (λv e=>?_)
 subst e
 refine .q (.aW c) ?_
 refine .az rfl ?_
 refine .ret (aO rfl ?_)
 ·refine⟨?_,rfl⟩
  first
   |rw[gG (by simp at a;omega)]
   |rw[gG (by simp at d;omega)]
   |rw[lc b]
   |rw[k3 (by simpa using c)]
   |rw[la (by simp at a;omega) (by simp at d;omega) b (by simpa using c)]
 refine .gF c<|.gF c<|.q (.aQ c) ?_
 refine .az rfl ?_
 refine .ret (aO rfl ?_)
 ·refine⟨?_,rfl⟩
  first
   |rw[gG (by simp at a;omega)]
   |rw[gG (by simp at d;omega)]
   |rw[lc b]
   |rw[k3 (by simpa using c)]
   |rw[la (by simp at a;omega) (by simp at d;omega) b (by simpa using c)]
 refine .gF b<|.gF b<|.gF b<|.q (.aQ b) ?_
 refine .mo rfl<|.gX<|.gX<|.q .bW<|.az rfl ?_
 refine .ret (aO rfl ?_)
 ·refine⟨?_,rfl⟩
  first
   |rw[gG (by simp at a;omega)]
   |rw[gG (by simp at d;omega)]
   |rw[lc b]
   |rw[k3 (by simpa using c)]
   |rw[la (by simp at a;omega) (by simp at d;omega) b (by simpa using c)]
 refine .gF d<|.gF d<|.q (.aQ d) ?_
 refine .mo rfl<|.gX<|.gX<|.gX<|.q .bW<|.mo rfl<|.gX<|.gX<|.q .bW<|.az rfl ?_
 refine .ret (aO rfl ?_)
 ·refine⟨?_,rfl⟩
  first
   |rw[gG (by simp at a;omega)]
   |rw[gG (by simp at d;omega)]
   |rw[lc b]
   |rw[k3 (by simpa using c)]
   |rw[la (by simp at a;omega) (by simp at d;omega) b (by simpa using c)]
 refine .gF a<|.gF a<|.gF a<|.q (.aQ a) ?_
 refine .mo rfl<|.gX<|.gX<|.q .bW<|.mo rfl<|.gX<|.gX<|.gX<|.q .bW<|.mo rfl<|.gX<|.gX<|.q .bW<|.az rfl ?_
 refine .ret (aO rfl ?_)
 ·refine⟨?_,rfl⟩
  first
   |rw[gG (by simp at a;omega)]
   |rw[gG (by simp at d;omega)]
   |rw[lc b]
   |rw[k3 (by simpa using c)]
   |rw[la (by simp at a;omega) (by simp at d;omega) b (by simpa using c)]
theorem Mm(s:ByteArray)(u:s.size<=9223372036854775807)(R:au):Spec prog 165 [.string s] R [] λv H'=>v=.bool (eB s)/\H'=[]:=by
 refine Spec.body func165 rfl results165 ntmps165 rfl ?_
 refine .sr<|.ag rfl<|.zs<|.sr<|.mo rfl<|.q .fF<|.q .lss<|.mo rfl ?_
 refine .split (t:=7) rfl (λa=>?_) (λa=>?_)
 refine .gF a<|.gF a<|.gF a<|.q (.aW a) ?_
 refine .mo rfl<|.gX<|.gX<|.gX<|.q .bY<|.mo rfl<|.gX<|.gX<|.gX<|.q .bY<|.zn<|.dn<|.sr<|.az rfl ?_
 refine .ret (aI (aO rfl ?_))
 ·refine⟨?_,rfl⟩
  first
   |rw[la e.1 e.2 o l,ab9 m]
   |rw[k3 (dW k (by clear f;simp at h;simp[iX];omega))]
   |rw[gG (by simp at a;omega)]
   |rw[gG (by simp at d;omega)]
   |rw[lc (by simpa using b)]
   |rw[nB (by simpa[jy]using g)]
 refine .gT a<|.mo rfl<|.gT a<|.q .fF<|.gT a<|.q .gtr<|.q (.aQ a) ?_
 refine .mo rfl ?_
 refine .split (t:=12) rfl (λd=>?_) (λd=>?_)
 refine .gF d<|.gF d<|.gF d<|.q (.aW d) ?_
 refine .mo rfl<|.gX<|.gX<|.gX<|.q .bY<|.zn<|.dn<|.sr<|.az rfl ?_
 refine .ret (aI (aO rfl ?_))
 ·refine⟨?_,rfl⟩
  first
   |rw[la e.1 e.2 o l,ab9 m]
   |rw[k3 (dW k (by clear f;simp at h;simp[iX];omega))]
   |rw[gG (by simp at a;omega)]
   |rw[gG (by simp at d;omega)]
   |rw[lc (by simpa using b)]
   |rw[nB (by simpa[jy]using g)]
 refine .gT d<|.mo rfl<|.gT d ?_
 refine .aL (xf s u _) (λv w=>?_)
 subst w
 refine .gT d<|.q .not<|.q (.aQ d) ?_
 refine .mo rfl ?_
 refine .split (t:=17) rfl (λb=>?_) (λb=>?_)
 refine .gF b<|.gF b<|.gF b<|.q (.aW b) ?_
 refine .zn<|.dn<|.sr<|.az rfl ?_
 refine .ret (aI (aO rfl ?_))
 ·refine⟨?_,rfl⟩
  first
   |rw[la e.1 e.2 o l,ab9 m]
   |rw[k3 (dW k (by clear f;simp at h;simp[iX];omega))]
   |rw[gG (by simp at a;omega)]
   |rw[gG (by simp at d;omega)]
   |rw[lc (by simpa using b)]
   |rw[nB (by simpa[jy]using g)]
 refine .gT b<|.mo rfl<|.gT b ?_
 have x:9<=s.size:=by simp at a;omega
 refine .q (.sL (s:=s) 0 8 rfl ⟨_,rfl⟩ (by omega) (by omega)) ?_
 refine .gT b<|.q .eU<|.q (.aQ b) ?_
 refine .zn ?_
 refine .cond rfl (λg=>?_) λg=>?_
 refine .sr<|.az rfl ?_
 refine .ret (aI (aO rfl ?_))
 ·refine⟨?_,rfl⟩
  first
   |rw[la e.1 e.2 o l,ab9 m]
   |rw[k3 (dW k (by clear f;simp at h;simp[iX];omega))]
   |rw[gG (by simp at a;omega)]
   |rw[gG (by simp at d;omega)]
   |rw[lc (by simpa using b)]
   |rw[nB (by simpa[jy]using g)]
 have e:9<=s.size/\s.size<=200:=by simp at a d;omega
 have o:eZ s fO=true:=by simpa using b
 have m:s.extract 0 8=jy:=by simpa[jy]using g
 refine .kn<|.seq<|.sr<|.az rfl<|.block ?_
 refine .loop (X:=Nat) (λi=>i<=s.size/\∀j (p:j<s.size),j<i->iX (s[j]'p).toNat=true) (λi=>[(0,.string s),(3,iN i)]) (λ_=>[]) (λi=>s.size-i) 0 ⟨by omega,by omega⟩ kE.c.c rH ?_
 rintro i ⟨y,f⟩
 refine .seq<|.sr<|.mo rfl<|.mo rfl<|.q .fF<|.q .lss<|.zn ?_
 refine .cond rfl (λr=>?_) λr=>?_
 have k:i<s.size:=by simp at r;omega
 refine .kn<|.seq<|.block<|.sr<|.mo rfl<|.mo rfl<|.q (.iG i k) ?_
 refine .q .bR<|.zn ?_
 refine .cond rfl (λh=>?_) λh=>?_
 refine .sr<|.az rfl ?_
 refine .ret (bp (aI (dj (bp (aI (aO rfl ?_))))))
 ·refine⟨?_,rfl⟩
  first
   |rw[la e.1 e.2 o l,ab9 m]
   |rw[k3 (dW k (by clear f;simp at h;simp[iX];omega))]
   |rw[gG (by simp at a;omega)]
   |rw[gG (by simp at d;omega)]
   |rw[lc (by simpa using b)]
   |rw[nB (by simpa[jy]using g)]
 refine .skip<|bw<|aD<|.region<|.mo rfl ?_
 refine .q (.inc (n:=i) (by omega)) ?_
 refine .ag rfl<|.nil ?_
 ·exact bd (i+1) ⟨by omega,λj p z=>by
   rcases acr j i with hh|hh
   ·exact f j p hh
   ·obtain rfl:j=i:=by omega
    clear f
    simp at h;simp[iX];omega⟩ (by omega) kE.c.c rH
 have l:eZ s iX=true:=mA λj p=>f j p (by simp at r;omega)
 refine .exit<|bE<|bH<|bF<|aD<|.sr<|.az rfl ?_
 refine .ret (aO rfl ?_)
 ·refine⟨?_,rfl⟩
  first
   |rw[la e.1 e.2 o l,ab9 m]
   |rw[k3 (dW k (by clear f;simp at h;simp[iX];omega))]
   |rw[gG (by simp at a;omega)]
   |rw[gG (by simp at d;omega)]
   |rw[lc (by simpa using b)]
   |rw[nB (by simpa[jy]using g)]
theorem M5(s:ByteArray)(d:s.size<=9223372036854775807)(R:au):Spec prog 191 [.string s] R [] λv H'=>v=.bool (et s)/\H'=[]:=by
 refine Spec.body func191 rfl results191 ntmps191 rfl ?_
 refine .sr<|.ag rfl<|.z<|.mo rfl<|.q .eg<|.mo rfl ?_
 refine .split (t:=5) rfl (λa=>?_) (λa=>?_)
 refine .gF a<|.gF a<|.gF a<|.gF a<|.cT rfl ?_
 refine .cT rfl ?_
 refine .cT rfl ?_
 refine .gF a<|.gF a<|.cT rfl ?_
 refine .cT rfl ?_
 refine .gF a<|.q (.aW a) ?_
 refine .az rfl ?_
 refine .ret (aO rfl ?_)
 ·refine⟨?_,rfl⟩
  unfold et
  rw[Value.bool.injEq,acd]
  simp at *
  simp[*]
  try omega
 refine .gT a<|.mo rfl<|.gT a<|.q .fF<|.gT a<|.q .geq<|.gT a<|.mo rfl ?_
 refine .split (t:=9) rfl (λb=>?_) (λb=>?_)
 refine .gT b<|.mo rfl<|.gT b<|.q .fF<|.gT b<|.q .leq<|.gT a<|.q (.aW b) ?_
 refine .gT a<|.mo rfl ?_
 refine .split (t:=14) rfl (λc=>?_) (λc=>?_)
 refine .gT c<|.mo rfl<|.gT c ?_
 refine .aL (xR s d _) (λv e=>?_)
 subst e
 refine .gT a<|.q (.aW c) ?_
 refine .q (.aQ a) ?_
 refine .az rfl ?_
 refine .ret (aO rfl ?_)
 ·refine⟨?_,rfl⟩
  unfold et
  rw[Value.bool.injEq,acd]
  simp at *
  simp[*]
  try omega
 refine .gF c<|.gF c<|.gT a<|.q (.aQ c) ?_
 refine .q (.aQ a) ?_
 refine .az rfl ?_
 refine .ret (aO rfl ?_)
 ·refine⟨?_,rfl⟩
  unfold et
  rw[Value.bool.injEq,acd]
  simp at *
  simp[*]
  try omega
 refine .gF b<|.gF b<|.gF b<|.gT a<|.q (.aQ b) ?_
 refine .gT a<|.mo rfl<|.gX<|.gX<|.gT a<|.q .bW<|.q (.aQ a) ?_
 refine .az rfl ?_
 refine .ret (aO rfl ?_)
 ·refine⟨?_,rfl⟩
  unfold et
  rw[Value.bool.injEq,acd]
  simp at *
  simp[*]
  try omega
structure CR where
 id:ByteArray
 cy:ByteArray
 vu:Value
 vs:Value
def CR.cells(r:CR):List Value:=[.string r.id,.string r.cy,r.vu,r.vs]
structure eR(R:au)(r:CR)(c:bx):Prop where
 id:r.id=c.id
 cy:r.cy=c.cy
 u:RS R 1 bz r.vu c.cp
 s:RS R 1 bz r.vs c.scopes
theorem eR.mono{R R':au}{r:CR}{c:bx}(h:eR R r c)(a:∀b o,R b o->R' b o):eR R' r c:=⟨h.id,h.cy,h.u.mono a,h.s.mono a⟩
theorem eR.bD{R:au}{r:CR}{c:bx}(h:eR R r c):∀u∈r.cells,av u=true:=by
 have a:=h.u.av.h
 have b:=h.s.av.h
 simp[CR.cells,a,b]
 exact⟨rfl,rfl⟩
theorem zP(r:CR)(c:bx)(R:au)(h:eR R r c)(L:c.fits):Spec prog 133 [.agg r.cells.toArray] R [] λv H'=>v=.int .i64 c.check/\H'=[]:=by
  obtain⟨Q,S,C,B⟩:=r
  obtain⟨z,A,o,p⟩:=h
  simp only at z A o p
  subst z;subst A
  obtain⟨D,E,F,G⟩:=L
  have N:=o.av
  have O:=p.av
  refine Spec.body func133 rfl results133 ntmps133 rfl ?_
  refine .sr ?_
  refine .dA rfl (λM=>?_)
  refine .ag rfl<|.zs<|.block<|.sr<|.fa rfl<|.lo rfl ?_
  refine .aL (rU c.id D _) (λv m=>?_)
  subst m
  refine .q .not<|.az rfl ?_
  refine .cond rfl (λH=>?_) λH=>?_
  refine .sr<|.az rfl ?_
  refine .ret (bp (aI (aO rfl ?_)))
  ·refine⟨?_,rfl⟩
   congr 1
   unfold bx.check
   simp only[aci,acj,ace,ack]at *
   have d:dq c.id=true->¬dq c.id=false:=λh=>by rw[h];simp
   have f:et c.cy=true->¬et c.cy=false:=λh=>by rw[h];simp
   first
     |rw[ab7 (by assumption)]
     |rw[ab8 (d (by assumption)),ab7 (by assumption)]
     |(rw[ab8 (d (by assumption)),ab8 (f (by assumption))]
       have n:∀{a b:Prop},a->b->(a/\b):=λx y=>⟨x,y⟩
       first
         |rw[ab7 (.inl (by omega))]
         |rw[ab7 (.inr (.inl (by omega)))]
         |rw[ab7 (.inr (.inr (.inl (by assumption))))]
         |rw[ab7 (.inr (.inr (.inr (by assumption))))]
         |(have e:¬(c.cp.length<1\/8<c.cp.length\/¬c.cp.Nodup\/c.cp.all eB=false):=by
              rintro(h|h|h|h)
              ·omega
              ·omega
              ·exact h (by assumption)
              ·rw[show c.cp.all eB=true by assumption]at h;cases h
           rw[ab8 e]
           first
             |rw[ab7 (.inl (by omega))]
             |rw[ab7 (.inr (.inl (by assumption)))]
             |rw[ab7 (.inr (.inr (by assumption)))]
             |(rw[ab8]
               rintro(h|h|h)
               ·omega
               ·exact h (by assumption)
               ·rw[show c.scopes.all isWord=true by assumption]at h;cases h)))
  refine .sr<|.fa rfl<|.lo rfl ?_
  refine .aL (M5 c.cy E _) (λv m=>?_)
  subst m
  refine .q .not<|.az rfl ?_
  refine .cond rfl (λI=>?_) λI=>?_
  refine .sr<|.az rfl ?_
  refine .ret (bp (aI (aO rfl ?_)))
  ·refine⟨?_,rfl⟩
   congr 1
   unfold bx.check
   simp only[aci,acj,ace,ack]at *
   have d:dq c.id=true->¬dq c.id=false:=λh=>by rw[h];simp
   have f:et c.cy=true->¬et c.cy=false:=λh=>by rw[h];simp
   first
     |rw[ab7 (by assumption)]
     |rw[ab8 (d (by assumption)),ab7 (by assumption)]
     |(rw[ab8 (d (by assumption)),ab8 (f (by assumption))]
       have n:∀{a b:Prop},a->b->(a/\b):=λx y=>⟨x,y⟩
       first
         |rw[ab7 (.inl (by omega))]
         |rw[ab7 (.inr (.inl (by omega)))]
         |rw[ab7 (.inr (.inr (.inl (by assumption))))]
         |rw[ab7 (.inr (.inr (.inr (by assumption))))]
         |(have e:¬(c.cp.length<1\/8<c.cp.length\/¬c.cp.Nodup\/c.cp.all eB=false):=by
              rintro(h|h|h|h)
              ·omega
              ·omega
              ·exact h (by assumption)
              ·rw[show c.cp.all eB=true by assumption]at h;cases h
           rw[ab8 e]
           first
             |rw[ab7 (.inl (by omega))]
             |rw[ab7 (.inr (.inl (by assumption)))]
             |rw[ab7 (.inr (.inr (by assumption)))]
             |(rw[ab8]
               rintro(h|h|h)
               ·omega
               ·exact h (by assumption)
               ·rw[show c.scopes.all isWord=true by assumption]at h;cases h)))
  refine .sr<|.fa rfl<|.lo rfl<|.q (.di o) ?_
  refine .q .lss<|.mo rfl ?_
  refine .split (t:=18) rfl (λj=>?_) (λj=>?_)
  refine .gF j<|.gF j<|.gF j<|.gF j<|.q (.aW j) ?_
  refine .mo rfl<|.gX<|.gX<|.gX<|.gX<|.q .bY<|.mo rfl<|.gX<|.gX<|.gX<|.gX<|.q .bY<|.az rfl<|.dn<|.sr<|.az rfl ?_
  refine .ret (bp (aI (aO rfl ?_)))
  ·refine⟨?_,rfl⟩
   congr 1
   unfold bx.check
   simp only[aci,acj,ace,ack]at *
   have d:dq c.id=true->¬dq c.id=false:=λh=>by rw[h];simp
   have f:et c.cy=true->¬et c.cy=false:=λh=>by rw[h];simp
   first
     |rw[ab7 (by assumption)]
     |rw[ab8 (d (by assumption)),ab7 (by assumption)]
     |(rw[ab8 (d (by assumption)),ab8 (f (by assumption))]
       have n:∀{a b:Prop},a->b->(a/\b):=λx y=>⟨x,y⟩
       first
         |rw[ab7 (.inl (by omega))]
         |rw[ab7 (.inr (.inl (by omega)))]
         |rw[ab7 (.inr (.inr (.inl (by assumption))))]
         |rw[ab7 (.inr (.inr (.inr (by assumption))))]
         |(have e:¬(c.cp.length<1\/8<c.cp.length\/¬c.cp.Nodup\/c.cp.all eB=false):=by
              rintro(h|h|h|h)
              ·omega
              ·omega
              ·exact h (by assumption)
              ·rw[show c.cp.all eB=true by assumption]at h;cases h
           rw[ab8 e]
           first
             |rw[ab7 (.inl (by omega))]
             |rw[ab7 (.inr (.inl (by assumption)))]
             |rw[ab7 (.inr (.inr (by assumption)))]
             |(rw[ab8]
               rintro(h|h|h)
               ·omega
               ·exact h (by assumption)
               ·rw[show c.scopes.all isWord=true by assumption]at h;cases h)))
  refine .gT j<|.fa rfl<|.gT j<|.lo rfl<|.gT j<|.q (.di o) ?_
  refine .gT j<|.q .gtr<|.q (.aQ j) ?_
  refine .mo rfl ?_
  refine .split (t:=24) rfl (λg=>?_) (λg=>?_)
  refine .gF g<|.gF g<|.gF g<|.gF g<|.q (.aW g) ?_
  refine .mo rfl<|.gX<|.gX<|.gX<|.gX<|.q .bY<|.az rfl<|.dn<|.sr<|.az rfl ?_
  refine .ret (bp (aI (aO rfl ?_)))
  ·refine⟨?_,rfl⟩
   congr 1
   unfold bx.check
   simp only[aci,acj,ace,ack]at *
   have d:dq c.id=true->¬dq c.id=false:=λh=>by rw[h];simp
   have f:et c.cy=true->¬et c.cy=false:=λh=>by rw[h];simp
   first
     |rw[ab7 (by assumption)]
     |rw[ab8 (d (by assumption)),ab7 (by assumption)]
     |(rw[ab8 (d (by assumption)),ab8 (f (by assumption))]
       have n:∀{a b:Prop},a->b->(a/\b):=λx y=>⟨x,y⟩
       first
         |rw[ab7 (.inl (by omega))]
         |rw[ab7 (.inr (.inl (by omega)))]
         |rw[ab7 (.inr (.inr (.inl (by assumption))))]
         |rw[ab7 (.inr (.inr (.inr (by assumption))))]
         |(have e:¬(c.cp.length<1\/8<c.cp.length\/¬c.cp.Nodup\/c.cp.all eB=false):=by
              rintro(h|h|h|h)
              ·omega
              ·omega
              ·exact h (by assumption)
              ·rw[show c.cp.all eB=true by assumption]at h;cases h
           rw[ab8 e]
           first
             |rw[ab7 (.inl (by omega))]
             |rw[ab7 (.inr (.inl (by assumption)))]
             |rw[ab7 (.inr (.inr (by assumption)))]
             |(rw[ab8]
               rintro(h|h|h)
               ·omega
               ·exact h (by assumption)
               ·rw[show c.scopes.all isWord=true by assumption]at h;cases h)))
  refine .gT g<|.fa rfl<|.gT g<|.lo rfl<|.gT g ?_
  refine .aL (rC C c.cp _ o.rx) (λv m=>?_)
  subst m
  refine .gT g<|.q .not<|.q (.aQ g) ?_
  refine .mo rfl ?_
  refine .split (t:=30) rfl (λi=>?_) (λi=>?_)
  refine .gF i<|.gF i<|.gF i<|.gF i<|.q (.aW i) ?_
  refine .az rfl<|.dn<|.sr<|.az rfl ?_
  refine .ret (bp (aI (aO rfl ?_)))
  ·refine⟨?_,rfl⟩
   congr 1
   unfold bx.check
   simp only[aci,acj,ace,ack]at *
   have d:dq c.id=true->¬dq c.id=false:=λh=>by rw[h];simp
   have f:et c.cy=true->¬et c.cy=false:=λh=>by rw[h];simp
   first
     |rw[ab7 (by assumption)]
     |rw[ab8 (d (by assumption)),ab7 (by assumption)]
     |(rw[ab8 (d (by assumption)),ab8 (f (by assumption))]
       have n:∀{a b:Prop},a->b->(a/\b):=λx y=>⟨x,y⟩
       first
         |rw[ab7 (.inl (by omega))]
         |rw[ab7 (.inr (.inl (by omega)))]
         |rw[ab7 (.inr (.inr (.inl (by assumption))))]
         |rw[ab7 (.inr (.inr (.inr (by assumption))))]
         |(have e:¬(c.cp.length<1\/8<c.cp.length\/¬c.cp.Nodup\/c.cp.all eB=false):=by
              rintro(h|h|h|h)
              ·omega
              ·omega
              ·exact h (by assumption)
              ·rw[show c.cp.all eB=true by assumption]at h;cases h
           rw[ab8 e]
           first
             |rw[ab7 (.inl (by omega))]
             |rw[ab7 (.inr (.inl (by assumption)))]
             |rw[ab7 (.inr (.inr (by assumption)))]
             |(rw[ab8]
               rintro(h|h|h)
               ·omega
               ·exact h (by assumption)
               ·rw[show c.scopes.all isWord=true by assumption]at h;cases h)))
  refine .gT i<|.fa rfl<|.gT i<|.lo rfl<|.gT i ?_
  refine .aL (tV 192 eB C c.cp _ o.rx λs w u=>yQ s (F s w) u) (λv m=>?_)
  subst m
  refine .gT i<|.q .not<|.q (.aQ i) ?_
  refine .az rfl ?_
  refine .cond rfl (λJ=>?_) λJ=>?_
  refine .sr<|.az rfl ?_
  refine .ret (bp (aI (aO rfl ?_)))
  ·refine⟨?_,rfl⟩
   congr 1
   unfold bx.check
   simp only[aci,acj,ace,ack]at *
   have d:dq c.id=true->¬dq c.id=false:=λh=>by rw[h];simp
   have f:et c.cy=true->¬et c.cy=false:=λh=>by rw[h];simp
   first
     |rw[ab7 (by assumption)]
     |rw[ab8 (d (by assumption)),ab7 (by assumption)]
     |(rw[ab8 (d (by assumption)),ab8 (f (by assumption))]
       have n:∀{a b:Prop},a->b->(a/\b):=λx y=>⟨x,y⟩
       first
         |rw[ab7 (.inl (by omega))]
         |rw[ab7 (.inr (.inl (by omega)))]
         |rw[ab7 (.inr (.inr (.inl (by assumption))))]
         |rw[ab7 (.inr (.inr (.inr (by assumption))))]
         |(have e:¬(c.cp.length<1\/8<c.cp.length\/¬c.cp.Nodup\/c.cp.all eB=false):=by
              rintro(h|h|h|h)
              ·omega
              ·omega
              ·exact h (by assumption)
              ·rw[show c.cp.all eB=true by assumption]at h;cases h
           rw[ab8 e]
           first
             |rw[ab7 (.inl (by omega))]
             |rw[ab7 (.inr (.inl (by assumption)))]
             |rw[ab7 (.inr (.inr (by assumption)))]
             |(rw[ab8]
               rintro(h|h|h)
               ·omega
               ·exact h (by assumption)
               ·rw[show c.scopes.all isWord=true by assumption]at h;cases h)))
  refine .sr<|.fa rfl<|.lo rfl<|.q (.di p) ?_
  refine .q .gtr<|.mo rfl ?_
  refine .split (t:=41) rfl (λl=>?_) (λl=>?_)
  refine .gF l<|.gF l<|.gF l<|.gF l<|.q (.aW l) ?_
  refine .mo rfl<|.gX<|.gX<|.gX<|.gX<|.q .bY<|.az rfl<|.dn<|.sr<|.az rfl ?_
  refine .ret (bp (aI (aO rfl ?_)))
  ·refine⟨?_,rfl⟩
   congr 1
   unfold bx.check
   simp only[aci,acj,ace,ack]at *
   have d:dq c.id=true->¬dq c.id=false:=λh=>by rw[h];simp
   have f:et c.cy=true->¬et c.cy=false:=λh=>by rw[h];simp
   first
     |rw[ab7 (by assumption)]
     |rw[ab8 (d (by assumption)),ab7 (by assumption)]
     |(rw[ab8 (d (by assumption)),ab8 (f (by assumption))]
       have n:∀{a b:Prop},a->b->(a/\b):=λx y=>⟨x,y⟩
       first
         |rw[ab7 (.inl (by omega))]
         |rw[ab7 (.inr (.inl (by omega)))]
         |rw[ab7 (.inr (.inr (.inl (by assumption))))]
         |rw[ab7 (.inr (.inr (.inr (by assumption))))]
         |(have e:¬(c.cp.length<1\/8<c.cp.length\/¬c.cp.Nodup\/c.cp.all eB=false):=by
              rintro(h|h|h|h)
              ·omega
              ·omega
              ·exact h (by assumption)
              ·rw[show c.cp.all eB=true by assumption]at h;cases h
           rw[ab8 e]
           first
             |rw[ab7 (.inl (by omega))]
             |rw[ab7 (.inr (.inl (by assumption)))]
             |rw[ab7 (.inr (.inr (by assumption)))]
             |(rw[ab8]
               rintro(h|h|h)
               ·omega
               ·exact h (by assumption)
               ·rw[show c.scopes.all isWord=true by assumption]at h;cases h)))
  refine .gT l<|.fa rfl<|.gT l<|.lo rfl<|.gT l ?_
  refine .aL (rC B c.scopes _ p.rx) (λv m=>?_)
  subst m
  refine .gT l<|.q .not<|.q (.aQ l) ?_
  refine .mo rfl ?_
  refine .split (t:=47) rfl (λk=>?_) (λk=>?_)
  refine .gF k<|.gF k<|.gF k<|.gF k<|.q (.aW k) ?_
  refine .az rfl<|.dn<|.sr<|.az rfl ?_
  refine .ret (bp (aI (aO rfl ?_)))
  ·refine⟨?_,rfl⟩
   congr 1
   unfold bx.check
   simp only[aci,acj,ace,ack]at *
   have d:dq c.id=true->¬dq c.id=false:=λh=>by rw[h];simp
   have f:et c.cy=true->¬et c.cy=false:=λh=>by rw[h];simp
   first
     |rw[ab7 (by assumption)]
     |rw[ab8 (d (by assumption)),ab7 (by assumption)]
     |(rw[ab8 (d (by assumption)),ab8 (f (by assumption))]
       have n:∀{a b:Prop},a->b->(a/\b):=λx y=>⟨x,y⟩
       first
         |rw[ab7 (.inl (by omega))]
         |rw[ab7 (.inr (.inl (by omega)))]
         |rw[ab7 (.inr (.inr (.inl (by assumption))))]
         |rw[ab7 (.inr (.inr (.inr (by assumption))))]
         |(have e:¬(c.cp.length<1\/8<c.cp.length\/¬c.cp.Nodup\/c.cp.all eB=false):=by
              rintro(h|h|h|h)
              ·omega
              ·omega
              ·exact h (by assumption)
              ·rw[show c.cp.all eB=true by assumption]at h;cases h
           rw[ab8 e]
           first
             |rw[ab7 (.inl (by omega))]
             |rw[ab7 (.inr (.inl (by assumption)))]
             |rw[ab7 (.inr (.inr (by assumption)))]
             |(rw[ab8]
               rintro(h|h|h)
               ·omega
               ·exact h (by assumption)
               ·rw[show c.scopes.all isWord=true by assumption]at h;cases h)))
  refine .gT k<|.fa rfl<|.gT k<|.lo rfl<|.gT k ?_
  refine .aL (tV 193 isWord B c.scopes _ p.rx λs w u=>OJ s (G s w) u) (λv m=>?_)
  subst m
  refine .gT k<|.q .not<|.q (.aQ k) ?_
  refine .az rfl ?_
  refine .cond rfl (λK=>?_) λK=>?_
  refine .sr<|.az rfl ?_
  refine .ret (bp (aI (aO rfl ?_)))
  ·refine⟨?_,rfl⟩
   congr 1
   unfold bx.check
   simp only[aci,acj,ace,ack]at *
   have d:dq c.id=true->¬dq c.id=false:=λh=>by rw[h];simp
   have f:et c.cy=true->¬et c.cy=false:=λh=>by rw[h];simp
   first
     |rw[ab7 (by assumption)]
     |rw[ab8 (d (by assumption)),ab7 (by assumption)]
     |(rw[ab8 (d (by assumption)),ab8 (f (by assumption))]
       have n:∀{a b:Prop},a->b->(a/\b):=λx y=>⟨x,y⟩
       first
         |rw[ab7 (.inl (by omega))]
         |rw[ab7 (.inr (.inl (by omega)))]
         |rw[ab7 (.inr (.inr (.inl (by assumption))))]
         |rw[ab7 (.inr (.inr (.inr (by assumption))))]
         |(have e:¬(c.cp.length<1\/8<c.cp.length\/¬c.cp.Nodup\/c.cp.all eB=false):=by
              rintro(h|h|h|h)
              ·omega
              ·omega
              ·exact h (by assumption)
              ·rw[show c.cp.all eB=true by assumption]at h;cases h
           rw[ab8 e]
           first
             |rw[ab7 (.inl (by omega))]
             |rw[ab7 (.inr (.inl (by assumption)))]
             |rw[ab7 (.inr (.inr (by assumption)))]
             |(rw[ab8]
               rintro(h|h|h)
               ·omega
               ·exact h (by assumption)
               ·rw[show c.scopes.all isWord=true by assumption]at h;cases h)))
  refine .skip<|bw<|aD<|.sr<|.az rfl ?_
  refine .ret (aO rfl ?_)
  ·refine⟨?_,rfl⟩
   congr 1
   unfold bx.check
   simp only[aci,acj,ace,ack]at *
   have d:dq c.id=true->¬dq c.id=false:=λh=>by rw[h];simp
   have f:et c.cy=true->¬et c.cy=false:=λh=>by rw[h];simp
   first
     |rw[ab7 (by assumption)]
     |rw[ab8 (d (by assumption)),ab7 (by assumption)]
     |(rw[ab8 (d (by assumption)),ab8 (f (by assumption))]
       have n:∀{a b:Prop},a->b->(a/\b):=λx y=>⟨x,y⟩
       first
         |rw[ab7 (.inl (by omega))]
         |rw[ab7 (.inr (.inl (by omega)))]
         |rw[ab7 (.inr (.inr (.inl (by assumption))))]
         |rw[ab7 (.inr (.inr (.inr (by assumption))))]
         |(have e:¬(c.cp.length<1\/8<c.cp.length\/¬c.cp.Nodup\/c.cp.all eB=false):=by
              rintro(h|h|h|h)
              ·omega
              ·omega
              ·exact h (by assumption)
              ·rw[show c.cp.all eB=true by assumption]at h;cases h
           rw[ab8 e]
           first
             |rw[ab7 (.inl (by omega))]
             |rw[ab7 (.inr (.inl (by assumption)))]
             |rw[ab7 (.inr (.inr (by assumption)))]
             |(rw[ab8]
               rintro(h|h|h)
               ·omega
               ·exact h (by assumption)
               ·rw[show c.scopes.all isWord=true by assumption]at h;cases h)))
theorem kG{c:bx}(h:dq c.id=false):c.check=9:=by unfold bx.check;rw[ab7 h]
theorem gg{c:bx}(a:dq c.id=true)(h:et c.cy=false):c.check=4:=by
 unfold bx.check;rw[ab8 (by rw[a];simp),ab7 h]
theorem dJ{c:bx}(a:dq c.id=true)(b:et c.cy=true)(h:c.cp.length<1\/8<c.cp.length\/¬c.cp.Nodup\/c.cp.all eB=false):c.check=4:=by
 unfold bx.check;rw[ab8 (by rw[a];simp),ab8 (by rw[b];simp),ab7 h]
theorem eI{c:bx}(a:dq c.id=true)(b:et c.cy=true)(h:16<c.scopes.length\/¬c.scopes.Nodup\/c.scopes.all isWord=false):c.check=4:=by
 unfold bx.check;rw[ab8 (by rw[a];simp),ab8 (by rw[b];simp)]
 split
 ·rfl
 ·simp only[h,if_true]
theorem kH{c:bx}(a:dq c.id=true)(b:et c.cy=true)(i:1<=c.cp.length)(j:c.cp.length<=8)(d:c.cp.Nodup)(e:c.cp.all eB=true)(k:c.scopes.length<=16)(f:c.scopes.Nodup)(g:c.scopes.all isWord=true):c.check=0:=by
 unfold bx.check
 rw[ab8 (by rw[a];simp),ab8 (by rw[b];simp),ab8,ab8]
 ·rintro(h|h|h)
  ·omega
  ·exact h f
  ·rw[g]at h;cases h
 ·rintro(h|h|h|h)
  ·omega
  ·omega
  ·exact h d
  ·rw[e]at h;cases h
theorem jP{s:ByteArray}:et s=false↔s≠⟨#[]⟩/\(s.size<8\/64<s.size\/eZ s fO=false):=by
 unfold et
 by_cases h:s=⟨#[]⟩
 ·simp[h]
 ·by_cases a:8<=s.size
  ·by_cases b:s.size<=64
   ·simp[h,a,b,show ¬s.size<8 by omega,show ¬64<s.size by omega]
   ·simp[h,b,show 64<s.size by omega]
  ·simp[h,a,show s.size<8 by omega]
theorem xP{s:ByteArray}(h:s=⟨#[]⟩):et s=true:=by unfold et;rw[ab9 h];rfl
theorem xQ{s:ByteArray}(a:8<=s.size)(b:s.size<=64)(c:eZ s fO=true):et s=true:=by
 unfold et;rw[ab9 a,ab9 b,c];simp
theorem tC{l:List ByteArray}{p:ByteArray->Bool}{i:Nat}{z:ByteArray}(b:l[i]? =some z)(h:(l.take i).all p=true)(a:p z=true):(l.take (i+1)).all p=true:=by
 rw[acz,b,List.all_append,h];simp[a]
theorem fZ{l:List ByteArray}{p:ByteArray->Bool}{i:Nat}{z:ByteArray}(b:l[i]? =some z)(a:p z=false):l.all p=false:=by
 rw[List.all_eq_false];exact⟨z,bU b,by rw[a];simp⟩
theorem Mo(r:CR)(c:bx)(R:au)(h:eR R r c)(Z:c.fits):Spec prog 93 [.agg r.cells.toArray] R [] λv H'=>v=.int .i64 c.check/\H'=[]:=by
 obtain⟨a0,a1,J,I⟩:=r
 obtain⟨S,T,F,G⟩:=h
 simp only at S T F G
 subst S;subst T
 obtain⟨U,V,W,Y⟩:=Z
 have i1:=F.av
 have i2:=G.av
 have ul:=F.le
 have sl:=G.le
 refine Spec.body func93 rfl results93 ntmps93 rfl ?_
 refine .sr ?_
 refine .dA rfl (λH=>?_)
 refine .ag rfl<|.zs<|.sr<|.fa rfl<|.lo rfl ?_
 refine .aL (sA c.id U _) (λv E=>?_)
 subst E
 refine .q .not<|.zn ?_
 refine .cond rfl (λu=>?_) λu=>?_
 refine .sr<|.az rfl ?_
 refine .ret (aI (aO rfl ?_))
 ·refine⟨?_,rfl⟩
  congr 1
  first
   |rw[kH a b d.1 d.2.1 d.2.2.2.1 C d.2.2.1 d.2.2.2.2 D]
   |rw[eI a b (.inr (.inr (fZ f (by simpa using A))))]
   |rw[dJ a b (.inr (.inr (.inr (fZ f (by simpa using x)))))]
   |rw[dJ a b (.inl (by have:=(by simpa using k:c.cp=[]);simp[this]))]
   |rw[dJ a b (.inr (.inl (by have:=bq g;omega)))]
   |rw[eI a b (.inl (by have:=bq l;omega))]
   |rw[dJ a b (.inr (.inr (.inl (by simpa using m))))]
   |rw[eI a b (.inr (.inl (by simpa using w)))]
   |rw[kG (by simpa using u)]
   |rw[gg a B]
   |rw[gg a (jP.2 ⟨by simpa using e,.inr (.inr (by simpa using o))⟩)]
 have a:dq c.id=true:=by simpa using u
 refine .kn<|.seq ?_
 refine bO.cut (X:=Unit) (λ_=>et c.cy=true) (λ_=>[(1,pT H)]) (λ_=>[bl H (CR.cells ⟨c.id,c.cy,J,I⟩) 25]) ?_ ?_
 refine .sr<|.fa rfl<|.lo rfl<|.q .eU<|.mo rfl ?_
 refine .split (t:=12) rfl (λe=>?_) (λe=>?_)
 refine .gT e<|.fa rfl<|.gT e<|.lo rfl<|.gT e<|.q .fF<|.gT e<|.q .lss<|.gT e<|.mo rfl ?_
 refine .split (t:=17) rfl (λs=>?_) (λs=>?_)
 have B:et c.cy=false:=jP.2 ⟨by simpa using e,.inl (by have:=(bq s:(c.cy.size:Int)<8);omega)⟩
 refine .gF s<|.gF s<|.gF s<|.gF s<|.gT e<|.q (.aW s) ?_
 refine .gT e<|.mo rfl<|.gX<|.gX<|.gX<|.gX<|.gT e<|.q .bY<|.q (.aW e) ?_
 refine .zn<|.dn<|.sr<|.az rfl ?_
 refine .ret (iT (aI (aO rfl ?_)))
 ·refine⟨?_,rfl⟩
  congr 1
  first
   |rw[kH a b d.1 d.2.1 d.2.2.2.1 C d.2.2.1 d.2.2.2.2 D]
   |rw[eI a b (.inr (.inr (fZ f (by simpa using A))))]
   |rw[dJ a b (.inr (.inr (.inr (fZ f (by simpa using x)))))]
   |rw[dJ a b (.inl (by have:=(by simpa using k:c.cp=[]);simp[this]))]
   |rw[dJ a b (.inr (.inl (by have:=bq g;omega)))]
   |rw[eI a b (.inl (by have:=bq l;omega))]
   |rw[dJ a b (.inr (.inr (.inl (by simpa using m))))]
   |rw[eI a b (.inr (.inl (by simpa using w)))]
   |rw[kG (by simpa using u)]
   |rw[gg a B]
   |rw[gg a (jP.2 ⟨by simpa using e,.inr (.inr (by simpa using o))⟩)]
 refine .gT s<|.fa rfl<|.gT s<|.lo rfl<|.gT s<|.q .fF<|.gT s<|.q .gtr<|.gT e<|.q (.aQ s) ?_
 refine .gT e<|.mo rfl ?_
 refine .split (t:=23) rfl (λp=>?_) (λp=>?_)
 have B:et c.cy=false:=jP.2 ⟨by simpa using e,.inr (.inl (by have:=(bq p:(64:Int)<c.cy.size);omega))⟩
 refine .gF p<|.gF p<|.gF p<|.gF p<|.gT e<|.q (.aW p) ?_
 refine .q (.aW e) ?_
 refine .zn<|.dn<|.sr<|.az rfl ?_
 refine .ret (iT (aI (aO rfl ?_)))
 ·refine⟨?_,rfl⟩
  congr 1
  first
   |rw[kH a b d.1 d.2.1 d.2.2.2.1 C d.2.2.1 d.2.2.2.2 D]
   |rw[eI a b (.inr (.inr (fZ f (by simpa using A))))]
   |rw[dJ a b (.inr (.inr (.inr (fZ f (by simpa using x)))))]
   |rw[dJ a b (.inl (by have:=(by simpa using k:c.cp=[]);simp[this]))]
   |rw[dJ a b (.inr (.inl (by have:=bq g;omega)))]
   |rw[eI a b (.inl (by have:=bq l;omega))]
   |rw[dJ a b (.inr (.inr (.inl (by simpa using m))))]
   |rw[eI a b (.inr (.inl (by simpa using w)))]
   |rw[kG (by simpa using u)]
   |rw[gg a B]
   |rw[gg a (jP.2 ⟨by simpa using e,.inr (.inr (by simpa using o))⟩)]
 refine .gT p<|.fa rfl<|.gT p<|.lo rfl<|.gT p ?_
 refine .aL (xf c.cy V _) (λv E=>?_)
 subst E
 refine .gT p<|.q .not<|.gT e<|.q (.aQ p) ?_
 refine .q (.aW e) ?_
 refine .zn ?_
 refine .cond rfl (λo=>?_) λo=>?_
 refine .sr<|.az rfl ?_
 refine .ret (iT (aI (aO rfl ?_)))
 ·refine⟨?_,rfl⟩
  congr 1
  first
   |rw[kH a b d.1 d.2.1 d.2.2.2.1 C d.2.2.1 d.2.2.2.2 D]
   |rw[eI a b (.inr (.inr (fZ f (by simpa using A))))]
   |rw[dJ a b (.inr (.inr (.inr (fZ f (by simpa using x)))))]
   |rw[dJ a b (.inl (by have:=(by simpa using k:c.cp=[]);simp[this]))]
   |rw[dJ a b (.inr (.inl (by have:=bq g;omega)))]
   |rw[eI a b (.inl (by have:=bq l;omega))]
   |rw[dJ a b (.inr (.inr (.inl (by simpa using m))))]
   |rw[eI a b (.inr (.inl (by simpa using w)))]
   |rw[kG (by simpa using u)]
   |rw[gg a B]
   |rw[gg a (jP.2 ⟨by simpa using e,.inr (.inr (by simpa using o))⟩)]
 refine .skip ?_
 ·refine aA () ?_ kE.c rH
  first
   |exact xP (by simpa using e)
   |exact xQ (by have:=(bi s:¬(c.cy.size:Int)<8);omega) (by have:=(bi p:¬(64:Int)<c.cy.size);omega) (by simpa using o)
 refine .gF e<|.gF e<|.gF e<|.gF e<|.gF e<|.cT rfl ?_
 refine .cT rfl ?_
 refine .cT rfl ?_
 refine .cT rfl ?_
 refine .gF e<|.gF e<|.cT rfl ?_
 refine .cT rfl ?_
 refine .cT rfl ?_
 refine .cT rfl ?_
 refine .gF e<|.q (.aQ e) ?_
 refine .zn<|.bX<|.skip ?_
 ·refine aA () ?_ kE.c rH
  first
   |exact xP (by simpa using e)
   |exact xQ (by have:=(bi s:¬(c.cy.size:Int)<8);omega) (by have:=(bi p:¬(64:Int)<c.cy.size);omega) (by simpa using o)
 intro y b
 refine aD<|.seq<|.sr<|.fa rfl<|.lo rfl<|.q (.di F) ?_
 refine .q .bR<|.mo rfl ?_
 refine .split (t:=34) rfl (λk=>?_) (λk=>?_)
 refine .gF k<|.gF k<|.gF k<|.gF k<|.q (.aW k) ?_
 refine .mo rfl<|.gX<|.gX<|.gX<|.gX<|.q .bY<|.mo rfl<|.gX<|.gX<|.gX<|.q .bY<|.mo rfl<|.gX<|.gX<|.gX<|.q .bY<|.zn<|.dn<|.sr<|.az rfl ?_
 refine .ret (aI (aO rfl ?_))
 ·refine⟨?_,rfl⟩
  congr 1
  first
   |rw[kH a b d.1 d.2.1 d.2.2.2.1 C d.2.2.1 d.2.2.2.2 D]
   |rw[eI a b (.inr (.inr (fZ f (by simpa using A))))]
   |rw[dJ a b (.inr (.inr (.inr (fZ f (by simpa using x)))))]
   |rw[dJ a b (.inl (by have:=(by simpa using k:c.cp=[]);simp[this]))]
   |rw[dJ a b (.inr (.inl (by have:=bq g;omega)))]
   |rw[eI a b (.inl (by have:=bq l;omega))]
   |rw[dJ a b (.inr (.inr (.inl (by simpa using m))))]
   |rw[eI a b (.inr (.inl (by simpa using w)))]
   |rw[kG (by simpa using u)]
   |rw[gg a B]
   |rw[gg a (jP.2 ⟨by simpa using e,.inr (.inr (by simpa using o))⟩)]
 refine .gT k<|.fa rfl<|.gT k<|.lo rfl<|.gT k<|.q (.di F) ?_
 refine .gT k<|.q .gtr<|.q (.aQ k) ?_
 refine .mo rfl ?_
 refine .split (t:=40) rfl (λg=>?_) (λg=>?_)
 refine .gF g<|.gF g<|.gF g<|.gF g<|.q (.aW g) ?_
 refine .mo rfl<|.gX<|.gX<|.gX<|.q .bY<|.mo rfl<|.gX<|.gX<|.gX<|.q .bY<|.zn<|.dn<|.sr<|.az rfl ?_
 refine .ret (aI (aO rfl ?_))
 ·refine⟨?_,rfl⟩
  congr 1
  first
   |rw[kH a b d.1 d.2.1 d.2.2.2.1 C d.2.2.1 d.2.2.2.2 D]
   |rw[eI a b (.inr (.inr (fZ f (by simpa using A))))]
   |rw[dJ a b (.inr (.inr (.inr (fZ f (by simpa using x)))))]
   |rw[dJ a b (.inl (by have:=(by simpa using k:c.cp=[]);simp[this]))]
   |rw[dJ a b (.inr (.inl (by have:=bq g;omega)))]
   |rw[eI a b (.inl (by have:=bq l;omega))]
   |rw[dJ a b (.inr (.inr (.inl (by simpa using m))))]
   |rw[eI a b (.inr (.inl (by simpa using w)))]
   |rw[kG (by simpa using u)]
   |rw[gg a B]
   |rw[gg a (jP.2 ⟨by simpa using e,.inr (.inr (by simpa using o))⟩)]
 refine .gT g<|.fa rfl<|.gT g<|.lo rfl<|.gT g<|.q (.di G) ?_
 refine .gT g<|.q .gtr<|.q (.aQ g) ?_
 refine .mo rfl ?_
 refine .split (t:=46) rfl (λl=>?_) (λl=>?_)
 refine .gF l<|.gF l<|.gF l<|.q (.aW l) ?_
 refine .mo rfl<|.gX<|.gX<|.gX<|.q .bY<|.zn<|.dn<|.sr<|.az rfl ?_
 refine .ret (aI (aO rfl ?_))
 ·refine⟨?_,rfl⟩
  congr 1
  first
   |rw[kH a b d.1 d.2.1 d.2.2.2.1 C d.2.2.1 d.2.2.2.2 D]
   |rw[eI a b (.inr (.inr (fZ f (by simpa using A))))]
   |rw[dJ a b (.inr (.inr (.inr (fZ f (by simpa using x)))))]
   |rw[dJ a b (.inl (by have:=(by simpa using k:c.cp=[]);simp[this]))]
   |rw[dJ a b (.inr (.inl (by have:=bq g;omega)))]
   |rw[eI a b (.inl (by have:=bq l;omega))]
   |rw[dJ a b (.inr (.inr (.inl (by simpa using m))))]
   |rw[eI a b (.inr (.inl (by simpa using w)))]
   |rw[kG (by simpa using u)]
   |rw[gg a B]
   |rw[gg a (jP.2 ⟨by simpa using e,.inr (.inr (by simpa using o))⟩)]
 refine .gT l<|.fa rfl<|.gT l<|.lo rfl<|.gT l ?_
 refine .aL (sV J c.cp _ F.rx) (λv E=>?_)
 subst E
 refine .q (.aQ l) ?_
 refine .mo rfl ?_
 refine .split (t:=51) rfl (λm=>?_) (λm=>?_)
 refine .gF m<|.gF m<|.gF m<|.q (.aW m) ?_
 refine .zn<|.dn<|.sr<|.az rfl ?_
 refine .ret (aI (aO rfl ?_))
 ·refine⟨?_,rfl⟩
  congr 1
  first
   |rw[kH a b d.1 d.2.1 d.2.2.2.1 C d.2.2.1 d.2.2.2.2 D]
   |rw[eI a b (.inr (.inr (fZ f (by simpa using A))))]
   |rw[dJ a b (.inr (.inr (.inr (fZ f (by simpa using x)))))]
   |rw[dJ a b (.inl (by have:=(by simpa using k:c.cp=[]);simp[this]))]
   |rw[dJ a b (.inr (.inl (by have:=bq g;omega)))]
   |rw[eI a b (.inl (by have:=bq l;omega))]
   |rw[dJ a b (.inr (.inr (.inl (by simpa using m))))]
   |rw[eI a b (.inr (.inl (by simpa using w)))]
   |rw[kG (by simpa using u)]
   |rw[gg a B]
   |rw[gg a (jP.2 ⟨by simpa using e,.inr (.inr (by simpa using o))⟩)]
 refine .gT m<|.fa rfl<|.gT m<|.lo rfl<|.gT m ?_
 refine .aL (sV I c.scopes _ G.rx) (λv E=>?_)
 subst E
 refine .q (.aQ m) ?_
 refine .zn ?_
 refine .cond rfl (λw=>?_) λw=>?_
 refine .sr<|.az rfl ?_
 refine .ret (aI (aO rfl ?_))
 ·refine⟨?_,rfl⟩
  congr 1
  first
   |rw[kH a b d.1 d.2.1 d.2.2.2.1 C d.2.2.1 d.2.2.2.2 D]
   |rw[eI a b (.inr (.inr (fZ f (by simpa using A))))]
   |rw[dJ a b (.inr (.inr (.inr (fZ f (by simpa using x)))))]
   |rw[dJ a b (.inl (by have:=(by simpa using k:c.cp=[]);simp[this]))]
   |rw[dJ a b (.inr (.inl (by have:=bq g;omega)))]
   |rw[eI a b (.inl (by have:=bq l;omega))]
   |rw[dJ a b (.inr (.inr (.inl (by simpa using m))))]
   |rw[eI a b (.inr (.inl (by simpa using w)))]
   |rw[kG (by simpa using u)]
   |rw[gg a B]
   |rw[gg a (jP.2 ⟨by simpa using e,.inr (.inr (by simpa using o))⟩)]
 have d:1<=c.cp.length/\c.cp.length<=8/\c.scopes.length<=16/\c.cp.Nodup/\c.scopes.Nodup:=by
  refine⟨?_,?_,?_,?_,?_⟩
  ·have:c.cp.length≠0:=by simpa using k
   omega
  ·have:=bi g;omega
  ·have:=bi l;omega
  ·simpa using m
  ·simpa using w
 refine .kn<|.seq<|.sr<|.az rfl<|.block ?_
 refine .loop (X:=Nat) (λi=>i<=c.cp.length/\(c.cp.take i).all eB=true) (λi=>[(1,pT H),(3,iN i)]) (λ_=>[bl H (CR.cells ⟨c.id,c.cy,J,I⟩) 25]) (λi=>c.cp.length-i) 0 ⟨by omega,by simp⟩ kE.c.c rH ?_
 rintro i ⟨hi,Q⟩
 refine .seq<|.sr<|.mo rfl<|.fa rfl<|.lo rfl<|.q (.di F) ?_
 refine .q .lss<|.zn ?_
 refine .cond rfl (λK=>?_) λK=>?_
 have N:i<c.cp.length:=by simp at K;omega
 obtain⟨z,f⟩:=dR N
 have pz:PC R (eK J (i*1)) (bz z):=F.pc f
 refine .kn<|.seq<|.block<|.sr<|.fa rfl<|.lo rfl<|.mo rfl<|.q (.ct i F f rfl rfl rfl) ?_
 refine .lo rfl ?_
 refine .aL (Mm z (W z (bU f)) _) (λv E=>?_)
 subst E
 refine .q .not<|.zn ?_
 refine .cond rfl (λx=>?_) λx=>?_
 refine .sr<|.az rfl ?_
 refine .ret (bp (aI (dj (bp (aI (aO rfl ?_))))))
 ·refine⟨?_,rfl⟩
  congr 1
  first
   |rw[kH a b d.1 d.2.1 d.2.2.2.1 C d.2.2.1 d.2.2.2.2 D]
   |rw[eI a b (.inr (.inr (fZ f (by simpa using A))))]
   |rw[dJ a b (.inr (.inr (.inr (fZ f (by simpa using x)))))]
   |rw[dJ a b (.inl (by have:=(by simpa using k:c.cp=[]);simp[this]))]
   |rw[dJ a b (.inr (.inl (by have:=bq g;omega)))]
   |rw[eI a b (.inl (by have:=bq l;omega))]
   |rw[dJ a b (.inr (.inr (.inl (by simpa using m))))]
   |rw[eI a b (.inr (.inl (by simpa using w)))]
   |rw[kG (by simpa using u)]
   |rw[gg a B]
   |rw[gg a (jP.2 ⟨by simpa using e,.inr (.inr (by simpa using o))⟩)]
 refine .skip<|bw<|aD<|.region<|.mo rfl ?_
 refine .q (.inc (n:=i) (by omega)) ?_
 refine .ag rfl<|.nil ?_
 ·exact bd (i+1) ⟨by omega,tC f Q (by simpa using x)⟩ (by omega) kE.c.c rH
 have C:c.cp.all eB=true:=by
  have M:i=c.cp.length:=by simp at K;omega
  rw[M,ach]at Q
  exact Q
 refine .exit<|bE<|bH<|bF<|aD<|.seq<|.sr<|.az rfl<|.block ?_
 refine .loop (X:=Nat) (λi=>i<=c.scopes.length/\(c.scopes.take i).all isWord=true) (λi=>[(1,pT H),(4,iN i)]) (λ_=>[bl H (CR.cells ⟨c.id,c.cy,J,I⟩) 25]) (λi=>c.scopes.length-i) 0 ⟨by omega,by simp⟩ kE.c.c rH ?_
 rintro j ⟨hj,O⟩
 refine .seq<|.sr<|.mo rfl<|.fa rfl<|.lo rfl<|.q (.di G) ?_
 refine .q .lss<|.zn ?_
 refine .cond rfl (λL=>?_) λL=>?_
 have N:j<c.scopes.length:=by simp at L;omega
 obtain⟨z,f⟩:=dR N
 have pz:PC R (eK I (j*1)) (bz z):=G.pc f
 refine .kn<|.seq<|.block<|.sr<|.fa rfl<|.lo rfl<|.mo rfl<|.q (.ct j G f rfl rfl rfl) ?_
 refine .lo rfl ?_
 refine .aL (MO z (Y z (bU f)) _) (λv E=>?_)
 subst E
 refine .q .not<|.zn ?_
 refine .cond rfl (λA=>?_) λA=>?_
 refine .sr<|.az rfl ?_
 refine .ret (bp (aI (dj (bp (aI (aO rfl ?_))))))
 ·refine⟨?_,rfl⟩
  congr 1
  first
   |rw[kH a b d.1 d.2.1 d.2.2.2.1 C d.2.2.1 d.2.2.2.2 D]
   |rw[eI a b (.inr (.inr (fZ f (by simpa using A))))]
   |rw[dJ a b (.inr (.inr (.inr (fZ f (by simpa using x)))))]
   |rw[dJ a b (.inl (by have:=(by simpa using k:c.cp=[]);simp[this]))]
   |rw[dJ a b (.inr (.inl (by have:=bq g;omega)))]
   |rw[eI a b (.inl (by have:=bq l;omega))]
   |rw[dJ a b (.inr (.inr (.inl (by simpa using m))))]
   |rw[eI a b (.inr (.inl (by simpa using w)))]
   |rw[kG (by simpa using u)]
   |rw[gg a B]
   |rw[gg a (jP.2 ⟨by simpa using e,.inr (.inr (by simpa using o))⟩)]
 refine .skip<|bw<|aD<|.region<|.mo rfl ?_
 refine .q (.inc (n:=j) (by omega)) ?_
 refine .ag rfl<|.nil ?_
 ·exact bd (j+1) ⟨by omega,tC f O (by simpa using A)⟩ (by omega) kE.c.c rH
 have D:c.scopes.all isWord=true:=by
  have M:j=c.scopes.length:=by simp at L;omega
  rw[M,ach]at O
  exact O
 refine .exit<|bE<|bH<|bF<|aD<|.sr<|.az rfl ?_
 refine .ret (aO rfl ?_)
 ·refine⟨?_,rfl⟩
  congr 1
  first
   |rw[kH a b d.1 d.2.1 d.2.2.2.1 C d.2.2.1 d.2.2.2.2 D]
   |rw[eI a b (.inr (.inr (fZ f (by simpa using A))))]
   |rw[dJ a b (.inr (.inr (.inr (fZ f (by simpa using x)))))]
   |rw[dJ a b (.inl (by have:=(by simpa using k:c.cp=[]);simp[this]))]
   |rw[dJ a b (.inr (.inl (by have:=bq g;omega)))]
   |rw[eI a b (.inl (by have:=bq l;omega))]
   |rw[dJ a b (.inr (.inr (.inl (by simpa using m))))]
   |rw[eI a b (.inr (.inl (by simpa using w)))]
   |rw[kG (by simpa using u)]
   |rw[gg a B]
   |rw[gg a (jP.2 ⟨by simpa using e,.inr (.inr (by simpa using o))⟩)]
def bx.eh(c:bx):Prop:=c.cp.length<=1000000/\c.scopes.length<=1000000
def bx.zero:bx:=⟨⟨#[]⟩,⟨#[]⟩,[],[]⟩
def CR.zero:CR:=⟨⟨#[]⟩,⟨#[]⟩,sZ,sZ⟩
theorem eR.zero(R:au):eR R CR.zero bx.zero:=⟨rfl,rfl,RS.nK,RS.nK⟩
theorem rn(r:CR)(c:bx)(R:au)(h:eR R r c)(i:c.eh):Spec prog 129 [.agg r.cells.toArray] R [] λv H'=>∃T,H'=[T]/\∃r',v=.agg r'.cells.toArray/\eR (sg T) r' c:=by
 have y:bG r.cells:=⟨h.bD⟩
 obtain⟨z,A,o,n⟩:=r
 obtain⟨d,e,b,a⟩:=h
 simp only at d e b a
 subst d;subst e
 have t:=b.av
 have u:=a.av
 refine Spec.body func129 rfl results129 ntmps129 rfl ?_
 refine .sr ?_
 refine .dA rfl (λp=>?_)
 refine .cG (λs=>?_)
 refine .zs<|.cP [7,9] mixed ?_
 refine .tO 0 rfl (.fieldAddr rfl)<|.tO 1 rfl (.bK rfl)<|.tO 3 rfl (.fieldAddr rfl)<|.tO 4 rfl (.bK rfl) ?_
 refine .sT 2 rfl ?_
 refine .cW (nf o c.cp _ b.rx i.1) (λl j f=>?_)
 have w:=f.av
 refine .nil (Next.sub ?_)
 refine .tO 6 rfl (.fieldAddr rfl) ?_
 refine .sT 5 rfl ?_
 refine .cW (nf n c.scopes _ a.rx i.2) (λm k g=>?_)
 have x:=g.av
 refine .nil (Next.sub ?_)
 refine .sT 7 rfl ?_
 refine .cH rfl rfl ?_
 refine .nil (Next.mod rfl ?_)
 refine .tK 8 rfl (.gm rfl) ?_
 refine .sT 9 rfl ?_
 refine .cH rfl rfl ?_
 refine .nil (Next.mod rfl ?_)
 refine RA.nil (by kernel_rfl) ?_
 refine aD<|.sr<|.q (.bI rfl)<|.cc rfl rfl<|.zn ?_
 refine .ret (aN _ (.one (.dO rfl rfl)) (.one [0,0] _) ?_)
 ·exact⟨k++j,by simp[take,aY],⟨c.id,c.cy,l,m⟩,rfl,rfl,rfl,f.sg.right,g.sg.left⟩
def RI(g:Nat)(A:List bx)(T:ax):Prop:=∃vm M Tm Ti,T=(g,.cells [vm].toArray 127 (0,0))::(Tm++Ti)/\MS (λs:ByteArray=>.string s) (λp:CR×bx=>.agg p.1.cells.toArray) vm M Tm/\
 (∀p∈M,p.1=p.2.2.id/\eR (sg Ti) p.2.1 p.2.2/\p.2.2.eh)/\(M.map (·.2.2)).Perm A
def cu(id:ByteArray)(A:List bx):Option bx:=A.find? λc=>decide (c.id=id)
theorem sy{M:List (ByteArray×(CR×bx))}{h:ax}{A:List bx}(v:(M.map (·.1)).Nodup)(g:∀p∈M,p.1=p.2.2.id/\eR (sg h) p.2.1 p.2.2/\p.2.2.eh)(f:(M.map (·.2.2)).Perm A)(id:ByteArray):
  (aS id M=none/\cu id A=none/\∀c∈A,c.id≠id)\/∃r c,aS id M=some (r,c)/\cu id A=some c/\c.id=id/\eR (sg h) r c/\c.eh/\c∈A:=by
 have w:(A.map (·.id)).Nodup:=by
  refine((f.map (·.id)).nodup_iff).1 ?_
  rw[acx]
  have:M.map ((λc:bx=>c.id)∘λp:ByteArray×(CR×bx)=>p.2.2)=M.map (·.1):=List.map_congr_left λp e=>(g p e).1.symm
  rw[this];exact v
 cases hm:aS id M with
 |none=>
  have d:=ig.1 hm
  have b:∀c∈A,c.id≠id:=λc a s=>by
   obtain⟨p,e,rfl⟩:=acf.1 (f.mem_iff.2 a)
   exact d (acf.2 ⟨p,e,(g p e).1.trans s⟩)
  exact .inl ⟨rfl,List.find?_eq_none.2 λc a=>by simpa using b c a,b⟩
 |some q=>
  obtain⟨r,c⟩:=q
  have d:=fG hm
  obtain⟨b,l,m⟩:=g _ d
  have a:c∈A:=f.mem_iff.1 (acf.2 ⟨_,d,rfl⟩)
  refine .inr ⟨r,c,rfl,?_,b.symm,l,m,a⟩
  cases hf:cu id A with
  |none=>exact absurd b.symm (by have:=List.find?_eq_none.1 hf c a;simpa using this)
  |some c'=>
   have n:=List.mem_of_find?_eq_some hf
   have o:c'.id=id:=by simpa using List.find?_some hf
   obtain⟨i,t,rfl⟩:=acE.1 n
   obtain⟨j,u,k⟩:=acE.1 a
   have:i=j:=(List.getElem_inj (xs:=A.map λc:bx=>c.id) (i:=i) (j:=j) (h₀:=by simpa using t) (h₁:=by simpa using u) w).1 (by simp[o,k];exact b)
   subst this
   rw[k]
theorem zU(R:au):Spec prog 18 [] R [] λv H'=>∃T,H'=[T]/\∃g,v=pT g/\RI g [] T:=by
 refine Spec.body func18 rfl results18 ntmps18 rfl ?_
 refine .sr<|.ag rfl<|.z ?_
 refine .makeMap (λa=>?_)
 refine .q .du ?_
 refine .dA rfl (λb=>?_)
 refine .az rfl ?_
 refine .ret (aN _ (.one (.tmp rfl)) (.one [0,0] _) ?_)
 ·exact⟨_,rfl,_,rfl,.map (some a),[],_,[],by simp[take,aY];rfl,MS.nil,by simp,.refl _⟩
theorem qd(g b:Nat)(R:au) [pc:PC R (pT g) [.map (some b)]]:Spec prog 128 [pT g] R [] λv H'=>v=.bool true/\H'=[]:=by
 refine Spec.body func128 rfl results128 ntmps128 rfl ?_
 refine .sr<|.ag rfl<|.z<|.mo rfl<|.q (.qu rfl rfl) ?_
 refine .mo rfl<|.gt rfl ?_
 refine .mo rfl<|.gt rfl ?_
 refine .nc rfl<|.gt rfl ?_
 refine .fa rfl<|.gt rfl ?_
 refine .lo rfl<|.gt rfl ?_
 refine .q (.qt rfl rfl) ?_
 refine .q .bY<|.az rfl ?_
 refine .ret (aO rfl ?_)
 ·exact⟨rfl,rfl⟩
theorem qb(g:Nat)(A:List bx)(T:ax)(h:RI g A T)(id:ByteArray)(R:au)(k:∀p∈T,R p.1 p.2):
  Spec prog 140 [pT g,.string id] R [] λv H'=>∃T',H'=[T']/\∃r',v=.tuple [.agg r'.cells.toArray,.bool (cu id A).isSome].toArray/\eR (sg T') r' ((cu id A).getD bx.zero):=by
 obtain⟨K,M,L,m,rfl,i,C,B⟩:=h
 obtain⟨e,rfl⟩:∃b,K=.map (some b):=by obtain⟨b,es,clock,d,_⟩:=i;exact⟨b,d⟩
 have U:PC R (pT g) [.map (some e)]:=PC.of (E:=127) (fr:=(0,0)) (k (g,.cells [.map (some e)].toArray 127 (0,0)) (by simp))
 have J:∀H',RM (Rx R H') (λs:ByteArray=>.string s) (λp:CR×bx=>.agg p.1.cells.toArray) (.map (some e)) M:=λH'=>i.rm λp G=>.inl (k p (by simp[G]))
 have D:∀b o,sg m b o->R b o:=λb o j=>k (b,o) (by have:(b,o)∈m:=j;simp[this])
 obtain⟨a,H,n,I,F⟩:∃a:CR,((aS id M).map λp:CR×bx=>Value.agg p.1.cells.toArray).getD (.agg CR.zero.cells.toArray)=.agg a.cells.toArray/\eR R a ((cu id A).getD bx.zero)/\(aS id M).isSome=(cu id A).isSome/\((cu id A).getD bx.zero).eh:=by
  rcases sy i.nd C B id with⟨d,f,_⟩|⟨r,c,d,f,_,x,y,_⟩
  ·rw[d,f];exact⟨CR.zero,rfl,eR.zero R,rfl,by simp[bx.eh,bx.zero]⟩
  ·rw[d,f];exact⟨r,rfl,x.mono D,rfl,y⟩
 have Q:bG a.cells:=⟨n.bD⟩
 refine Spec.body func140 rfl results140 ntmps140 rfl ?_
 refine .sr ?_
 refine .cG (λN=>?_)
 refine .ag rfl<|.zs<|.sr<|.mo rfl ?_
 refine .aL (qd g e _) (λv l=>?_)
 subst l
 refine .q .not<|.zn<|.bX<|.kn<|.sr<|.mo rfl<|.nc rfl<|.fa rfl<|.lo rfl<|.mo rfl ?_
 refine .q (aP.cast (v':=.tuple [.agg a.cells.toArray,.bool (cu id A).isSome].toArray) (.kN (J _) rfl (show _=some (Value.string id)from rfl)) (by rw[<-I, <-H];rfl)) ?_
 refine .mo rfl<|.q .extract<|.q .extract ?_
 refine .cG (λO=>?_)
 refine .cc rfl rfl<|.ag rfl<|.z<|.q (.bI rfl) ?_
 refine .cW (rn a _ _ (n.mono λb o j=>.inl j) F) (λv w l=>?_)
 obtain⟨u,rfl,t⟩:=l
 have S:bG u.cells:=⟨t.bD⟩
 refine .mo rfl<|.cc rfl rfl<|.az rfl ?_
 refine .ret (aN _ (.two (.dO rfl rfl) (.tmp rfl)) (.one [0] _) ?_)
 ·exact⟨w,by simp[take,aY],u,rfl,t⟩
theorem tZ(g:Nat)(A:List bx)(T:ax)(h:RI g A T)(id e:ByteArray)(R:au)(j:∀p∈T,R p.1 p.2):
  Spec prog 89 [pT g,.string id,.string e] R [] λv H'=>v=.int .i64 (if(cu id A).map (·.cy)=some e then 0 else 17)/\H'=[]:=by
 refine Spec.body func89 rfl results89 ntmps89 rfl ?_
 refine .sr<|.ag rfl<|.z<|.mo rfl<|.mo rfl ?_
 refine .cW (qb g A T h id _ λp i=>.inl (j p i)) (λv m k=>?_)
 obtain⟨l,rfl,d⟩:=k
 have o:bG l.cells:=⟨d.bD⟩
 refine .mo rfl<|.q .extract<|.q .extract ?_
 refine .cG (λn=>?_)
 refine .cc rfl rfl<|.ag rfl<|.zs<|.sr<|.mo rfl<|.q .not<|.mo rfl ?_
 refine .split (t:=17) rfl (λa=>?_) (λa=>?_)
 refine .gF a<|.gF a<|.gF a<|.gF a<|.q (.aW a) ?_
 refine .zn<|.dn<|.sr<|.az rfl ?_
 refine .ret (aI (aO rfl ?_))
 ·refine⟨?_,rfl⟩
  congr 1
  have b:=d.cy
  cases hg:cu id A with
  |none=>simp_all
  |some c=>rw[hg]at b;simp at b;simp_all
 refine .gT a<|.fa rfl<|.gT a<|.lo rfl<|.gT a<|.mo rfl<|.gT a<|.q .eU<|.q (.aQ a) ?_
 refine .zn ?_
 refine .cond rfl (λf=>?_) λf=>?_
 refine .sr<|.az rfl ?_
 refine .ret (aI (aO rfl ?_))
 ·refine⟨?_,rfl⟩
  congr 1
  have b:=d.cy
  cases hg:cu id A with
  |none=>simp_all
  |some c=>rw[hg]at b;simp at b;simp_all
 refine .kn<|.sr<|.az rfl ?_
 refine .ret (aO rfl ?_)
 ·refine⟨?_,rfl⟩
  congr 1
  have b:=d.cy
  cases hg:cu id A with
  |none=>simp_all
  |some c=>rw[hg]at b;simp at b;simp_all
def dZ(A:List bx)(c:bx):Int×List bx:=if c.check≠0 then(c.check,A)else if(cu c.id A).isSome then(10,A)else if 64<=A.length then(8,A)else(0,A++[c])
def iR(id:ByteArray)(A:List bx):List bx:=A.filter λc=>decide (c.id≠id)
theorem zm(g:Nat)(A:List bx)(T:ax)(h:RI g A T)(r:CR)(c:bx)(R:au)(t:eR R r c)(K:c.fits)(H:c.eh):
  Spec prog 66 [pT g,.agg r.cells.toArray] R [T] λv H'=>∃T',H'=[T']/\v=.int .i64 (dZ A c).1/\RI g (dZ A c).2 T':=by
 have y:=h
 obtain⟨V,M,n,i,rfl,l,E,x⟩:=h
 obtain⟨j,rfl⟩:∃b,V=.map (some b):=by obtain⟨b,es,clock,k,_⟩:=l;exact⟨b,k⟩
 have L:=sy l.nd E x c.id
 have Y:M.length=A.length:=by simpa using x.length_eq
 obtain⟨w,N,Z,G⟩:∃w:CR,((aS c.id M).map λp:CR×bx=>Value.agg p.1.cells.toArray).getD (.agg CR.zero.cells.toArray)=.agg w.cells.toArray/\bG w.cells/\(aS c.id M).isSome=(cu c.id A).isSome:=by
  rcases L with⟨k,a,_⟩|⟨r,c,k,a,_,d,s,_⟩
  ·rw[k,a];exact⟨CR.zero,rfl,⟨(eR.zero (λ_ _=>False)).bD⟩,rfl⟩
  ·rw[k,a];exact⟨r,rfl,⟨d.bD⟩,rfl⟩
 have io:bG r.cells:=⟨t.bD⟩
 have B:=t.id
 refine Spec.cX (H':=[bl g [.map (some j)] 127,n,i]) (by simp) ?_
 refine Spec.body func66 rfl results66 ntmps66 rfl ?_
 refine .sr ?_
 refine .dA rfl (λW=>?_)
 refine .ag rfl<|.zs<|.sr<|.mo rfl ?_
 refine .aL (qd g j _) (λv m=>?_)
 subst m
 refine .q .not<|.zn<|.bX<|.kn<|.seq<|.sr<|.q (.bI rfl) ?_
 refine .aL (zP r c _ (t.mono λb o f=>.inl f) K) (λv m=>?_)
 subst m
 refine .ag rfl<|.z<|.mo rfl<|.q .dF<|.zn ?_
 refine .cond rfl (λa=>?_) λa=>?_
 refine .sr<|.mo rfl<|.az rfl ?_
 refine .ret (aI (aN _ (.one (.tmp rfl)) (.one [1,1,1] _) ?_))
 ·refine⟨(g,.cells [.map (some j)].toArray 127 (0,0))::(n++i),by simp[take,aY],?_⟩
  have e:dZ A c=(c.check,A):=by unfold dZ;rw[ab7 (by simpa using a)]
  rw[e];exact⟨rfl,y⟩
 refine .kn<|.seq<|.seq<|.cP [11] mixed ?_
 refine .tO 0 rfl .move<|.tO 1 rfl (.nilCheck rfl)<|.tO 2 rfl (.fieldAddr rfl)<|.tO 3 rfl (.bK rfl)<|.tO 4 rfl (.fieldAddr rfl)<|.tO 5 rfl (.bK rfl) ?_
 refine .eA 6 rfl (aP.cast (v':=.tuple [.agg w.cells.toArray,.bool (cu c.id A).isSome].toArray) (.kN l.rx rfl (show _=some (Value.string r.id)from rfl)) (by rw[B, <-G, <-N];rfl)) (by kernel_rfl) ?_
 refine .tO 7 rfl .move<|.tO 8 rfl .extract<|.tK 9 rfl .extract ?_
 refine .sT 10 rfl ?_
 refine .cG (λX=>?_)
 refine .nil (Next.sub ?_)
 refine .sT 11 rfl ?_
 refine .cc rfl rfl ?_
 refine .nil (Next.mod rfl ?_)
 refine .tK 12 rfl .assign ?_
 refine RA.nil (by kernel_rfl) ?_
 refine aD<|.sr<|.mo rfl<|.zn ?_
 refine .cond rfl (λd=>?_) λd=>?_
 refine .sr<|.az rfl ?_
 refine .ret (aI (aN _ (.one (.tmp rfl)) (.one [2,2,2] _) ?_))
 ·refine⟨(g,.cells [.map (some j)].toArray 127 (0,0))::(n++i),by simp[take,aY],?_⟩
  have e:dZ A c=(10,A):=by unfold dZ;rw[ab8 (by simpa using a),ab7 d]
  rw[e];exact⟨rfl,y⟩
 refine .kn<|.seq<|.sr<|.mo rfl<|.nc rfl<|.fa rfl<|.lo rfl<|.q (.r0 l.rx rfl) ?_
 refine .q .geq<|.zn ?_
 refine .cond rfl (λs=>?_) λs=>?_
 refine .sr<|.az rfl ?_
 refine .ret (aI (aN _ (.one (.tmp rfl)) (.one [2,2,2] _) ?_))
 ·refine⟨(g,.cells [.map (some j)].toArray 127 (0,0))::(n++i),by simp[take,aY],?_⟩
  have e:dZ A c=(8,A):=by unfold dZ;rw[ab8 (by simpa using a),ab8 (by rw[d];simp),ab7 (by have:=bq s;omega)]
  rw[e];exact⟨rfl,y⟩
 refine .kn<|.seq<|.cP [8] mixed ?_
 refine .tO 0 rfl .move<|.tO 1 rfl (.nilCheck rfl)<|.tO 2 rfl (.fieldAddr rfl)<|.tO 3 rfl (.bK rfl)<|.tO 4 rfl (.fieldAddr rfl)<|.tO 5 rfl (.bK rfl)<|.tO 6 rfl (.bI rfl) ?_
 refine .sT 7 rfl ?_
 refine .cW (rn r c _ (t.mono λb o f=>.inl f) H) (λv C m=>?_)
 obtain⟨U,rfl,J⟩:=m
 refine .nil (Next.sub ?_)
 refine .sT 8 rfl ?_
 refine .update (u:=(U,c)) l rfl (show _=some (Value.string r.id)from rfl) rfl (λD I _=>?_)
 refine .nil (Next.mod rfl ?_)
 refine RA.nil (by kernel_rfl) ?_
 refine aD<|.sr<|.az rfl ?_
 refine .ret (aN _ (.one (.tmp rfl)) (.one [3,3,3,0] _) ?_)
 ·refine⟨(g,.cells [.map (some j)].toArray 127 (0,0))::(D++(i++C)),by simp[take,aY],?_⟩
  have e:dZ A c=(0,A++[c]):=by unfold dZ;rw[ab8 (by simpa using a),ab8 (by rw[d];simp),ab8 (by have:=bi s;omega)]
  rw[e]
  have F:aS c.id M=none:=by
   rw[<-Option.not_isSome_iff_eq_none,G,d];simp
  refine⟨rfl,_,_,D,i++C,rfl,I,?_,?_⟩
  ·rw[B,oY (ig.1 F)]
   intro p hp
   rcases acF.1 hp with hp|hp
   ·obtain⟨O,Q,S⟩:=E p hp
    exact⟨O,Q.mono λb o f=>List.mem_append_left _ f,S⟩
   ·simp only[List.mem_singleton]at hp
    subst hp
    exact⟨rfl,J.mono λb o f=>List.mem_append_right _ f,H⟩
  ·rw[B,oY (ig.1 F),acm]
   exact x.append_right _
theorem zK{M:List (ByteArray×(CR×bx))}{A:List bx}{id:ByteArray}(c:(M.map (·.1)).Nodup)(b:∀p∈M,p.1=p.2.2.id)(a:(M.map (·.2.2)).Perm A):((eC id M).map (·.2.2)).Perm (iR id A):=by
 rw[mj c]
 refine List.Perm.trans ?_ (a.filter _)
 unfold dK
 rw[List.filter_map]
 refine List.Perm.of_eq (acH _ (acM λp d=>?_))
 simp[b p d]
theorem z8(g:Nat)(A:List bx)(T:ax)(h:RI g A T)(id:ByteArray)(R:au):
  Spec prog 67 [pT g,.string id] R [T] λv H'=>∃T',H'=[T']/\v=.int .i64 (if(cu id A).isSome then 0 else 11)/\RI g (iR id A) T':=by
 have y:=h
 obtain⟨G,M,s,j,rfl,i,m,u⟩:=h
 obtain⟨k,rfl⟩:∃b,G=.map (some b):=by obtain⟨b,es,clock,d,_⟩:=i;exact⟨b,d⟩
 have w:=sy i.nd m u id
 obtain⟨l,C,J,D⟩:∃l:CR,((aS id M).map λp:CR×bx=>Value.agg p.1.cells.toArray).getD (.agg CR.zero.cells.toArray)=.agg l.cells.toArray/\bG l.cells/\(aS id M).isSome=(cu id A).isSome:=by
  rcases w with⟨d,a,_⟩|⟨r,c,d,a,_,f,I,_⟩
  ·rw[d,a];exact⟨CR.zero,rfl,⟨(eR.zero (λ_ _=>False)).bD⟩,rfl⟩
  ·rw[d,a];exact⟨r,rfl,⟨f.bD⟩,rfl⟩
 refine Spec.cX (H':=[bl g [.map (some k)] 127,s,j]) (by simp) ?_
 refine Spec.body func67 rfl results67 ntmps67 rfl ?_
 refine .sr<|.ag rfl<|.zs<|.sr<|.mo rfl ?_
 refine .aL (qd g k _) (λv E=>?_)
 subst E
 refine .q .not<|.zn<|.bX<|.kn<|.seq<|.sr<|.mo rfl<|.nc rfl<|.fa rfl<|.lo rfl<|.mo rfl ?_
 refine .q (aP.cast (v':=.tuple [.agg l.cells.toArray,.bool (cu id A).isSome].toArray) (.kN i.rx rfl (show _=some (Value.string id)from rfl)) (by rw[<-D, <-C];rfl)) ?_
 refine .mo rfl<|.q .extract<|.q .extract ?_
 refine .cG (λH=>?_)
 refine .cc rfl rfl<|.ag rfl<|.z<|.mo rfl<|.q .not<|.zn ?_
 refine .cond rfl (λa=>?_) λa=>?_
 refine .sr<|.az rfl ?_
 refine .ret (aI (aN _ (.one (.tmp rfl)) (.one [1,1,1] _) ?_))
 ·have n:(cu id A).isSome=false:=by simpa using a
  refine⟨(g,.cells [.map (some k)].toArray 127 (0,0))::(s++j),by simp[take,aY],by rw[n];rfl,?_⟩
  have e:iR id A=A:=by
   unfold iR
   rw[acJ]
   intro c B
   rcases w with⟨_,_,f⟩|⟨r,c,_,f,_⟩
   ·simpa using f c B
   ·rw[f]at n;simp at n
  rw[e];exact y
 refine .kn<|.sr<|.mo rfl<|.nc rfl<|.fa rfl<|.lo rfl<|.mo rfl ?_
 refine .delete i rfl (show _=some (Value.string id)from rfl) (λt x _=>?_)
 refine .z<|.az rfl ?_
 refine .ret (aN _ (.one (.tmp rfl)) (.one [1,1,1] _) ?_)
 ·have F:(cu id A).isSome=true:=by simpa using a
  refine⟨(g,.cells [.map (some k)].toArray 127 (0,0))::(t++j),by simp[take,aY],by rw[F];rfl,_,_,t,j,rfl,x,λp o=>m p (r8 p o),zK i.nd (λp o=>(m p o).1) u⟩
def bx.short(c:bx):bx:=⟨Go.Proofs.YtkkmbiojicgobaaGreatDoor.short c.id 40,Go.Proofs.YtkkmbiojicgobaaGreatDoor.short c.cy 70,texts c.cp 10 210,texts c.scopes 18 40⟩
theorem bx.xW(c:bx):c.short.fits:=by
 have b:=sI (s:=c.id) (n:=40)
 have d:=sI (s:=c.cy) (n:=70)
 refine⟨by unfold bx.short;simp only;omega,by unfold bx.short;simp only;omega,λs a=>?_,λs a=>?_⟩
 ·have:=yh s a;omega
 ·have:=yh s a;omega
theorem bx.sH(c:bx):c.short.eh:=by
 unfold bx.eh bx.short texts
 simp;omega
theorem z9(r:CR)(c:bx)(R:au)(h:eR R r c):Spec prog 39 [.agg r.cells.toArray] R [] λv H'=>∃T,H'=[T]/\∃r',v=.agg r'.cells.toArray/\eR (sg T) r' c.short:=by
 have q:bG r.cells:=⟨h.bD⟩
 obtain⟨y,z,l,k⟩:=r
 obtain⟨d,e,a,b⟩:=h
 simp only at d e a b
 subst d;subst e
 have o:=a.av
 have p:=b.av
 refine Spec.body func39 rfl results39 ntmps39 rfl ?_
 refine .sr ?_
 refine .dA rfl (λm=>?_)
 refine .cG (λn=>?_)
 refine .zs<|.cP [13] mixed ?_
 refine .tO 0 rfl (.fieldAddr rfl)<|.tO 1 rfl (.bK rfl)<|.tO 3 rfl (.fieldAddr rfl)<|.tO 4 rfl (.bK rfl)<|.tO 6 rfl (.fieldAddr rfl)<|.tO 7 rfl (.bK rfl)<|.tO 9 rfl (.fieldAddr rfl)<|.tO 10 rfl (.bK rfl) ?_
 refine .sT 2 rfl ?_
 refine .aL (lO c.id 40 _) (λu a=>?_)
 subst a
 refine .nil (Next.sub ?_)
 refine .sT 5 rfl ?_
 refine .aL (lO c.cy 70 _) (λu a=>?_)
 subst a
 refine .nil (Next.sub ?_)
 refine .sT 8 rfl ?_
 refine .cW (pt l c.cp 10 210 (by omega) _ a.rx) (λA i f=>?_)
 obtain⟨w,s,rfl,_⟩:=f.shape
 refine .nil (Next.sub ?_)
 refine .sT 11 rfl ?_
 refine .cW (pt k c.scopes 18 40 (by omega) _ b.rx) (λB j g=>?_)
 obtain⟨x,t,rfl,_⟩:=g.shape
 refine .nil (Next.sub ?_)
 refine .tO 12 rfl .du ?_
 refine .sT 13 rfl ?_
 refine .cc rfl rfl ?_
 refine .nil (Next.mod rfl ?_)
 refine RA.nil (by kernel_rfl) ?_
 refine aD ?_
 refine .ret (aN _ (.one (.dO rfl rfl)) (.one [0,0] _) ?_)
 ·exact⟨j++i,by simp[take,aY],⟨short c.id 40,short c.cy 70,_,_⟩,rfl,rfl,rfl,f.sg.right,g.sg.left⟩
def Tok.fresh(t:Tok):Tok:=⟨t.text,t.kind,t.aC,t.user,t.scopes,t.family,t.cb,t.rev,false⟩
def ft(A:List (ByteArray×Tok))(last:Int)(t:Tok):Int×List (ByteArray×Tok):=
 if hK t last=false then(2,A)else if(aS t.text A).isSome then(22,A)else if 4096<=A.length then(8,A)else(0,cO t.text t.fresh A)
theorem yt(g:Nat)(A:List (ByteArray×Tok))(last:Int)(T:ax)(h:VI g A last T)(w:Value)(t:Tok)(R:au)(m:dh R (w,t))(D:t.eh):
  Spec prog 155 [pT g,.agg (bA (w,t)).toArray] R [T] λv H'=>∃T',H'=[T']/\v=.int .i64 (ft A last t).1/\VI g (ft A last t).2 last T':=by
 have c:=h
 obtain⟨n,_,rfl,I,M,q,o,p,rfl,f,y,r,L⟩:=h
 obtain⟨i,rfl⟩:∃b,I=.map (some b):=by obtain⟨b,es,clock,h1,_⟩:=f;exact⟨b,h1⟩
 have S:bG (bA (w,t)):=⟨m.bD⟩
 have H:One w:=m.av
 have O:M.length=A.length:=by simpa[mG]using r.length_eq
 obtain⟨u,s,F,C,N,G,_,_⟩:=qS f.nd y r t.text
 have Q:bG (bA (u,s)):=⟨C.bD⟩
 refine Spec.cX (H':=[bl g [.map (some i),pT q,.int .i64 last] 102,o,p,n]) (by simp) ?_
 refine Spec.body func155 rfl results155 ntmps155 rfl ?_
 refine .sr ?_
 refine .dA rfl (λJ=>?_)
 refine .ag rfl<|.zs<|.sr<|.mo rfl ?_
 refine .aL (lR g i _ _ _) (λv a=>?_)
 subst a
 refine .q .not<|.zn<|.bX<|.kn<|.seq<|.sr<|.mo rfl<|.q (.bI rfl) ?_
 refine .aL (Ou g _ _ last w t _ H) (λv a=>?_)
 subst a
 refine .q .not<|.zn ?_
 refine .cond rfl (λj=>?_) λj=>?_
 refine .sr<|.az rfl ?_
 refine .ret (aI (aN _ (.one (.tmp rfl)) (.one [1,1,1,1] _) ?_))
 ·have e:ft A last t=(2,A):=by unfold ft;rw[ab7 (by simpa using j)]
  rw[e];exact⟨_,by simp[take,aY],rfl,c⟩
 have l:hK t last=true:=by simpa using j
 refine .kn<|.seq<|.seq<|.cP [11] mixed ?_
 refine .tO 0 rfl .move<|.tO 1 rfl (.nilCheck rfl)<|.tO 2 rfl (.fieldAddr rfl)<|.tO 3 rfl (.bK rfl)<|.tO 4 rfl (.fieldAddr rfl)<|.tO 5 rfl (.bK rfl) ?_
 refine .eA 6 rfl (aP.cast (v':=.tuple [.agg (bA (u,s)).toArray,.bool (aS t.text A).isSome].toArray) (.kN f.rx rfl (show _=some (Value.string t.text)from rfl)) (by rw[<-G, <-F];rfl)) (by kernel_rfl) ?_
 refine .tO 7 rfl .move<|.tO 8 rfl .extract<|.tK 9 rfl .extract ?_
 refine .sT 10 rfl ?_
 refine .cG (λK=>?_)
 refine .nil (Next.sub ?_)
 refine .sT 11 rfl ?_
 refine .cc rfl rfl ?_
 refine .nil (Next.mod rfl ?_)
 refine .tK 12 rfl .assign ?_
 refine RA.nil (by kernel_rfl) ?_
 refine aD<|.sr<|.mo rfl<|.zn ?_
 refine .cond rfl (λd=>?_) λd=>?_
 refine .sr<|.az rfl ?_
 refine .ret (aI (aN _ (.one (.tmp rfl)) (.one [2,2,2,2] _) ?_))
 ·have e:ft A last t=(22,A):=by unfold ft;rw[ab8 (by simp[l]),ab7 d]
  rw[e];exact⟨_,by simp[take,aY],rfl,c⟩
 refine .kn<|.seq<|.sr<|.mo rfl<|.nc rfl<|.fa rfl<|.lo rfl<|.q (.r0 f.rx rfl) ?_
 refine .q .geq<|.zn ?_
 refine .cond rfl (λk=>?_) λk=>?_
 refine .sr<|.az rfl ?_
 refine .ret (aI (aN _ (.one (.tmp rfl)) (.one [2,2,2,2] _) ?_))
 ·have e:ft A last t=(8,A):=by unfold ft;rw[ab8 (by simp[l]),ab8 (by rw[d];simp),ab7 (by have:=bq k;omega)]
  rw[e];exact⟨_,by simp[take,aY],rfl,c⟩
 have E:¬4096<=A.length:=by have:=bi k;omega
 refine .kn<|.sr<|.fa rfl<|.cH rfl rfl<|.z<|.mo rfl<|.q (.bI rfl) ?_
 refine .sub (H':=[((g,.cells [.map (some i),pT q,.int .i64 last].toArray 102 (0,0))::(o++p))++n]) ((aH [2,2,2,2]).trans (aU.bu (by simp[take,aY]))) ?_
 refine .bT (Oq g A last _ c w t.fresh _ m D (by omega)) (λv x a=>?_)
 obtain⟨rfl,B⟩:=a
 refine .z<|.az rfl ?_
 refine .ret (aN _ (.one (.tmp rfl)) (.one [0] _) ?_)
 ·have e:ft A last t=(0,cO t.text t.fresh A):=by unfold ft;rw[ab8 (by simp[l]),ab8 (by rw[d];simp),ab8 E]
  rw[e];exact⟨x,by simp[take],rfl,B⟩
def eW(A:List (ByteArray×Tok))(k:ByteArray)(now:Int):Option Tok:=(aS k A).filter λt=>decide (now<t.cb)
theorem qR(g:Nat)(A:List (ByteArray×Tok))(last:Int)(T:ax)(h:VI g A last T)(k:ByteArray)(now:Int)(R:au)(n:∀p∈T,R p.1 p.2):
    Spec prog 61 [pT g,.string k,.int .i64 now] R [] λv H'=>∃T',H'=[T']/\∃w t,v=.tuple [.agg (bA (w,t)).toArray,.bool (eW A k now).isSome].toArray/\dh (dU T') (w,t)/\(eW A k now).getD Tok.zero=t:=by
  obtain⟨y,_,rfl,V,M,q,W,X,rfl,j,I,H,hQ⟩:=h
  obtain⟨e,rfl⟩:∃b,V=.map (some b):=by obtain⟨b,es,clock,h1,_⟩:=j;exact⟨b,h1⟩
  have pq:PC R (pT g) [.map (some e),pT q,.int .i64 last]:=PC.of (E:=102) (fr:=(0,0)) (n (g,.cells [.map (some e),pT q,.int .i64 last].toArray 102 (0,0)) (by simp))
  have U:∀H',RM (Rx R H') (λs:ByteArray=>.string s) (λp:TP=>.agg (bA p).toArray) (.map (some e)) M:=λH'=>j.rm λp N=>.inl (n p (by simp[N]))
  have J:∀b o,dU y b o->R b o:=λb o l=>n (b,o) (by have:(b,o)∈y:=l.1;simp[this])
  obtain⟨x,c,O,z,K,Q,a0,C⟩:=qS j.nd I H k
  have i0:bG (bA (x,c)):=⟨z.bD⟩
  refine Spec.body func61 rfl results61 ntmps61 rfl ?_
  refine .sr ?_
  refine .cG (λY=>?_)
  refine .ag rfl<|.zs<|.sr<|.mo rfl ?_
  refine .aL (lR g e _ _ _) (λv r=>?_)
  subst r
  refine .q .not<|.zn<|.bX<|.kn<|.sr<|.mo rfl<|.nc rfl<|.fa rfl<|.lo rfl<|.mo rfl ?_
  refine .q (aP.cast (v':=.tuple [.agg (bA (x,c)).toArray,.bool (aS k A).isSome].toArray) (.kN (U _) rfl (show _=some (Value.string k)from rfl)) (by rw[<-Q, <-O];rfl)) ?_
  refine .mo rfl<|.q .extract<|.q .extract ?_
  refine .cG (λZ=>?_)
  refine .cc rfl rfl<|.ag rfl<|.zs<|.sr<|.mo rfl<|.q .not<|.mo rfl ?_
  refine .split (t:=25) rfl (λa=>?_) (λa=>?_)
  refine .gF a<|.gF a<|.gF a<|.gF a<|.q (.aW a) ?_
  refine .zn<|.dn<|.sr ?_
  refine .q .du ?_
  refine .cc rfl rfl<|.az rfl ?_
  refine .ret (aI (aN _ (.two (.dO rfl rfl) (.tmp rfl)) (.one [0] _) ?_))
  ·skip
   (have d:eW A k now=none:=by
      unfold eW
      first
        |(have L:aS k A=none:=by simpa using a
          rw[L];rfl)
    rw[d]
    exact⟨_,rfl,_,Tok.zero,rfl,dh.zero _,rfl⟩)
  refine .gT a<|.fa rfl<|.gT a<|.lo rfl<|.gT a<|.mo rfl<|.gT a<|.q .leq<|.q (.aQ a) ?_
  refine .zn ?_
  refine .cond rfl (λi=>?_) λi=>?_
  refine .sr ?_
  refine .q .du ?_
  refine .cc rfl rfl<|.az rfl ?_
  refine .ret (aI (aN _ (.two (.dO rfl rfl) (.tmp rfl)) (.one [0] _) ?_))
  ·skip
   (have d:eW A k now=none:=by
      unfold eW
      first
        |(have m:¬now<c.cb:=by have G:c.cb<=now:=bq i;omega
          cases f:aS k A with
          |none=>rfl
          |some u=>rw[(C u f).1,Option.filter,acg m];rfl)
    rw[d]
    exact⟨_,rfl,_,Tok.zero,rfl,dh.zero _,rfl⟩)
  refine .kn<|.sr<|.q (.bI rfl) ?_
  refine .cW (pr x c _ (z.mono λb o l=>.inl (J b o l)) K) (λv F r=>?_)
  obtain⟨D,rfl,B⟩:=r
  have i1:bG (bA (D,c)):=⟨B.bD⟩
  refine .cc rfl rfl<|.az rfl ?_
  refine .ret (aN _ (.two (.dO rfl rfl) (.tmp rfl)) (.one [0] _) ?_)
  ·skip
   (have d:eW A k now=some c:=by
      have S:(aS k A).isSome=true:=by simpa using a
      obtain⟨u,f⟩:=acV.1 S
      have m:now<c.cb:=by have G:¬c.cb<=now:=bi i;omega
      unfold eW
      rw[f,(C u f).1]
      simp[m]
    rw[d]
    exact⟨F,by simp[take],D,c,rfl,B,rfl⟩)
def yE(f:FuncId)(caps:List Value)(R:au)(p:Tok->Bool):Prop:=∀(w:Value) (t:Tok),One w->∀R',(∀b o,R b o->R' b o)->Spec prog f (.agg (bA (w,t)).toArray::caps) R' [] λu H'=>u=.bool (p t)/\H'=[]
theorem mY{w:Value}{t:Tok}(h:One w):bG (bA (w,t)):=⟨by
 have b:=h.h
 intro u a
 simp only[bA,acv,acG,or_false]at a
 rcases a with rfl|rfl|rfl|rfl|rfl|rfl|rfl|rfl|rfl<;>first|rfl|assumption⟩
theorem me{κ β γ:Type}{f:β->γ}{q:γ->Bool}{A:List (κ×β)}:(dL f A).filter (λx=>q x.2)=dL f (A.filter λx=>q (f x.2)):=by unfold dL;rw[List.filter_map];rfl
theorem Mu{β:Type}{M:List (ByteArray×β)}(b:(M.map (·.1)).Nodup){todo:List ByteArray}{q:β->Bool}{k:ByteArray}{x:β}(g:k∈todo)(e:(k,x)∈M)(d:q x=true):
  dK k (M.filter λy=>decide (y.1∈todo)|| !q y.2)=M.filter λy=>decide (y.1∈todo.filter λk'=>decide (k'≠k))|| !q y.2:=by
 unfold dK
 rw[List.filter_filter]
 refine acM λy f=>?_
 by_cases h:y.1=k
 ·have c:aS k M=some y.2:=gu b (by rw[<-h];exact f)
  have a:aS k M=some x:=gu b e
  rw[c]at a
  simp only[acZ]at a
  simp[h,a,d]
 ·simp[h,acy]
theorem Mv{β:Type}{M:List (ByteArray×β)}(b:(M.map (·.1)).Nodup){todo:List ByteArray}{q:β->Bool}{k:ByteArray}{x:β}(g:k∈todo)(e:(k,x)∈M)(d:q x=false):
  (M.filter λy=>decide (y.1∈todo)|| !q y.2)=M.filter λy=>decide (y.1∈todo.filter λk'=>decide (k'≠k))|| !q y.2:=by
 refine acM λy f=>?_
 by_cases h:y.1=k
 ·have c:aS k M=some y.2:=gu b (by rw[<-h];exact f)
  have a:aS k M=some x:=gu b e
  rw[c]at a
  simp only[acZ]at a
  simp[h,a,d]
 ·simp[h,acy]
theorem u4{l:List ByteArray}{k:ByteArray}:((l.filter λk'=>decide (k'≠k)).filter λk'=>decide (k'≠k))=l.filter λk'=>decide (k'≠k):=by
 rw[List.filter_filter];exact acM λx _=>Bool.and_self _
theorem uZ{l:List ByteArray}{k:ByteArray}(h:k∈l):(l.filter λk'=>decide (k'≠k)).length<l.length:=by
 refine Nat.lt_of_le_of_ne (List.length_filter_le _ _) λe=>?_
 have:=List.length_filter_eq_length_iff.1 e k h
 simp at this
theorem rN{α:Type}(q:α->Bool):∀l:List α,l.length=(l.filter q).length+(l.filter λx=> !q x).length
 |[]=>rfl
 |x::l=>by
  have:=rN q l
  rw[acn,acn]
  cases h:q x<;>simp<;>omega
theorem tc(g:Nat)(A:List (ByteArray×Tok))(last:Int)(Td T:ax)(h:VJ g A last Td T)(f:FuncId)(caps:List Value) [e:aw prog f](p:Tok->Bool)(R:au)(hf:yE f caps R p):
  Spec prog 151 [pT g,.func (.func f) #[] caps.toArray] R [T] λv H'=>∃T',H'=[T']/\v=.int .i64 ((A.filter λx=>p x.2).length:Nat)/\VJ g (A.filter λx=> !p x.2) last Td T':=by
 obtain⟨vm,M,q,J,Tq,rfl,l,hI,D,hQ⟩:=h
 obtain⟨B,rfl⟩:∃b,vm=.map (some b):=by obtain⟨b,es,clock,C,_⟩:=l;exact⟨b,C⟩
 have b1:=hQ.perm (mf D.symm)
 have b6:=hQ.len
 rw[mG]at b6
 have c4:M.length=A.length:=by simpa[mG]using D.length_eq
 refine Spec.cX (H':=[bl g [.map (some B),pT q,.int .i64 last] 102,J,Tq]) (by simp) ?_
 refine Spec.body func151 rfl results151 ntmps151 rfl ?_
 refine .sr<|.ag rfl<|.z<|.ag rfl<|.zs<|.sr<|.mo rfl<|.nc rfl<|.fa rfl<|.lo rfl ?_
 refine .range (l.rm (R:=sg J) λp hp=>hp) (λb o i=>.inr (by have G:(b,o)∈J:=i;simp[G])) rfl (λit b0 b3=>?_)
 refine .zn<|.block ?_
 refine .loop (X:=List ByteArray×List (ByteArray×TP)×Nat×ax×ax×ax) (λy=>(y.1.Nodup/\y.2.2.1+y.2.1.length=M.length)/\(y.2.1=M.filter λx=>decide (x.1∈y.1)|| !p x.2.2)/\MS (λs:ByteArray=>.string s) (λp:TP=>.agg (bA p).toArray) (.map (some B)) y.2.1 y.2.2.2.1/\It (sg y.2.2.2.1) (λs:ByteArray=>.string s) (λp:TP=>.agg (bA p).toArray) (.map (some B)) y.2.1 it y.1 y.2.2.2.2.2/\QI q (dL (λt:Tok=>t.cb) (dL (λp:TP=>p.2) y.2.1)) y.2.2.2.2.1) (λy=>[(0,pT g),(1,.func (.func f) #[] caps.toArray),(5,iN y.2.2.1),(12,it)]) (λy=>[y.2.2.2.2.2,bl g [.map (some B),pT q,.int .i64 last] 102,y.2.2.2.1,y.2.2.2.2.1]) (λy=>y.1.length) (M.map (·.1),M,0,J,Tq,b0) ⟨⟨l.nd,by simp⟩,(acJ.2 λx hx=>by
  have b9:x.1∈M.map (·.1):=acf.2 ⟨x,hx,rfl⟩
  show(decide (x.1∈M.map (·.1))||_)=true
  rw[ab9 b9];rfl).symm,l,b3,b1⟩ kE.c.c.c.c rH ?_
 rintro⟨H,a,n,j,w,c1⟩ ⟨⟨a9,a2⟩,E,m,a8,F⟩
 simp only at a9 a2 E m a8 F⊢
 refine .sr ?_
 refine .m5 a8 (λb o i=>.inr (by have G:(b,o)∈j:=i;simp[G])) rfl (λb rest r b2 ht=>?_)
 refine .q .extract<|.zs ?_
 refine .cond rfl (λC=>?_) λC=>?_
 obtain⟨k,⟨I,Q⟩,Z,a1,L⟩:=ht C
 have a0:(k,((I,Q):TP))∈M:=(acy.1 (E▸fG a1)).1
 obtain⟨_,a6,c3⟩:=hI _ a0
 have i0:bG (bA (I,Q)):=⟨a6.bD⟩
 have c0:One I:=a6.av
 have O:(H.filter λd=>decide (d≠k)).Nodup:=a9.sublist List.filter_sublist
 have N:=uZ Z
 refine .kn<|.block<|.sr ?_
 refine .q (.entry L (λb o i=>.inr (by have G:(b,o)∈j:=i;simp[G])) rfl) ?_
 refine .q .extract<|.q .extract ?_
 refine .cG (λb7=>?_)
 refine .ag rfl<|.cc rfl rfl<|.z<|.mo rfl<|.q (.bI rfl) ?_
 refine .gD (first:=[]) (captured:=caps) (vs:=[.agg (bA (I,Q)).toArray]) (hf I Q c0 _ λb o i=>.inl i) (λu hu=>?_)
 subst hu
 refine .zn ?_
 refine .cond rfl (λS=>?_) λS=>?_
 refine .sr<|.mo rfl<|.nc rfl<|.fa rfl<|.lo rfl<|.mo rfl ?_
 refine .delete m rfl (show _=some (Value.string k)from rfl) (λa3 a5 b4=>?_)
 have Y:=b4 it _ r L.it
 rw[u4]at Y
 have a7:eC k a=dK k a:=mj m.nd
 have V:=Mu (q:=λx:TP=>p x.2) l.nd Z a0 S
 rw[<-E, <-a7]at V
 have c2:(eC k a).length+1=a.length:=by
  rw[vW,a1]
  have:0<a.length:=List.length_pos_of_mem (fG a1)
  simp;omega
 refine .z<|.mo rfl<|.nc rfl<|.fa rfl<|.lo rfl<|.mo rfl ?_
 refine .bT (xk q _ w F k _) (λv a4 hv=>?_)
 obtain⟨rfl,W⟩:=hv
 rw[<-nC, <-nC, <-a7]at W
 refine .zn<|.region<|.mo rfl ?_
 refine .ia (n+1) .add ?_
 refine .ag rfl<|.nil<|bw ?_
 ·first
   |exact bd (H.filter λd=>decide (d≠k),eC k a,n+1,a3,a4,r) ⟨⟨O,by simp only;omega⟩,V,a5,Y,W⟩ N kE.c.c.c.c (aH [1,1,1,1])
   |exact bd (H.filter λd=>decide (d≠k),a,n,j,w,r) ⟨⟨O,a2⟩,U,m,L.it,F⟩ N kE.c.c.c.c (aH [1,1,1,1])
 have U:=Mv (q:=λx:TP=>p x.2) l.nd Z a0 S
 rw[<-E]at U
 refine .skip<|bw ?_
 ·first
   |exact bd (H.filter λd=>decide (d≠k),eC k a,n+1,a3,a4,r) ⟨⟨O,by simp only;omega⟩,V,a5,Y,W⟩ N kE.c.c.c.c (aH [1,1,1,1])
   |exact bd (H.filter λd=>decide (d≠k),a,n,j,w,r) ⟨⟨O,a2⟩,U,m,L.it,F⟩ N kE.c.c.c.c (aH [1,1,1,1])
 have b8:=b2 C
 subst b8
 have K:a=M.filter λx=> !p x.2.2:=by rw[E];exact acM λx _=>by simp
 have b5:n=(A.filter λx=>p x.2).length:=by
  have h3:=(D.filter λx=>p x.2).length_eq
  rw[me,mG]at h3
  have h4:=rN (λx:ByteArray×TP=>p x.2.2) M
  rw[<-K]at h4
  omega
 refine .exit<|bE<|bH<|bF<|aD<|.sr<|.mo rfl<|.az rfl ?_
 refine .ret (aN _ (.one (.tmp rfl)) (.one [1,1,1] _) ?_)
 ·refine⟨(g,.cells [.map (some B),pT q,.int .i64 last].toArray 102 (0,0))::(j++w),by simp[take,aY],by rw[b5],_,a,q,j,w,rfl,m,λx hx=>hI x (acy.1 (K▸hx)).1,?_,?_⟩
  ·rw[K, <-me (q:=λt=> !p t)]
   exact D.filter _
  ·refine F.perm (mf ?_)
   rw[K, <-me (q:=λt=> !p t)]
   exact D.filter _
theorem NJ(a:Int)(b:Nat)(w:Value)(t:Tok)(c:One w)(R:au) [pc:PC R (pT b) [.int .i64 a]]:
  Spec prog 152 [.agg (bA (w,t)).toArray,pT b] R [] λv H'=>v=.bool (t.family==a)/\H'=[]:=by
 have e:=mY (t:=t) c
 refine Spec.body func152 rfl results152 ntmps152 rfl ?_
 refine .sr ?_
 refine .dA rfl (λd=>?_)
 refine .ag rfl<|.z<|.fa rfl<|.lo rfl<|.lo rfl<|.q .bR<|.az rfl ?_
 refine .ret (aO rfl ?_)
 ·exact⟨rfl,rfl⟩
theorem s7(g:Nat)(A:List (ByteArray×Tok))(last:Int)(c T:ax)(h:VJ g A last c T)(a:Int)(R:au):
  Spec prog 80 [pT g,.int .i64 a] R [T] λv H'=>∃T',H'=[T']/\v=.int .i64 ((A.filter λx=>x.2.family==a).length:Nat)/\VJ g (A.filter λx=> !(x.2.family==a)) last c T':=by
 have k:=h
 obtain⟨r,M,q,s,u,n,l,z,y,B⟩:=h
 obtain⟨i,rfl⟩:∃b,r=.map (some b):=by obtain⟨b,es,clock,h1,_⟩:=l;exact⟨b,h1⟩
 have C:PS T (pT g) [.map (some i),pT q,.int .i64 last]:=PS.of (E:=102) (fr:=(0,0)) (by rw[n];simp)
 refine Spec.body func80 rfl results80 ntmps80 rfl ?_
 refine .sr ?_
 refine .ki rfl (λd=>?_)
 refine .ag rfl<|.zs<|.sr<|.mo rfl ?_
 refine .aL (lR g i _ _ _) (λv e=>?_)
 subst e
 refine .q .not<|.zn<|.bX<|.kn<|.sr<|.mo rfl<|.q .makeFunc ?_
 refine .jK (tc g A last c T k 152 [pT d] (λt=>t.family==a) _ (λw t p f m=>by
  have:PC f (pT d) [.int .i64 a]:=PC.of (E:=3) (fr:=(0,0)) (m _ _ (.inr (by simp)))
  exact NJ a d w t p f)) (λv j e=>?_)
 obtain⟨rfl,o⟩:=e
 refine .az rfl ?_
 refine .ret (aN _ (.one (.tmp rfl)) (.one [1] _) ?_)
 ·exact⟨j,by simp[take],rfl,o⟩
def Tok.mark(t:Tok):Tok:=⟨t.text,t.kind,t.aC,t.user,t.scopes,t.family,t.cb,t.rev,true⟩
def gj(A:List (ByteArray×Tok))(k aC:ByteArray)(now:Int):Tok×Int×List (ByteArray×Tok):=
 match aS k A with
 |none=>(Tok.zero,18,A)
 |some t=>if t.kind≠2\/t.aC≠aC then(Tok.zero,18,A)else if t.used then(t,10,A.filter λx=> !(x.2.family==t.family))else if t.cb<=now then(Tok.zero,18,A)else(t.mark,0,cO k t.mark A)
theorem Ov(g:Nat)(A:List (ByteArray×Tok))(last:Int)(T:ax)(h:VI g A last T)(k aC:ByteArray)(now:Int)(R:au):
  Spec prog 86 [pT g,.string k,.string aC,.int .i64 now] R [T] λv H'=>∃T' Tn,H'=[T',Tn]/\∃w,v=.tuple [.agg (bA (w,(gj A k aC now).1)).toArray,.int .i64 (gj A k aC now).2.1].toArray/\dh (dU Tn) (w,(gj A k aC now).1)/\VI g (gj A k aC now).2.2 last T':=by
 have a0:=h.nd
 have H:=h
 obtain⟨f,j,rfl,hJ⟩:=h
 have a1:=hJ
 obtain⟨vm,M,q,Tm,N,U,y,hI,Z,hQ⟩:=hJ
 obtain⟨B,rfl⟩:∃b,vm=.map (some b):=by obtain⟨b,es,clock,h1,_⟩:=y;exact⟨b,h1⟩
 have ps:PS j (pT g) [.map (some B),pT q,.int .i64 last]:=PS.of (E:=102) (fr:=(0,0)) (by rw[U];simp)
 have rm:RM (sg j) (λs:ByteArray=>.string s) (λp:TP=>.agg (bA p).toArray) (.map (some B)) M:=y.rm λp hp=>by rw[U];simp[sg,hp]
 obtain⟨r,a,a6,J,V,a7,a9,K⟩:=qS y.nd hI Z k
 have i0:bG (bA (r,a)):=⟨J.bD⟩
 refine Spec.cX (H':=[j,f]) (by simp) ?_
 refine Spec.body func86 rfl results86 ntmps86 rfl ?_
 refine .sr ?_
 refine .cG (λb8=>?_)
 refine .ag rfl<|.zs<|.sr<|.mo rfl ?_
 refine .aL (lR g B _ _ _) (λv n=>?_)
 subst n
 refine .q .not<|.zn<|.bX<|.kn<|.sr<|.mo rfl<|.nc rfl<|.fa rfl<|.lo rfl<|.mo rfl ?_
 refine .q (aP.cast (v':=.tuple [.agg (bA (r,a)).toArray,.bool (aS k A).isSome].toArray) (.kN (rm.mono λb o m=>.inr (by have C:(b,o)∈j:=m;simp[C])) rfl (show _=some (Value.string k)from rfl)) (by rw[<-a7, <-a6];rfl)) ?_
 refine .mo rfl<|.q .extract<|.q .extract ?_
 refine .cG (λa8=>?_)
 refine .cc rfl rfl<|.ag rfl<|.zs<|.block<|.sr<|.mo rfl<|.q .not<|.mo rfl ?_
 refine .split (t:=28) rfl (λc=>?_) (λc=>?_)
 refine .gF c<|.gF c<|.gF c<|.q (.aW c) ?_
 refine .mo rfl<|.gX<|.gX<|.gX<|.gX<|.q .bY<|.az rfl<|.dn<|.sr ?_
 refine .q .du ?_
 refine .cc rfl rfl<|.az rfl ?_
 refine .ret (bp (aI (aN _ (.two (.dO rfl rfl) (.tmp rfl)) ((aH [2,2]).trans (aU.bu (H':=[j++f,[]]) (by simp[take,aY]))) ?_)))
 ·have i:aS k A=none:=by simpa using c
  have e:gj A k aC now=(Tok.zero,18,A):=by unfold gj;rw[i]
  rw[e];exact⟨_,_,rfl,sZ,rfl,dh.zero _,H⟩
 refine .gT c<|.fa rfl<|.gT c<|.lo rfl<|.gT c<|.q .dF<|.q (.aQ c) ?_
 refine .mo rfl ?_
 refine .split (t:=33) rfl (λd=>?_) (λd=>?_)
 refine .gF d<|.gF d<|.gF d<|.gF d<|.q (.aW d) ?_
 refine .az rfl<|.dn<|.sr ?_
 refine .q .du ?_
 refine .cc rfl rfl<|.az rfl ?_
 refine .ret (bp (aI (aN _ (.two (.dO rfl rfl) (.tmp rfl)) ((aH [2,2]).trans (aU.bu (H':=[j++f,[]]) (by simp[take,aY]))) ?_)))
 ·skip
  have F:(aS k A).isSome=true:=by simpa using c
  obtain⟨u,l⟩:=acV.1 F
  have i:aS k A=some a:=(K u l).1▸l
  have e:gj A k aC now=(Tok.zero,18,A):=by unfold gj;rw[i];simp only;rw[ab7 (.inl (by simpa using d))]
  rw[e];exact⟨_,_,rfl,sZ,rfl,dh.zero _,H⟩
 refine .gT d<|.fa rfl<|.gT d<|.lo rfl<|.gT d<|.mo rfl<|.gT d<|.q .eU<|.q (.aQ d) ?_
 refine .az rfl ?_
 refine .cond rfl (λO=>?_) λO=>?_
 refine .sr ?_
 refine .q .du ?_
 refine .cc rfl rfl<|.az rfl ?_
 refine .ret (bp (aI (aN _ (.two (.dO rfl rfl) (.tmp rfl)) ((aH [2,2]).trans (aU.bu (H':=[j++f,[]]) (by simp[take,aY]))) ?_)))
 ·skip
  have F:(aS k A).isSome=true:=by simpa using c
  obtain⟨u,l⟩:=acV.1 F
  have i:aS k A=some a:=(K u l).1▸l
  have e:gj A k aC now=(Tok.zero,18,A):=by unfold gj;rw[i];simp only;rw[ab7 (.inr (by simpa using O))]
  rw[e];exact⟨_,_,rfl,sZ,rfl,dh.zero _,H⟩
 obtain⟨i,a5,a4⟩:aS k A=some a/\a.kind=2/\a.aC=aC:=by
  have F:(aS k A).isSome=true:=by simpa using c
  obtain⟨u,l⟩:=acV.1 F
  exact⟨(K u l).1▸l,by simpa using d,by simpa using O⟩
 have W:¬(a.kind≠2\/a.aC≠aC):=by simp[a5,a4]
 refine .sr<|.fa rfl<|.lo rfl<|.az rfl ?_
 refine .cond rfl (λI=>?_) λI=>?_
 refine .sr<|.mo rfl<|.fa rfl<|.lo rfl ?_
 refine .bT (s7 g A last f j a1 a.family _) (λv X n=>?_)
 obtain⟨rfl,a3⟩:=n
 refine .z<|.q (.bI rfl) ?_
 refine .cW (pr r a _ (J.mono λb o m=>.inr (by have C:(b,o)∈f:=m.1;simp[C])) V) (λv L n=>?_)
 obtain⟨G,rfl,D⟩:=n
 have i1:bG (bA (G,a)):=⟨D.bD⟩
 refine .cc rfl rfl<|.az rfl ?_
 refine .ret (bp (aI (aN _ (.two (.dO rfl rfl) (.tmp rfl)) ((aH [3,3,0]).trans (aU.bu (H':=[X++f,L]) (by simp[take,aY]))) ?_)))
 ·have e:gj A k aC now=(a,10,A.filter λx=> !(x.2.family==a.family)):=by unfold gj;rw[i];simp only;rw[ab8 W,ab7 I]
  rw[e];exact⟨_,_,rfl,G,rfl,D,f,X,rfl,a3⟩
 refine .sr<|.fa rfl<|.lo rfl<|.mo rfl<|.q .leq<|.az rfl ?_
 refine .cond rfl (λQ=>?_) λQ=>?_
 refine .sr ?_
 refine .q .du ?_
 refine .cc rfl rfl<|.az rfl ?_
 refine .ret (bp (aI (aN _ (.two (.dO rfl rfl) (.tmp rfl)) ((aH [2,2]).trans (aU.bu (H':=[j++f,[]]) (by simp[take,aY]))) ?_)))
 ·have e:gj A k aC now=(Tok.zero,18,A):=by unfold gj;rw[i];simp only;rw[ab8 W,ab8 (by rw[I];simp),ab7 (bq Q)]
  rw[e];exact⟨_,_,rfl,sZ,rfl,dh.zero _,H⟩
 refine .skip<|bw<|aD<|.sr<|.fa rfl<|.cH rfl rfl<|.zs ?_
 refine .dc 6 mixed (by kernel_rfl) ?_
 conv=>arg 6;dsimp only[List.take]
 refine .sub (aU.open_ (S:=[bl g [.map (some B),pT q,.int .i64 last] 102,Tm,N]) 2 (by simp[U])) ?_
 show aF _ _ _ _ _ _ _ [_,_,_,_,_,_] _
 refine .mo rfl<|.nc rfl<|.fa rfl<|.lo rfl<|.mo rfl<|.q (.bI rfl)<|.nil ?_
 refine .update (u:=((r,a.mark):TP)) y rfl (show _=some (Value.string k)from rfl) rfl (λY a2 _=>?_)
 refine .z<|.q (.bI rfl) ?_
 refine .cW (pr r a.mark _ (dh.mono (p:=(r,a)) J λb o m=>.inr (by have C:(b,o)∈f:=m.1;simp[C])) V) (λv L n=>?_)
 obtain⟨G,rfl,D⟩:=n
 have i1:bG (bA (G,a.mark)):=⟨D.bD⟩
 refine .cc rfl rfl<|.az rfl ?_
 refine .ret (aN _ (.two (.dO rfl rfl) (.tmp rfl)) ((aH [1,1,1,3,0]).trans (aU.bu (H':=[((g,.cells [.map (some B),pT q,.int .i64 last].toArray 102 (0,0))::(Y++N))++f,L]) (by simp[take,aY]))) ?_)
 ·have e:gj A k aC now=(a.mark,0,cO k a.mark A):=by unfold gj;rw[i];simp only;rw[ab8 W,ab8 (by rw[I];simp),ab8 (bi Q)]
  have hk:k=a.text:=(K a i).2.1.symm
  rw[e]
  refine⟨_,_,rfl,G,rfl,D,f,_,rfl,_,_,q,Y,N,rfl,a2,λp hp=>?_,?_,?_⟩
  ·rcases oX y.nd hp with hp|rfl
   ·exact hI p hp
   ·exact⟨hk,dh.mono (p:=(r,a)) J λb o m=>m,V⟩
  ·exact(mf (m4 y.nd)).trans (by rw[mg];exact mH Z)
  ·refine hQ.perm ?_
   rw[mg]
   exact(vK (by rw[kM];exact a0) (by rw[nD,i];rfl)).symm
theorem o9(v w:Value)(l m:List ByteArray)(R:au)(h:RS R 1 bz v l)(k:RS R 1 bz w m):
  Spec prog 52 [v,w] R [] λu H'=>u=.bool (decide (l=m))/\H'=[]:=by
 have t:=h.le
 refine Spec.body func52 rfl results52 ntmps52 rfl<|.sr<|.ag rfl<|.zs<|.sr<|.mo rfl<|.q (.di h)<|.mo rfl<|.q (.di k)<|.q .dF<|.zn<|.cond rfl (λb=>?_) λb=>?_
 refine .sr<|.az rfl<|.ret (aI (aO rfl ?_))
 ·exact⟨by rw[acg (λe:l=m=>by simp[e]at b)],rfl⟩
 have x:l.length=m.length:=by simp at b;omega
 refine .kn<|.seq<|.sr<|.az rfl<|.block<|.loop (X:=Nat) (λi=>i<=l.length/\l.take i=m.take i) (λi=>[(0,v),(1,w),(5,iN i)]) (λ_=>[]) (λi=>l.length-i) 0 ⟨by omega,by simp⟩ kE.c.c.c rH ?_
 rintro i ⟨s,g⟩
 refine .seq<|.sr<|.mo rfl<|.mo rfl<|.q (.di h)<|.q .lss<|.zn<|.cond rfl (λd=>?_) λd=>?_
 have p:i<l.length:=by simp at d;omega
 obtain⟨z,a⟩:=dR p
 obtain⟨y,j⟩:∃y,m[i]? =some y:=⟨_,bB (by omega)⟩
 refine .kn<|.seq<|.block<|.seq<|.iA mixed (by kernel_rfl)<|.mo rfl<|.mo rfl ?_
 refine .ct i h a (λB=>?_)
 refine .lo rfl<|.mo rfl<|.mo rfl ?_
 refine .ct i k j (λA=>?_)
 refine .lo rfl<|.q .eU<|.zn<|.cond rfl (λf=>?_) λf=>?_
 refine .sr<|.az rfl<|.ret (bp (aI (dj (bp (aI (aO rfl ?_))))))
 ·refine⟨?_,rfl⟩
  have r:z≠y:=by simpa using f
  rw[acg (λe:l=m=>r (by rw[e,j]at a;cases a;rfl))]
 refine .skip<|bw<|aD<|.region<|.mo rfl<|.q (.inc (n:=i) (by omega))<|.ag rfl<|.nil ?_
 ·exact bd (i+1) ⟨by omega,by
   have e:z=y:=by simpa using f
   rw[acz,acz,g,a,j,e]⟩ (by omega) kE.c.c.c rH
 refine .exit<|bE<|bH<|bF<|aD<|.sr<|.az rfl<|.ret (aO rfl ?_)
 ·refine⟨?_,rfl⟩
  have o:i=l.length:=by simp at d;omega
  rw[o,ach,ac1 (by omega)]at g
  rw[ab9 g]
end Go.Proofs.YtkkmbiojicgobaaGreatDoor
