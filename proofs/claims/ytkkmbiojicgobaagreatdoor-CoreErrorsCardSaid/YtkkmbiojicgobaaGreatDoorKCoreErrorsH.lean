/- What the law 'CoreErrors' uses. No condition. -/
import Derived.Test.YtkkmbiojicgobaaGreatDoorKCoreErrorsA
import Derived.Test.YtkkmbiojicgobaaGreatDoorKCoreErrorsB
import Derived.Test.YtkkmbiojicgobaaGreatDoorKCoreErrorsF
import Derived.Test.YtkkmbiojicgobaaGreatDoorKCoreErrorsG
set_option linter.unusedSimpArgs false
set_option linter.unusedVariables false
namespace Go.Proofs.YtkkmbiojicgobaaGreatDoor
set_option linter.defProp false
def ab7:=@if_pos
def ab8:=@if_neg
def ab9:=@decide_eq_true
def aca:=@Bool.false_or
def acb:=@Bool.true_or
def acd:=@Bool.eq_iff_iff
def ace:=@decide_eq_true_eq
def acf:=@List.mem_map
def acg:=@decide_eq_false
def ach:=@List.take_length
def aci:=@Bool.not_eq_true'
def acj:=@Bool.not_eq_false'
def ack:=@decide_eq_false_iff_not
def acm:=@List.map_append
def acn:=@List.filter_cons
def aco:=@List.getElem?_eq_some_iff
def acp:=@trivial
def acq:=@Bool.true_and
def acr:=@Nat.lt_or_ge
def acs:=@List.map_cons
def acu:=@List.nodup_cons
def acv:=@List.mem_cons
def acw:=@List.flatten_cons
def acx:=@List.map_map
def acy:=@List.mem_filter
def acz:=@List.take_add_one
def acA:=@UInt8.not_lt
def acB:=@if_false
def acC:=@List.flatten_nil
def acD:=@List.append_nil
def acE:=@List.mem_iff_getElem
def acF:=@List.mem_append
def acG:=@List.not_mem_nil
def acH:=@congrArg
def acI:=@UInt8.lt_irrefl
def acJ:=@List.filter_eq_self
def acK:=@List.nodup_append
def acL:=@List.append_assoc
def acM:=@List.filter_congr
def acN:=@Bool.or_eq_true
def acO:=@Bool.and_eq_true
def acP:=@List.perm_middle
def acQ:=@Bool.false_eq_true
def acR:=@List.ext_getElem?
def acS:=@List.getElem?_map
def acT:=@List.perm_append_comm
def acU:=@Bool.and_false
def acV:=@Option.isSome_iff_exists
def acW:=@UInt8.le_antisymm
def acX:=@List.mem_map_of_mem
def acY:=@List.cons_append
def acZ:=@Option.some.injEq
def ac0:=@Bool.eq_false_iff
def ac1:=@List.take_of_length_le
open Tryz
set_option linter.unusedVariables false
theorem Spec.o4{P:Program}{f:FuncId}{a:List Value}{v:Value}(h:∀w,Calls P f a.toArray w λe w'=>e=.returned v/\w'=w)(R:av):Spec P f a R [] λu H'=>u=v/\H'=[]:=
 λw _ _=>(h w).mono λe w' ⟨c,b⟩=>⟨v,[],c,⟨rfl,rfl⟩,by subst b;exact⟨by simp,by simp⟩,by subst b;exact .refl _ _⟩
def fT(a b:ByteArray):Int:=Lib.compareBytes a.data.toList b.data.toList
theorem uq:∀(a b:List UInt8),Lib.compareBytes a b<0↔Op.bytesLess a b=true
 |[],[]=>by simp[Lib.compareBytes,Op.bytesLess]
 |[],_::_=>by simp[Lib.compareBytes,Op.bytesLess]
 |_::_,[]=>by simp[Lib.compareBytes,Op.bytesLess]
 |x::a,y::b=>by
  have f:=uq a b
  simp only[Lib.compareBytes,Op.bytesLess,acN,acO,ace,beq_iff_eq]
  by_cases c:x<y
  ·simp[c]
  ·by_cases d:y<x
   ·have:x≠y:=λe=>by subst e;exact acI _ d
    simp[c,d,this]
   ·have:x=y:=acW (acA.1 d) (acA.1 c)
    subst this
    simp[c,f]
theorem uo:∀(a b:List UInt8),0<Lib.compareBytes a b↔Op.bytesLess b a=true
 |[],[]=>by simp[Lib.compareBytes,Op.bytesLess]
 |[],_::_=>by simp[Lib.compareBytes,Op.bytesLess]
 |_::_,[]=>by simp[Lib.compareBytes,Op.bytesLess]
 |x::a,y::b=>by
  have f:=uo a b
  simp only[Lib.compareBytes,Op.bytesLess,acN,acO,ace,beq_iff_eq]
  by_cases c:x<y
  ·have d:¬y<x:=λh=>acI _ (UInt8.lt_trans c h)
   have:¬y=x:=λe=>by subst e;exact acI _ c
   simp[c,d,this]
  ·by_cases d:y<x
   ·simp[c,d]
   ·have:x=y:=acW (acA.1 d) (acA.1 c)
    subst this
    simp[c,f]
theorem um:∀(a b:List UInt8),Lib.compareBytes a b=0↔a=b
 |[],[]=>by simp[Lib.compareBytes]
 |[],_::_=>by simp[Lib.compareBytes]
 |_::_,[]=>by simp[Lib.compareBytes]
 |x::a,y::b=>by
  have f:=um a b
  simp only[Lib.compareBytes,List.cons.injEq]
  by_cases c:x<y
  ·have:¬x=y:=λe=>by subst e;exact acI _ c
   simp[c,this]
  ·by_cases d:y<x
   ·have:¬x=y:=λe=>by subst e;exact acI _ d
    simp[c,d,this]
   ·have:x=y:=acW (acA.1 d) (acA.1 c)
    subst this
    simp[c,f]
theorem tY:∀(a b c:List UInt8),Op.bytesLess a b=true->Op.bytesLess b c=true->Op.bytesLess a c=true
 |_,[],_,h,_=>by simp[Op.bytesLess]at h
 |_,_::_,[],_,h=>by simp[Op.bytesLess]at h
 |[],_::_,_::_,_,_=>by simp[Op.bytesLess]
 |x::a,y::b,z::c,h1,h2=>by
  simp only[Op.bytesLess,acN,acO,ace,beq_iff_eq]at h1 h2⊢
  rcases h1 with h1|⟨rfl,h1⟩
  ·rcases h2 with h2|⟨rfl,h2⟩
   ·exact .inl (UInt8.lt_trans h1 h2)
   ·exact .inl h1
  ·rcases h2 with h2|⟨rfl,h2⟩
   ·exact .inl h2
   ·exact .inr ⟨rfl,tY a b c h1 h2⟩
theorem jI{a b:ByteArray}:cp a b=true↔fT a b<0:=by
 unfold cp fT;rw[ByteArray.toList_eq,ByteArray.toList_eq,uq]
theorem pg{a b:ByteArray}:cp b a=true↔0<fT a b:=by
 unfold cp fT;rw[ByteArray.toList_eq,ByteArray.toList_eq,uo]
theorem nX{a b:ByteArray}:fT a b=0↔a=b:=by
 unfold fT
 rw[um]
 exact⟨λh=>ByteArray.ext (Array.toList_inj.1 h),λh=>by rw[h]⟩
theorem ly(a:ByteArray):cp a a=false:=by
 cases h:cp a a with
 |false=>rfl
 |true=>have:=jI.1 h;rw[nX.2 rfl]at this;omega
theorem nk{a b c:ByteArray}(d:cp a b=true)(e:cp b c=true):cp a c=true:=by
 unfold cp at *;exact tY _ _ _ d e
theorem lx{a b:ByteArray}(c:cp a b=false)(d:cp b a=false):a=b:=by
 refine nX.1 ?_
 rcases Int.lt_trichotomy (fT a b) 0 with h|h|h
 ·rw[jI.2 h]at c;cases c
 ·exact h
 ·rw[pg.2 h]at d;cases d
theorem kB:SO cp:=⟨ly,λ_ _ _=>nk,λx y z b a=>by
 cases h:cp x z with
 |false=>rfl
 |true=>
  cases h3:cp y x with
  |true=>rw[nk h3 h]at a;cases a
  |false=>have:=lx b h3;subst this;rw[h]at a;cases a⟩
theorem nt(a b:ByteArray)(R:av):Spec prog 48 [.string a,.string b] R [] λv H'=>v=.int .i64 (fT a b)/\H'=[]:=
 Spec.o4 (NM a b) R
def m7(a b:Int):Int:=if a<b then-1 else if b<a then 1 else 0
def gq:List Int->Int
 |[]=>0
 |x::l=>if x=0 then gq l else x
def oQ(x:Int):List Value:=[.int .i64 x]
def bB(s:ByteArray):List Value:=[.string s]
instance Pf(s:ByteArray)(l:List ByteArray):Decidable (s∈l):=decidable_of_iff (l.any (λx=>decide (x=s))=true) (by simp)
instance Pn:iS prog 9 (λs:ByteArray=>.string s):=iS.str qn rO
theorem wR{l:List Int}{i:Nat}(h:∀j x,j<i->l[j]? =some x->x=0):gq l=gq (l.drop i):=by
 induction i generalizing l with
 |zero=>simp
 |succ i ih=>
  cases l with
  |nil=>simp
  |cons x l=>
   have:x=0:=h 0 x (by omega) rfl
   subst this
   simp only[gq,if_true,List.drop_succ_cons]
   exact ih λj x b a=>h (j+1) x (by omega) (by simpa using a)
theorem wV(v:Value)(l:List Int)(R:av)(h:RS R 1 oQ v l):Spec prog 186 [v] R [] λu H'=>u=.int .i64 (gq l)/\H'=[]:=by
 have p:=h.le
 refine Spec.body func186 rfl results186 ntmps186 rfl ?_
 refine .sr<|.ag rfl<|.z<|.ag rfl<|.zs<|.sr<|.mo rfl<|.q (.dl h) ?_
 refine .mo rfl<|.zn<|.block ?_
 refine .loop (X:=Nat) (λi=>i<=l.length/\∀j x,j<i->l[j]? =some x->x=0) (λi=>[(3,.int .i64 0),(6,v),(7,.int .i64 l.length),(8,iN i)]) (λ_=>[]) (λi=>l.length-i) 0 ⟨by omega,by omega⟩ kE.c.c.c.c rH ?_
 rintro i ⟨m,g⟩
 refine .sr<|.q .lss<|.zs ?_
 refine .cond rfl (λb=>?_) λb=>?_
 have e:i<l.length:=by simp at b;omega
 obtain⟨z,a⟩:=dN e
 refine .kn<|.seq<|.block<|.sr ?_
 refine .cu i h a (λr=>?_)
 refine .lo rfl<|.ag rfl<|.z<|.mo rfl<|.mo rfl<|.q .dL<|.zn ?_
 refine .cond rfl (λd=>?_) λd=>?_
 refine .sr<|.mo rfl<|.az rfl ?_
 refine .ret (br (aL (dn (br (aL (aO rfl ?_))))))
 ·refine⟨?_,rfl⟩
  have k:z≠0:=by simpa using d
  rw[wR g,List.drop_eq_getElem_cons e]
  rw[bC e]at a
  cases a
  simp[gq,k]
 refine .skip<|bz<|aD<|.region ?_
 refine .q (.inc (n:=i) (by omega)) ?_
 refine .mo rfl<|.nil ?_
 ·exact bf (i+1) ⟨by omega,λj x o f=>by
   rcases acr j i with hh|hh
   ·exact g j x hh f
   ·obtain rfl:j=i:=by omega
    rw[a]at f;cases f;simpa using d⟩ (by omega) kE.c.c.c.c rH
 refine .exit<|bD<|bH<|bF<|aD<|.sr<|.mo rfl<|.az rfl ?_
 refine .ret (aO rfl ?_)
 ·refine⟨?_,rfl⟩
  have:i=l.length:=by simp at b;omega
  rw[wR g,this];simp[gq]
theorem vO(a:Int)(R:av):Spec prog 328 [.int .i64 a] R [] λu H'=>u=.bool false/\H'=[]:=by
 refine Spec.body func328 rfl results328 ntmps328 rfl ?_
 refine .sr<|.ag rfl<|.z<|.mo rfl<|.mo rfl<|.q .dL<|.az rfl ?_
 refine .ret (aO rfl ?_)
 ·exact⟨by simp,rfl⟩
theorem Af(a b:Int)(R:av):Spec prog 327 [.int .i64 a,.int .i64 b] R [] λu H'=>u=.int .i64 (m7 a b)/\H'=[]:=by
 refine Spec.body func327 rfl results327 ntmps327 rfl ?_
 refine .sr<|.ag rfl<|.z<|.mo rfl ?_
 refine .aM (vO a _) (λv e=>?_)
 subst e
 refine .ag rfl<|.z<|.mo rfl ?_
 refine .aM (vO b _) (λv e=>?_)
 subst e
 refine .ag rfl<|.zs<|.sr<|.mo rfl<|.zn<|.bZ<|.kn<|.seq<|.sr<|.mo rfl<|.zn<|.bZ<|.kn<|.seq<|.sr<|.mo rfl<|.mo rfl<|.q .lss<|.zn ?_
 refine .cond rfl (λc=>?_) λc=>?_
 refine .sr<|.az rfl ?_
 refine .ret (aL (aO rfl ?_))
 ·refine⟨?_,rfl⟩
  simp at c
  try simp at d
  unfold m7
  congr 1
  split
  ·first|rfl|omega
  ·first|rfl|(exfalso;omega)|(split<;>first|rfl|omega)
 refine .kn<|.seq<|.sr<|.mo rfl<|.mo rfl<|.q .gtr<|.zn ?_
 refine .cond rfl (λd=>?_) λd=>?_
 refine .sr<|.az rfl ?_
 refine .ret (aL (aO rfl ?_))
 ·refine⟨?_,rfl⟩
  simp at c
  try simp at d
  unfold m7
  congr 1
  split
  ·first|rfl|omega
  ·first|rfl|(exfalso;omega)|(split<;>first|rfl|omega)
 refine .kn<|.sr<|.az rfl ?_
 refine .ret (aO rfl ?_)
 ·refine⟨?_,rfl⟩
  simp at c
  try simp at d
  unfold m7
  congr 1
  split
  ·first|rfl|omega
  ·first|rfl|(exfalso;omega)|(split<;>first|rfl|omega)
section
variable{κ β:Type} [DecidableEq κ]
def dO(k:κ)(A:List (κ×β)):List (κ×β):=A.filter λp=>decide (p.1≠k)
def cT(k:κ)(x:β)(A:List (κ×β)):List (κ×β):=dO k A++[(k,x)]
theorem qv{k:κ}{A B:List (κ×β)}(h:A.Perm B):(dO k A).Perm (dO k B):=h.filter _
theorem mL{k:κ}{x:β}{A B:List (κ×β)}(h:A.Perm B):(cT k x A).Perm (cT k x B):=(qv h).append_right _
theorem m8{k:κ}{A:List (κ×β)}(h:k∉A.map (·.1)):dO k A=A:=by
 unfold dO
 rw[acJ]
 intro p a
 simp only[ace]
 exact λe=>h (e▸acX a)
theorem oV{k:κ}{x:β}{A:List (κ×β)}(h:k∉A.map (·.1)):dO k ((k,x)::A)=A:=by
 have:=m8 h
 unfold dO at *
 rw[acn,ab8 (by simp)]
 exact this
theorem vQ{k:κ}{x:β}{A B:List (κ×β)}(a:((A++(k,x)::B).map (·.1)).Nodup):dO k (A++(k,x)::B)=A++B:=by
 simp only[acm,acs,acK,acu,acv]at a
 obtain⟨_,⟨d,_⟩,e⟩:=a
 have b:dO k A=A:=m8 λf=>e k f k (.inl rfl) rfl
 have c:dO k ((k,x)::B)=B:=oV d
 unfold dO at *
 rw[List.filter_append,b,c]
theorem r6{k:κ}{x b:β}{A B:List (κ×β)}(e:((A++(k,x)::B).map (·.1)).Nodup):(A++(k,b)::B).Perm (cT k b (A++(k,x)::B)):=by
 unfold cT
 rw[vQ e]
 have c:(A++(k,b)::B).Perm ((k,b)::(A++B)):=acP
 have d:((A++B)++[(k,b)]).Perm ((k,b)::(A++B)):=by simpa using(acP (a:=(k,b)) (l₁:=A++B) (l₂:=[]))
 exact c.trans d.symm
theorem mm{k:κ}:∀{M:List (κ×β)},(M.map (·.1)).Nodup->eG k M=dO k M
 |[],_=>rfl
 |(k',y)::r,hn=>by
  simp only[acs,acu]at hn
  simp only[eG]
  split
  ·rename_i a;subst a;exact(oV hn.1).symm
  ·rename_i a
   rw[mm hn.2]
   simp[dO,Ne.symm a]
theorem nP{k:κ}{A B:List (κ×β)}(h:A.Perm B)(b:(A.map (·.1)).Nodup):aU k A=aU k B:=by
 have c:(B.map (·.1)).Nodup:=(h.map (·.1)).nodup_iff.1 b
 cases h1:aU k A with
 |some x=>exact(gC c (h.mem_iff.1 (fH h1))).symm
 |none=>
  rw[iA]at h1
  refine(iA.2 λa=>h1 ?_).symm
  exact(h.map (·.1)).mem_iff.2 a
theorem lr{k:κ}{A B:List (κ×β)}:aU k (A++B)=(aU k A).or (aU k B):=by
 induction A with
 |nil=>simp[aU]
 |cons p A ih=>
  obtain⟨a,y⟩:=p
  simp only[acY,aU]
  split
  ·rfl
  ·exact ih
theorem wo{k k':κ}{A:List (κ×β)}:aU k' (dO k A)=if k'=k then none else aU k' A:=by
 induction A with
 |nil=>simp[dO,aU]
 |cons p A ih=>
  obtain⟨a,y⟩:=p
  unfold dO at ih⊢
  by_cases h:a=k
  ·subst h
   simp only[acn,ne_eq,not_true,decide_false,acQ,acB,ih,aU]
   split
   ·rfl
   ·rfl
  ·simp only[acn,ne_eq,h,not_false_eq_true,decide_true,if_true,aU,ih]
   split
   ·rename_i e;subst e;simp[h]
   ·rfl
theorem K9{k k':κ}{x:β}{A:List (κ×β)}:aU k' (cT k x A)=if k'=k then some x else aU k' A:=by
 unfold cT
 rw[lr,wo]
 split
 ·rename_i e;subst e;simp[aU]
 ·rename_i e;simp[aU,e]
theorem oX{k:κ}{x:β}{A:List (κ×β)}:(cT k x A).length<=A.length+1:=by
 unfold cT dO
 have:=List.length_filter_le (λp:κ×β=>decide (p.1≠k)) A
 simp only[List.length_append,List.length_singleton];omega
end
structure XE where
 b:Nat
 key:ByteArray
 at_:Int
def XE.cells(e:XE)(i:Nat):List Value:=[.string e.key,.int .i64 e.at_,.int .i64 i]
def XE.obj(e:XE)(i:Nat):Obj:=.cells (e.cells i).toArray 224 (0,0)
abbrev XE.ptr(e:XE):Value:=.pointer (some ⟨e.b,0,none⟩)
def kq(e:XE):List Value:=[e.ptr]
def gx(L:List XE):ax:=L.zipIdx.map λp=>(p.1.b,p.1.obj p.2)
def rM(e f:XE):Int:=gq [m7 e.at_ f.at_,fT e.key f.key]
def kM(e f:XE):Bool:=decide (rM e f<0)
theorem nv(L:List XE)(j:Nat):(gx L)[j]? =L[j]?.map λe=>(e.b,e.obj j):=by
 simp[gx,List.getElem?_zipIdx]
 cases L[j]? <;>rfl
theorem uT(L:List XE):(gx L).length=L.length:=by simp[gx]
theorem nw{L:List XE}{i:Nat}{e:XE}(h:L[i]? =some e):(e.b,e.obj i)∈gx L:=by
 refine bU (i:=i) ?_
 rw[nv,h];rfl
theorem uS(L:List XE):(gx L).map (·.1)=L.map (·.b):=by
 apply acR
 intro j
 rw[acS,nv,acS]
 cases L[j]? <;>rfl
def TI(q:Nat)(vm:Value)(L:List XE)(T:ax):Prop:=∃vt Tt Te,T=(q,.cells [vt,vm].toArray 183 (0,0))::(Tt++Te)/\OS 225 1 kq vt L Tt/\Te.Perm (gx L)/\L.length<=1000000000
theorem Au(e f:XE)(i k:Nat)(R:av)(c:R e.b (e.obj i))(d:R f.b (f.obj k)):Spec prog 326 [e.ptr,f.ptr] R [] λv H'=>v=.int .i64 (rM e f)/\H'=[]:=by
 have h:PC R (.pointer (some ⟨e.b,0,none⟩)) (e.cells i):=PC.of c
 have j:PC R (.pointer (some ⟨f.b,0,none⟩)) (f.cells k):=PC.of d
 refine Spec.body func326 rfl results326 ntmps326 rfl ?_
 refine .sr<|.ag rfl<|.zs<|.cW [] mixed ?_
 refine .tO 0 rfl .move<|.tO 1 rfl (.nilCheck rfl)<|.tO 2 rfl (.fieldAddr rfl)<|.tO 3 rfl (.bN rfl)<|.tO 4 rfl .move<|.tO 5 rfl (.nilCheck rfl)<|.tO 6 rfl (.fieldAddr rfl)<|.tO 7 rfl (.bN rfl)<|.tO 9 rfl .move<|.tO 10 rfl (.nilCheck rfl)<|.tO 11 rfl (.fieldAddr rfl)<|.tO 12 rfl (.bN rfl)<|.tO 13 rfl .move<|.tO 14 rfl (.nilCheck rfl)<|.tO 15 rfl (.fieldAddr rfl)<|.tO 16 rfl (.bN rfl) ?_
 refine .sT 8 rfl ?_
 refine .aM (Af e.at_ f.at_ _) (λv a=>?_)
 subst a
 refine .nil (Next.sub ?_)
 refine .sT 17 rfl ?_
 refine .aM (nt e.key f.key _) (λv a=>?_)
 subst a
 refine .nil (Next.sub ?_)
 refine .sT 18 rfl ?_
 refine .qd [_,_] (λg=>?_)
 refine .nil (Next.sub ?_)
 refine .sT 19 rfl ?_
 refine .aM (wV _ [m7 e.at_ f.at_,fT e.key f.key] _ (RS.lits rfl (by simp[oQ]) (by simp[oQ,aw]))) (λv a=>?_)
 subst a
 refine .nil (Next.sub ?_)
 refine .tO 20 rfl .assign ?_
 refine RA.nil (by kernel_rfl) ?_
 refine aD ?_
 refine .ret (aO rfl ?_)
 ·exact⟨rfl,rfl⟩
theorem N5(a:Value)(L:List XE)(R:av)(h:RS R 1 kq a L):Spec prog 323 [a] R [] λv H'=>v=.int .i64 L.length/\H'=[]:=by
 refine Spec.body func323 rfl results323 ntmps323 rfl ?_
 refine .sr<|.ag rfl<|.z<|.mo rfl<|.q (.dl h) ?_
 refine .az rfl ?_
 refine .ret (aO rfl ?_)
 ·exact⟨rfl,rfl⟩
theorem N6(a:Value)(L:List XE)(R:av)(h:RS R 1 kq a L)(i k:Nat)(e f:XE)(c:L[i]? =some e)(d:L[k]? =some f)(g:R e.b (e.obj i))(j:R f.b (f.obj k)):
  Spec prog 324 [a,.int .i64 i,.int .i64 k] R [] λv H'=>v=.bool (kM e f)/\H'=[]:=by
 refine Spec.body func324 rfl results324 ntmps324 rfl ?_
 refine .sr<|.ag rfl<|.zs ?_
 refine .df 8 mixed (by kernel_rfl) ?_
 conv=>arg 6;dsimp only[List.take]
 refine .mo rfl<|.mo rfl ?_
 refine .cu i h c (λm=>?_)
 refine .lo rfl<|.mo rfl<|.mo rfl ?_
 refine .cu k h d (λn=>?_)
 refine .lo rfl<|.nil ?_
 refine .aM (Au e f i k _ (.inl g) (.inl j)) (λv l=>?_)
 subst l
 refine .q .lss<|.az rfl ?_
 refine .ret (aO rfl ?_)
 ·exact⟨rfl,rfl⟩
theorem nx{L:List XE}(f:(L.map (·.b)).Nodup){i k:Nat}{x y:XE}(g:L[i]? =some x)(h:L[k]? =some y)(a:x.b=y.b):i=k:=by
 obtain⟨c,rfl⟩:=aco.1 g
 obtain⟨d,rfl⟩:=aco.1 h
 exact(List.getElem_inj (xs:=L.map λe:XE=>e.b) (i:=i) (j:=k) (h₀:=by simpa using c) (h₁:=by simpa using d) f).1 (by simpa using a)
theorem Ay{L:List XE}{n:ax}(q:n.Perm (gx L))(m:(L.map (·.b)).Nodup){i k:Nat}{x y:XE}(c:L[i]? =some x)(a:L[k]? =some y):
  (fv (fv n y.b (y.obj i)) x.b (x.obj k)).Perm (gx (swp L i k)):=by
 have g:=(aco.1 c).1
 have l:=(aco.1 a).1
 refine(tg (tg q)).trans ?_
 have r:(swp L i k)[k]? =some x:=by rw[fc g l,ab7 rfl,c]
 have s:(swp L i k)[i]? =some y:=by
  rw[fc g l]
  split
  ·rename_i e;subst e;rw[c]at a;cases a;exact c
  ·rw[ab7 rfl,a]
 have t:fv (fv (gx L) y.b (y.obj i)) x.b (x.obj k)=swp (gx (swp L i k)) i k:=by
  apply acR
  intro j
  rw[te,te,nv,fc (by rw[uT,jZ];exact g) (by rw[uT,jZ];exact l)]
  simp only[nv]
  by_cases d:j=k
  ·subst d
   rw[ab7 rfl,s,a]
   simp only[Option.map_some,if_true,acZ]
   split
   ·rename_i e
    have:=nx m a c e
    subst this
    rw[c]at a;cases a;rfl
   ·rfl
  ·rw[ab8 d]
   by_cases f:j=i
   ·subst f
    rw[ab7 rfl,r,c]
    have:x.b≠y.b:=λe=>d (nx m c a e)
    simp[this]
   ·rw[ab8 f,fc g l,ab8 d,ab8 f]
    cases he:L[j]? with
    |none=>rfl
    |some e=>
     have o:e.b≠y.b:=λh=>d (nx m he a h)
     have p:e.b≠x.b:=λh=>f (nx m he c h)
     simp[o,p]
 rw[t]
 exact lz
theorem On(n:Value)(L:List XE)(o f:ax)(R:av)(h:OS 225 1 kq n L o)(g:f.Perm (gx L))(i k:Nat)(j:i<L.length)(l:k<L.length):
  Spec prog 325 [n,.int .i64 i,.int .i64 k] R [o,f] λv H'=>∃Tt' Te',H'=[Tt',Te']/\OS 225 1 kq n (swp L i k) Tt'/\Te'.Perm (gx (swp L i k)):=by
 refine Spec.nodup λs=>?_
 have r:(L.map (·.b)).Nodup:=by
  rw[<-uS, <-(g.map (·.1)).nodup_iff]
  simp only[acw,acC,acD,acm,acK]at s
  exact s.2.1
 obtain⟨x,c⟩:=dN j
 obtain⟨y,a⟩:=dN l
 obtain⟨_,A⟩:∃u,(L.set k x)[i]? =some u:=⟨_,bC (by simpa using j)⟩
 obtain⟨_,C⟩:∃u,(L.set i y)[k]? =some u:=⟨_,bC (by simpa using l)⟩
 have F:=h.aw
 refine Spec.body func325 rfl results325 ntmps325 rfl ?_
 refine .seq<|.cW [13,15] mixed ?_
 refine .tO 0 rfl .move<|.tO 1 rfl .move<|.tK 2 rfl .move<|.tK 3 rfl .move<|.tO 4 rfl .move<|.tO 5 rfl .move ?_
 refine RA.bb 6 rfl k h a rfl rfl rfl (by kernel_rfl) (λG=>?_)
 refine .tO 7 rfl (.bN rfl)<|.tO 8 rfl .move<|.tO 9 rfl .move ?_
 refine RA.bb 10 rfl i h c rfl rfl rfl (by kernel_rfl) (λH=>?_)
 refine .tO 11 rfl (.bN rfl) ?_
 refine RA.bb 12 rfl i h c rfl rfl rfl (by kernel_rfl) (λI=>?_)
 refine .sT 13 rfl ?_
 first
  |refine aG.eM i d A y (λp q=>?_)
  |refine aG.eM i h c y (λw q=>?_)
 refine .nil (Next.mod rfl ?_)
 refine RA.bb 14 rfl k h a rfl rfl rfl (by kernel_rfl) (λJ=>?_)
 refine .sT 15 rfl ?_
 first
  |refine aG.eM k q C x (λp d=>?_)
  |refine aG.eM k h a x (λw d=>?_)
 refine .nil (Next.mod rfl ?_)
 refine RA.nil (by kernel_rfl) ?_
 have B:(swp L i k)[k]? =some x:=by rw[fc j l,ab7 rfl,c]
 have D:(swp L i k)[i]? =some y:=by
  rw[fc j l]
  split
  ·rename_i e;subst e;rw[c]at a;cases a;exact c
  ·rw[ab7 rfl,a]
 rw[<-fk c a]at d
 have m:=g.mem_iff.2 (nw c)
 have t:=g.mem_iff.2 (nw a)
 have N:PS f (.pointer (some ⟨x.b,0,none⟩)) (x.cells i):=PS.of m
 have O:PS f (.pointer (some ⟨y.b,0,none⟩)) (y.cells k):=PS.of t
 refine aD<|.cW [12,15] mixed ?_
 refine .tO 0 rfl .move<|.tO 1 rfl .move ?_
 refine RA.bb 2 rfl i d D rfl rfl rfl (by kernel_rfl) (λK=>?_)
 refine .tO 3 rfl (.bN rfl)<|.tO 4 rfl .move<|.tO 5 rfl .move ?_
 refine RA.bb 6 rfl k d B rfl rfl rfl (by kernel_rfl) (λM=>?_)
 refine .tO 7 rfl (.bN rfl)<|.tO 8 rfl .move<|.tK 9 rfl .move<|.tO 10 rfl (.nilCheck rfl)<|.tO 11 rfl (.fieldAddr rfl) ?_
 refine .sT 12 rfl ?_
 refine .sV (vs:=y.cells k) (off:=2) t ?_
 rw[show Obj.cells (cc (y.cells k) 2 [iN i]).toArray 224 (0,0)=y.obj i from rfl]
 refine .nil (Next.mod rfl ?_)
 refine .tK 13 rfl (.mN rfl) ?_
 refine .tK 14 rfl (.gy rfl) ?_
 refine .sT 15 rfl ?_
 have E:(x.b,x.obj i)∈fv f y.b (y.obj i):=by
  by_cases e:x.b=y.b
  ·have z:=nx r c a e
   subst z
   rw[c]at a;cases a
   exact yC m
  ·exact Ov m e
 refine .sV (vs:=x.cells i) (off:=2) E ?_
 rw[show Obj.cells (cc (x.cells i) 2 [iN k]).toArray 224 (0,0)=x.obj k from rfl]
 refine .nil (Next.mod rfl ?_)
 refine RA.nil (by kernel_rfl) ?_
 refine eh _ .none rH ?_
 ·exact⟨p,_,rfl,d,Ay g r c a⟩
theorem oN{e f:XE}:kM e f=true↔e.at_<f.at_\/e.at_=f.at_/\cp e.key f.key=true:=by
 unfold kM rM
 rw[ace,jI]
 unfold m7
 simp only[gq]
 by_cases a:e.at_<f.at_
 ·simp[a]
 ·by_cases b:f.at_<e.at_
  ·have:¬e.at_=f.at_:=by omega
   simp[a,b,this]
  ·have:e.at_=f.at_:=by omega
   simp only[this,if_true,Int.lt_irrefl,acB,false_or,true_and]
   split
   ·rename_i h;rw[h]
   ·rfl
theorem m4:SO kM:=by
 have f:∀x y z,kM x y=true->kM y z=true->kM x z=true:=λx y z h1 h2=>by
  rw[oN]at *
  rcases h1 with h1|⟨h1,a⟩<;>rcases h2 with h2|⟨h2,d⟩
  ·exact .inl (by omega)
  ·exact .inl (by omega)
  ·exact .inl (by omega)
  ·exact .inr ⟨by omega,nk a d⟩
 have e:∀x,kM x x=false:=λx=>by
  rw[ac0];intro h
  rw[oN,ly]at h
  rcases h with h|⟨_,h⟩
  ·omega
  ·cases h
 refine⟨e,f,λx y z h1 h2=>?_⟩
 rw[ac0]at *
 rw[ne_eq,oN]at *
 rintro(h|⟨h,a⟩)
 ·simp only[not_or]at h1 h2;omega
 ·simp only[not_or,not_and]at h1 h2
  have b:x.at_=y.at_:=by omega
  have c:y.at_=z.at_:=by omega
  have:=kB.gU x.key y.key z.key (by simpa using h1.2 b) (by simpa using h2.2 c)
  rw[this]at a;cases a
theorem Oc(q:Nat)(vm:Value)(L:List XE)(T:ax)(h:TI q vm L T)(e:XE)(m:L.length<1000000000)(R:av):
  Spec prog 330 [pT q,.iface 225 e.ptr] R [T++[(e.b,e.obj 0)]] λv H'=>∃T',H'=[T']/\TI q vm (L++[e]) T':=by
 obtain⟨k,g,c,rfl,a,i,_⟩:=h
 refine Spec.dg (H':=[bl q [k,vm] 183,g,c,[(e.b,.cells (e.cells 0).toArray 224 (0,0))]]) (by simp[XE.obj]) ?_
 have n:=a.aw
 refine Spec.body func330 rfl results330 ntmps330 rfl ?_
 refine .sr<|.mo rfl<|.q (.tR) ?_
 refine .ag rfl<|.z<|.mo rfl<|.mo rfl<|.nc rfl<|.lo rfl<|.q (.ec a) ?_
 refine .nc rfl<|.fa rfl<|.cJ rfl rfl<|.zn<|.region<|.mo rfl<|.mo rfl<|.nc rfl<|.lo rfl<|.mo rfl ?_
 refine .ig (λl=>?_)
 refine .append a (RS.lits (xs:=[e]) rfl (by simp[kq]) (by simp[kq,aw])) (by simp;omega) (λj f d=>?_)
 have o:=d.aw
 refine .nc rfl<|.cJ rfl rfl<|.nil<|eh _ .none (.one [1,1,1,1] _) ?_
 ·refine⟨_,rfl,j,f,c++[(e.b,e.obj L.length)],by simp[take,aZ];exact⟨rfl,rfl⟩,d,?_,by simp;omega⟩
  have:gx (L++[e])=gx L++[(e.b,e.obj L.length)]:=by simp[gx,List.zipIdx_append]
  rw[this]
  exact i.append_right _
def TJ(q:Nat)(vm:Value)(x:XE)(L:List XE)(T:ax):Prop:=∃T1 i,T.Perm (T1++[(x.b,x.obj i)])/\TI q vm L T1
theorem Ob(q:Nat)(vm:Value)(L:List XE)(x:XE)(T:ax)(h:TI q vm (L++[x]) T)(R:av):
  Spec prog 329 [pT q] R [T] λv H'=>∃T',H'=[T']/\v=.iface 225 x.ptr/\TJ q vm x L T':=by
 obtain⟨j,c,g,rfl,a,d,i⟩:=h
 simp only[List.length_append,List.length_singleton]at i
 refine Spec.dg (H':=[bl q [j,vm] 183,c,g]) (by simp) ?_
 have k:=a.aw
 refine Spec.body func329 rfl results329 ntmps329 rfl ?_
 refine .sr<|.ag rfl<|.z<|.mo rfl<|.nc rfl<|.lo rfl<|.ag rfl<|.z<|.mo rfl<|.mo rfl<|.q (.ec a) ?_
 refine .q (.i64 ((L.length:Nat):Int) .sub ⟨by simp,by omega,by omega⟩) ?_
 refine .bb L.length a (z:=x) (by simp) (λm=>?_)
 refine .lo rfl<|.ag rfl<|.z<|.mo rfl<|.mo rfl<|.mo rfl<|.q (.ec a) ?_
 refine .q (.i64 ((L.length:Nat):Int) .sub ⟨by simp,by omega,by omega⟩) ?_
 refine .oc 0 L.length a rfl ⟨_,rfl⟩ (by omega) (by simp) (λf e=>?_)
 have l:=e.aw
 refine .nc rfl<|.cJ rfl rfl<|.z<|.mo rfl<|.q .makeInterface<|.az rfl ?_
 refine .ret (aR _ (.one (.tmp rfl)) (.one [0,0,0] _) ?_)
 ·refine⟨_,rfl,rfl,(q,.cells [f,vm].toArray 183 (0,0))::(c++gx L),L.length,?_,f,c,gx L,rfl,by simpa using e,.refl _,by omega⟩
  have:gx (L++[x])=gx L++[(x.b,x.obj L.length)]:=by simp[gx,List.zipIdx_append]
  rw[this]at d
  simp only[take,aZ,List.getD_cons_zero,acw,acC,acD,acY,List.nil_append,acL]
  exact(d.append_left c).cons _
theorem oZ:∀w,(typeInfo 227).run prog w=.ok t227 w:=typeInfo227
theorem qY(q:Nat)(vm:Value)(R:av):mZ prog R 227 (pT q) kM (TI q vm) where
 km L T h:=by obtain⟨a,c,b,rfl,e,d,g⟩:=h;exact g
 len L T h:=by
  obtain⟨a,c,b,rfl,e,d,g⟩:=h
  have l:RS (Rx R [(q,.cells [a,vm].toArray 183 (0,0))::(c++b)]) 1 kq a L:=e.rs λp j=>.inr (by simp[j])
  refine(gW.iK (r:=a) (f:=323) (ju.val oZ (by kernel_rfl) inferInstance (by kernel_rfl) inferInstance (PC.of (vs:=[a,vm]) (E:=183) (fr:=(0,0)) (.inr (by simp)))) (N5 a L _ l)).mono λu s m=>?_
  obtain⟨rfl,rfl⟩:=m
  exact⟨rfl,a,c,b,rfl,e,d,g⟩
 less L T i k x y h hx hy:=by
  obtain⟨a,c,b,rfl,e,d,g⟩:=h
  have l:RS (Rx R [(q,.cells [a,vm].toArray 183 (0,0))::(c++b)]) 1 kq a L:=e.rs λp j=>.inr (by simp[j])
  have A:=d.mem_iff.2 (nw hx)
  have B:=d.mem_iff.2 (nw hy)
  refine(gW.iK (r:=a) (f:=324) (ju.val oZ (by kernel_rfl) inferInstance (by kernel_rfl) inferInstance (PC.of (vs:=[a,vm]) (E:=183) (fr:=(0,0)) (.inr (by simp)))) (N6 a L _ l i k x y hx hy (.inr (by simp[A])) (.inr (by simp[B])))).mono λu s m=>?_
  obtain⟨rfl,rfl⟩:=m
  exact⟨rfl,a,c,b,rfl,e,d,g⟩
 swap L T i k h hi hk:=by
  obtain⟨a,c,b,rfl,e,d,g⟩:=h
  refine⟨325,a,ju.val oZ (by kernel_rfl) inferInstance (by kernel_rfl) inferInstance (PC.of (vs:=[a,vm]) (E:=183) (fr:=(0,0)) (.inr (by simp))),inferInstance,?_⟩
  refine Spec.dg (H':=[bl q [a,vm] 183,c,b]) (by simp) ?_
  refine Spec.flat ((Spec.nN [1,1] (On a L c b _ e d i k hi hk)).mono λv H' z=>?_)
  obtain⟨C,rfl,o,n,rfl,w,t⟩:=z
  refine⟨_,(q,.cells [a,vm].toArray 183 (0,0))::(o++n),rfl,?_,_,rfl,a,o,n,rfl,w,t,by rw[jZ];exact g⟩
  simp only[rest,aZ,List.flatten_append,acw,acC,acD]
  exact acT
theorem Og(q:Nat)(vm:Value)(L:List XE)(T:ax)(h:TI q vm L T)(e:XE)(hl:L.length<1000000000)(R:av):gW Tryz.prog 227 (.pointer (some ⟨q,0,none⟩)) "Push" [.iface 225 e.ptr] R (T++[(e.b,e.obj 0)]) fun _ T'=>TI q vm (L++[e]) T':=
 ⟨330,_,ju.ptr oZ (by kernel_rfl) inferInstance (by kernel_rfl),inferInstance,Oc q vm L T h e hl R⟩
theorem yx(q:Nat)(vm:Value)(L:List XE)(x:XE)(T:ax)(h:TI q vm (L++[x]) T)(R:av):gW Tryz.prog 227 (.pointer (some ⟨q,0,none⟩)) "Pop" [] R T fun v T'=>v=.iface 225 x.ptr∧TJ q vm x L T':=
 ⟨329,_,ju.ptr oZ (by kernel_rfl) inferInstance (by kernel_rfl),inferInstance,Ob q vm L x T h R⟩
abbrev Mb(b:Nat):Value:=pT b
def XE.kb(e:XE):ByteArray×Nat:=(e.key,e.b)
def XE.ka(e:XE):ByteArray×Int:=(e.key,e.at_)
def QI(q:Nat)(A:List (ByteArray×Int))(T:ax):Prop:=∃L vm M T1 Tm,T=T1++Tm/\TI q vm L T1/\MS (λs:ByteArray=>.string s) Mb vm M Tm/\
 M.Perm (L.map XE.kb)/\fD kM L L.length/\(L.map XE.ka).Perm A
theorem QI.nodup{q:Nat}{A:List (ByteArray×Int)}{T:ax}(h:QI q A T):(A.map (·.1)).Nodup:=by
 obtain⟨L,k,M,f,g,rfl,i,d,e,j,c⟩:=h
 have a:=(e.map (·.1)).nodup_iff.1 d.nd
 have b:=(c.map (·.1)).nodup_iff.1 (by rw[acx]at a⊢;exact a)
 exact b
theorem QI.len{q:Nat}{A:List (ByteArray×Int)}{T:ax}(h:QI q A T):A.length<=1000000000:=by
 obtain⟨L,k,M,b,d,rfl,⟨l,e,c,_,_,_,i⟩,f,j,g,a⟩:=h
 have:=a.length_eq
 simp at this;omega
theorem QI.perm{q:Nat}{A B:List (ByteArray×Int)}{T:ax}(h:QI q A T)(j:A.Perm B):QI q B T:=by
 obtain⟨L,k,M,a,b,c,d,e,f,g,i⟩:=h
 exact⟨L,k,M,a,b,c,d,e,f,g,i.trans j⟩
theorem xv(R:av):Spec prog 63 [] R [] λv H'=>∃T,H'=[T]/\∃q,v=pT q/\QI q [] T:=by
 refine Spec.body func63 rfl results63 ntmps63 rfl ?_
 refine .sr<|.ag rfl<|.z ?_
 refine .makeMap (λa=>?_)
 refine .q .dI ?_
 refine .dv rfl (λb=>?_)
 refine .az rfl ?_
 refine .ret (aR _ (.one (.tmp rfl)) (.one [0,0] _) ?_)
 ·exact⟨_,rfl,_,rfl,[],_,[],bl b [sZ,.map (some a)] 183,_,rfl,⟨_,[],[],rfl,OS.nil,.refl _,by simp⟩,MS.nil,.refl _,λk d c=>by simp at c,.refl _⟩
theorem sD(q:Nat)(a:Value)(b:Nat)(R:av) [pc:PC R (pT q) [a,.map (some b)]]:
  Spec prog 244 [pT q] R [] λv H'=>v=.bool true/\H'=[]:=by
 refine Spec.body func244 rfl results244 ntmps244 rfl ?_
 refine .sr<|.ag rfl<|.z<|.mo rfl<|.q (.qA rfl rfl) ?_
 refine .mo rfl<|.gt rfl ?_
 refine .mo rfl<|.gt rfl ?_
 refine .nc rfl<|.gt rfl ?_
 refine .fa rfl<|.gt rfl ?_
 refine .lo rfl<|.gt rfl ?_
 refine .q (.qz rfl rfl) ?_
 refine .q .ca<|.az rfl ?_
 refine .ret (aO rfl ?_)
 ·exact⟨rfl,rfl⟩
theorem Mp(q:Nat)(A:List (ByteArray×Int))(T:ax)(h:QI q A T)(R:av)(f:∀p∈T,R p.1 p.2):
  Spec prog 189 [pT q] R [] λv H'=>v=.int .i64 A.length/\H'=[]:=by
 obtain⟨L,l,M,m,o,rfl,⟨a,r,n,rfl,d,s,u⟩,i,e,t,g⟩:=h
 obtain⟨c,rfl⟩:∃b,l=.map (some b):=by obtain⟨b,es,clock,h1,_⟩:=i;exact⟨b,h1⟩
 have x:PC R (pT q) [a,.map (some c)]:=PC.of (E:=183) (fr:=(0,0)) (f (q,.cells [a,.map (some c)].toArray 183 (0,0)) (by simp))
 have j:RS R 1 kq a L:=d.rs λp e=>f p (by simp[e])
 have w:=d.aw
 refine Spec.body func189 rfl results189 ntmps189 rfl ?_
 refine .sr<|.ag rfl<|.zs<|.sr<|.mo rfl ?_
 refine .aM (sD q a c _) (λv k=>?_)
 subst k
 refine .q .not<|.zn<|.bZ<|.kn<|.sr<|.mo rfl<|.nc rfl<|.fa rfl<|.lo rfl<|.q (.dl j) ?_
 refine .az rfl ?_
 refine .ret (aO rfl ?_)
 ·exact⟨by rw[<-g.length_eq];simp,rfl⟩
theorem tS{L:List XE}{M:List (ByteArray×Nat)}{A:List (ByteArray×Int)}(n:(M.map (·.1)).Nodup)(g:M.Perm (L.map XE.kb))(f:(L.map XE.ka).Perm A)(key:ByteArray):
  (aU key M=none/\aU key A=none/\∀e∈L,e.key≠key)\/∃(i:Nat) (e:XE),L[i]? =some e/\e.key=key/\aU key M=some e.b/\aU key A=some e.at_:=by
 have k:((L.map XE.kb).map (·.1)).Nodup:=(g.map (·.1)).nodup_iff.1 n
 have o:(A.map (·.1)).Nodup:=(f.map (·.1)).nodup_iff.1 (by rw[acx]at k⊢;exact k)
 cases hm:aU key M with
 |none=>
  have d:=iA.1 hm
  have h:∀e∈L,e.key≠key:=λe c a=>d (by
   rw[(g.map (·.1)).mem_iff,acx]
   exact acf.2 ⟨e,c,a⟩)
  refine .inl ⟨rfl,iA.2 λj=>?_,h⟩
  rw[<-(f.map (·.1)).mem_iff,acx]at j
  obtain⟨e,c,a⟩:=acf.1 j
  exact h e c a
 |some b=>
  have d:=g.mem_iff.1 (fH hm)
  obtain⟨e,c,a⟩:=acf.1 d
  simp only[XE.kb,Prod.mk.injEq]at a
  obtain⟨i,l,m⟩:=acE.1 c
  refine .inr ⟨i,e,by rw[bC l,m],a.1,by rw[a.2],gC o (f.mem_iff.1 (acf.2 ⟨e,c,?_⟩))⟩
  simp[XE.ka,a.1]
set_option maxRecDepth 4000
theorem TI.set{q:Nat}{vm:Value}{L:List XE}{T:ax}(h:TI q vm L T)(l:(T.map (·.1)).Nodup){i:Nat}{e e':XE}(a:L[i]? =some e)(n:e'.b=e.b):TI q vm (L.set i e') (fv T e.b (e'.obj i)):=by
 obtain⟨m,d,g,rfl,v,k,w⟩:=h
 have x:=k.mem_iff.2 (nw a)
 have D:=l
 simp only[acs,acm,acu,acK,acF]at l
 obtain⟨r,C,s,t⟩:=l
 have o:e.b∈g.map (·.1):=acX x
 have A:q≠e.b:=λf=>r (.inr (f▸o))
 have B:fv d e.b (e'.obj i)=d:=tf λp z f=>t p.1 (acX z) e.b o f
 have y:(L.map (·.b)).Nodup:=by rw[<-uS, <-(k.map (·.1)).nodup_iff];exact s
 refine⟨m,d,fv g e.b (e'.obj i),?_,v.congr ?_,?_,by simpa using w⟩
 ·have:fv ((q,Obj.cells [m,vm].toArray 183 (0,0))::(d++g)) e.b (e'.obj i)=(q,Obj.cells [m,vm].toArray 183 (0,0))::(fv d e.b (e'.obj i)++fv g e.b (e'.obj i)):=by simp[fv,A]
  rw[this,B]
 ·apply acR
  intro j
  rw[acS,acS,List.getElem?_set]
  by_cases c:i=j
  ·subst c
   have:i<L.length:=(aco.1 a).1
   rw[ab7 rfl,ab7 this,a]
   simp[kq,XE.ptr,n]
  ·simp[c]
 ·refine(tg k).trans ?_
  have:fv (gx L) e.b (e'.obj i)=gx (L.set i e'):=by
   apply acR
   intro j
   rw[te,nv,nv,List.getElem?_set]
   by_cases c:i=j
   ·subst c
    have:i<L.length:=(aco.1 a).1
    rw[ab7 rfl,ab7 this,a]
    simp[n]
   ·simp only[c,acB]
    cases hj:L[j]? with
    |none=>rfl
    |some u=>
     have:u.b≠e.b:=λf=>c (nx y hj a f).symm
     simp[this]
  rw[this]
theorem TI.ps{q:Nat}{vm:Value}{L:List XE}{T:ax}(h:TI q vm L T):∃vt,One vt/\PS T (pT q) [vt,vm]:=by
 obtain⟨vt,c,b,rfl,a,d,e⟩:=h
 exact⟨vt,a.aw,PS.of (E:=183) (fr:=(0,0)) (by simp)⟩
theorem TI.mem{q:Nat}{vm:Value}{L:List XE}{T:ax}(h:TI q vm L T){i:Nat}{e:XE}(c:L[i]? =some e):(e.b,e.obj i)∈T:=by
 obtain⟨k,f,d,rfl,g,a,j⟩:=h
 have:=a.mem_iff.2 (nw c)
 simp[this]
theorem Nw{L:List XE}{i:Nat}{e:XE}(a:L[i]? =some e):∃L1 L2,L=L1++e::L2/\∀e',L.set i e'=L1++e'::L2:=by
 obtain⟨h,rfl⟩:=aco.1 a
 refine⟨L.take i,L.drop (i+1),?_,λe'=>?_⟩
 ·rw[List.getElem_cons_drop,List.take_append_drop]
 ·rw[List.set_eq_take_append_cons_drop,ab7 h]
theorem xz(q:Nat)(A:List (ByteArray×Int))(T:ax)(h:QI q A T)(key:ByteArray)(at_:Int)(hl:A.length<1000000000)(R:av):
  Spec prog 203 [pT q,.string key,.int .i64 at_] R [T] λv H'=>∃T',H'=[T']/\v=.tuple #[]/\QI q (cT key at_ A) T':=by
 have a0:=h.nodup
 obtain⟨L,vm,M,a,t,rfl,n,g,D,I,f⟩:=h
 obtain⟨m,rfl⟩:∃b,vm=.map (some b):=by obtain⟨b,es,clock,h1,_⟩:=g;exact⟨b,h1⟩
 obtain⟨vt,i1,ps⟩:=n.ps
 have H:=tS g.nd D f key
 have a4:L.length=A.length:=by simpa using f.length_eq
 refine Spec.dg (H':=[a,t]) (by simp) ?_
 refine Spec.body func203 rfl results203 ntmps203 rfl ?_
 refine .seq<|.sr<|.mo rfl ?_
 refine .aM (sD q vt m _) (λv l=>?_)
 subst l
 refine .q .not<|.zn<|.bZ<|.kn<|.seq<|.sr<|.mo rfl<|.nc rfl<|.fa rfl<|.lo rfl<|.mo rfl<|.q (.kP g.rx rfl (show _=some (Value.string key)from rfl)) ?_
 refine .mo rfl<|.q .extract<|.q .extract<|.ag rfl<|.ag rfl<|.z<|.mo rfl<|.zn ?_
 refine .cond rfl (λd=>?_) λd=>?_
 obtain⟨i,e,r,C,Z,ha⟩:∃(i:Nat) (e:XE),L[i]? =some e/\e.key=key/\aU key M=some e.b/\aU key A=some e.at_:=by
  rcases H with⟨h3,_⟩|h3
  ·rw[h3]at d;simp at d
  ·exact h3
 have E:=n.mem r
 have pe:PS a (.pointer (some ⟨e.b,0,none⟩)) (e.cells i):=PS.of E
 obtain⟨e',p⟩:∃e':XE,e'=⟨e.b,e.key,at_⟩:=⟨_,rfl⟩
 rw[Z]
 simp only[Option.map_some,Option.getD_some]
 refine .sr<|.mo rfl<|.mo rfl<|.nc rfl<|.fa rfl ?_
 refine .nodup λK=>?_
 have a1:(a.map (·.1)).Nodup:=by
  simp only[acw,acm,acK]at K
  exact K.1
 refine .sV (vs:=e.cells i) (off:=1) E ?_
 rw[show Obj.cells (cc (e.cells i) 1 [.int .i64 at_]).toArray 224 (0,0)=e'.obj i from by rw[p];rfl]
 have x:=n.set a1 r (e':=e') (by rw[p])
 have a3:PS (fv a e.b (e'.obj i)) (.pointer (some ⟨e.b,0,none⟩)) (e'.cells i):=PS.of (yC E)
 generalize fv a e.b (e'.obj i)=T1' at x a3⊢
 obtain⟨a7,a5,a6⟩:=x.ps
 clear pe ps
 have W:i<L.length:=(aco.1 r).1
 have V:kj kM (L.set i e') (L.set i e').length i:=by
  rw[List.length_set]
  exact I.hole m4 (Nat.le_refl _) λk C Y=>by rw[List.getElem?_set_ne (Ne.symm Y)]
 refine .zs ?_
 refine .df 8 mixed (by kernel_rfl) ?_
 conv=>arg 6;dsimp only[List.take]
 refine .mo rfl<|.nc rfl<|.fa rfl<|.q .makeInterface<|.mo rfl<|.nc rfl<|.fa rfl<|.lo rfl<|.nil ?_
 refine .bW (Kk (qY q (.map (some m)) _) m4 _ _ x i (by simpa using W) V) (λv c l=>?_)
 obtain⟨rfl,s,y,j,B⟩:=l
 refine .zn ?_
 refine .ret (aL (aR _ .none (aT.merge [0,0] _) ?_))
 ·obtain⟨L1,L3,Q,a2⟩:=Nw r
  have O:=a2 e'
  have X:e'.kb=e.kb:=by rw[p];rfl
  refine⟨c++t,by simp[take,rest,aZ],rfl,s,_,M,c,t,rfl,y,g,?_,B,?_⟩
  ·refine D.trans ?_
   have:(L.set i e').map XE.kb=L.map XE.kb:=by rw[O,Q];simp[X]
   rw[<-this]
   exact(j.map _).symm
  ·refine((j.map _).trans ?_).trans (mL f)
   have J:((L.map XE.ka).map (·.1)).Nodup:=(f.map (·.1)).nodup_iff.2 a0
   rw[O,Q]at *
   simp only[acm,acs]at J⊢
   have S:e'.ka=(key,at_):=by rw[p];simp[XE.ka,C]
   have G:e.ka=(key,e.at_):=by simp[XE.ka,C]
   rw[S,G]
   exact r6 (by rw[<-G];simpa using J)
 have N:aU key M=none/\aU key A=none/\∀e∈L,e.key≠key:=by
  rcases H with h3|⟨i,e,_,_,h3,_⟩
  ·exact h3
  ·rw[h3]at d;simp at d
 refine .kn<|.sr<|.mo rfl<|.mo rfl ?_
 refine .q .dI ?_
 refine .dv rfl (λF=>?_)
 refine .ag rfl<|.z<|.mo rfl<|.nc rfl<|.fa rfl<|.lo rfl<|.mo rfl<|.mo rfl ?_
 refine .update (u:=F) g rfl (show _=some (Value.string key)from rfl) rfl (λw U _=>?_)
 refine .zn<|.region<|.mo rfl<|.nc rfl<|.fa rfl<|.q .makeInterface<|.mo rfl<|.q .makeInterface ?_
 obtain⟨e,o⟩:∃e:XE,e=⟨F,key,at_⟩:=⟨_,rfl⟩
 refine .sub (H':=[a++[(e.b,e.obj 0)],w]) (aT.bu (by
  rw[o]
  simp only[acw,acC,acD,acL,acY,List.nil_append]
  exact acP.symm)) ?_
 refine .bW (Mc (qY q (.map (some m)) _) m4 L _ (.iface 225 e.ptr) e (Og q (.map (some m)) L a n e (by omega) _) I) (λv c l=>?_) (hxs:=by rw[o];rfl)
 obtain⟨rfl,s,y,j,B⟩:=l
 refine .nil<|eh _ .none (aT.merge [0,0] _) ?_
 ·refine⟨c++w,by simp[take,rest,aZ],rfl,s,_,_,c,w,rfl,y,U,?_,B,?_⟩
  ·rw[o3 (iA.1 N.1)]
   refine(D.append_right _).trans ?_
   have:=(j.map XE.kb).symm
   rw[acm]at this
   rw[o]at this
   exact this
  ·refine(j.map _).trans ?_
   unfold cT
   rw[m8 (iA.1 N.2.1),acm,o]
   exact f.append_right _
theorem xF{L a:List XE}{x:XE}{M:List (ByteArray×Nat)}{A:List (ByteArray×Int)}(f:(M.map (·.1)).Nodup)(i:M.Perm (L.map XE.kb))(h:(L.map XE.ka).Perm A)(e:L.Perm (x::a)):
  (eG x.key M).Perm (a.map XE.kb)/\(a.map XE.ka).Perm (dO x.key A):=by
 have d:M.Perm ((x.key,x.b)::a.map XE.kb):=i.trans (e.map _)
 have g:A.Perm ((x.key,x.at_)::a.map XE.ka):=h.symm.trans (e.map _)
 have c:=(d.map (·.1)).nodup_iff.1 f
 simp only[acs,acu]at c
 have j:x.key∉(a.map XE.ka).map (·.1):=by rw[acx]at c⊢;exact c.1
 refine⟨?_,?_⟩
 ·rw[mm f]
  have:=qv (k:=x.key) d
  rwa [oV c.1]at this
 ·have:=qv (k:=x.key) g
  rw[oV j]at this
  exact this.symm
theorem xt(q:Nat)(A:List (ByteArray×Int))(T:ax)(h:QI q A T)(key:ByteArray)(R:av):
  Spec prog 195 [pT q,.string key] R [T] λv H'=>∃T',H'=[T']/\v=.bool (aU key A).isSome/\QI q (dO key A) T':=by
 have V:=h.nodup
 obtain⟨L,Q,M,c,d,rfl,j,a,n,w,l⟩:=h
 obtain⟨k,rfl⟩:∃b,Q=.map (some b):=by obtain⟨b,es,clock,h1,_⟩:=a;exact⟨b,h1⟩
 obtain⟨S,W,Z⟩:=j.ps
 have u:=tS a.nd n l key
 refine Spec.dg (H':=[c,d]) (by simp) ?_
 refine Spec.body func195 rfl results195 ntmps195 rfl ?_
 refine .sr<|.ag rfl<|.zs<|.sr<|.mo rfl ?_
 refine .aM (sD q S k _) (λv o=>?_)
 subst o
 refine .q .not<|.zn<|.bZ<|.kn<|.sr<|.mo rfl<|.nc rfl<|.fa rfl<|.lo rfl<|.mo rfl<|.q (.kP a.rx rfl (show _=some (Value.string key)from rfl)) ?_
 refine .mo rfl<|.q .extract<|.q .extract<|.ag rfl<|.ag rfl<|.zs<|.sr<|.mo rfl<|.zn ?_
 refine .cond rfl (λf=>?_) λf=>?_
 obtain⟨i,e,y,H,I,F⟩:∃(i:Nat) (e:XE),L[i]? =some e/\e.key=key/\aU key M=some e.b/\aU key A=some e.at_:=by
  rcases u with⟨h3,_⟩|h3
  ·rw[h3]at f;simp at f
  ·exact h3
 have O:=j.mem y
 have Y:PS c (.pointer (some ⟨e.b,0,none⟩)) (e.cells i):=PS.of O
 rw[I]
 simp only[Option.map_some,Option.getD_some]
 refine .seq ?_
 refine .df 8 mixed (by kernel_rfl) ?_
 conv=>arg 6;dsimp only[List.take]
 refine .mo rfl<|.nc rfl<|.fa rfl<|.q .makeInterface<|.mo rfl<|.nc rfl<|.fa rfl<|.lo rfl<|.nil ?_
 refine .bW (MH (qY q (.map (some k)) _) m4 L c j i e y w (λx=>.iface 225 x.ptr) (TJ q (.map (some k)) e) (λB T' D _=>yx q _ B e T' D _)) (λv U o=>?_)
 obtain⟨rfl,C,⟨g,N,K,t⟩,J,G⟩:=o
 obtain⟨a1,X,a0⟩:=t.ps
 refine .sub (H':=[g,d,[(e.b,e.obj N)]]) (aT.bu (by
  simp only[acw,acC,acD]
  refine(K.append_right d).trans ?_
  rw[acL]
  exact acT.append_left g)) ?_
 refine .zn<|.region<|.mo rfl<|.nc rfl<|.fa rfl<|.lo rfl<|.mo rfl ?_
 refine .delete a rfl (show _=some (Value.string key)from rfl) (λp E _=>?_)
 refine .z<|.mo rfl<|.az rfl ?_
 refine .ret (aR _ (.one (.tmp rfl)) (aT.one [0,0] _) ?_)
 ·obtain⟨r,s⟩:=xF a.nd n l J
  rw[H]at r s
  refine⟨g++p,by simp[take,aZ],by rw[F];rfl,C,_,_,g,p,rfl,t,E,r,G,s⟩
 have m:aU key M=none/\aU key A=none/\∀e∈L,e.key≠key:=by
  rcases u with h3|⟨i,e,_,_,h3,_⟩
  ·exact h3
  ·rw[h3]at f;simp at f
 refine .kn<|.sr<|.mo rfl<|.az rfl ?_
 refine .ret (aR _ (.one (.tmp rfl)) (aT.one [0,0] _) ?_)
 ·refine⟨c++d,by simp[take,aZ],by rw[m.1,m.2.1];rfl,L,_,M,c,d,rfl,j,a,n,w,?_⟩
  rw[m8 (iA.1 m.2.1)]
  exact l
def oU(p r:ByteArray×Int):Bool:=decide (p.2<r.2)||decide (p.2=r.2)&&cp p.1 r.1
theorem Av{e f:XE}:kM e f=oU e.ka f.ka:=by
 rw[show oU e.ka f.ka=(decide (e.at_<f.at_)||decide (e.at_=f.at_)&&cp e.key f.key)from rfl,acd,oN]
 simp only[acN,acO,ace]
theorem TI.read{q:Nat}{vm:Value}{L:List XE}{T:ax}(h:TI q vm L T):∃vt,One vt/\PS T (pT q) [vt,vm]/\RS (sg T) 1 kq vt L/\∀(i:Nat) (e:XE),L[i]? =some e->PS T (.pointer (some ⟨e.b,0,none⟩)) (e.cells i):=by
 have d:=λ(i:Nat) (e:XE) (a:L[i]? =some e)=>h.mem a
 obtain⟨vt,j,g,rfl,c,k,l⟩:=h
 exact⟨vt,c.aw,PS.of (E:=183) (fr:=(0,0)) (by simp),c.rs λp f=>by simp[sg,f],λi e a=>PS.of (d i e a)⟩
structure pY(A:List (ByteArray×Int))(now:Int)(B A':List (ByteArray×Int)):Prop where
 pm:A.Perm (B++A')
 ord:B.Pairwise λp r=>oU r p=false
 le:∀p∈B,p.2<=now
 front:∀p∈B,∀r∈A',oU r p=false
theorem pY.filter{A B a:List (ByteArray×Int)}{now:Int}(h:pY A now B a)(f:∀p∈a,now<p.2):a.Perm (A.filter λp=>decide (now<p.2)):=by
 have b:=h.pm.filter (λp=>decide (now<p.2))
 rw[List.filter_append]at b
 have d:B.filter (λp=>decide (now<p.2))=[]:=by
  rw[List.filter_eq_nil_iff]
  intro p c
  have:=h.le p c
  simp;omega
 have e:a.filter (λp=>decide (now<p.2))=a:=by
  rw[acJ]
  intro p c
  simpa using f p c
 rw[d,e]at b
 exact b.symm
theorem xu(q:Nat)(A:List (ByteArray×Int))(T:ax)(h:QI q A T)(now:Int)(R:av):
  Spec prog 132 [pT q,.int .i64 now] R [T] λv H'=>∃T' To B A',H'=[T',To]/\OS 9 1 bB v (B.map (·.1)) To/\QI q A' T'/\pY A now B A'/\∀p∈A',now<p.2:=by
 refine Spec.dg (H':=[T,[]]) (by simp) ?_
 refine Spec.body func132 rfl results132 ntmps132 rfl ?_
 refine .sr<|.ag rfl<|.z<|.ag rfl<|.zs<|.block ?_
 refine .loop (X:=List (ByteArray×Int)×List (ByteArray×Int)×Value×ax×ax) (λy=>QI q y.1 y.2.2.2.1/\OS 9 1 bB y.2.2.1 (y.2.1.map (·.1)) y.2.2.2.2/\pY A now y.2.1 y.1) (λy=>[(0,pT q),(1,.int .i64 now),(5,y.2.2.1)]) (λy=>[y.2.2.2.1,y.2.2.2.2]) (λy=>y.1.length) (A,[],sZ,T,[]) ⟨h,OS.nil,⟨.refl _,by simp,by simp,by simp⟩⟩ kE.c.c.c rH ?_
 rintro⟨g,B,v,Q,To⟩ ⟨u,o,i⟩
 simp only at u o i⊢
 have F:=u
 have b6:=u.len
 have a4:=i.pm.length_eq
 have b4:=h.len
 obtain⟨L,O,M,j,m,Y,W,V,hp,I,n⟩:=u
 obtain⟨vt,i1,ps,hs,pe⟩:=W.read
 have i2:=o.aw
 have b5:g.length=L.length:=by simpa using n.length_eq.symm
 have b2:aT [Q,To] [j,m,To]:=aT.bu (by rw[Y];simp)
 refine .seq<|.sr<|.mo rfl ?_
 refine .aM (Mp q g _ F _ (λp hp=>.inr (by simp[hp]))) (λv N=>?_)
 subst N
 refine .q .gtr<|.mo rfl ?_
 refine .split (t:=10) rfl (λd=>?_) (λd=>?_)
 obtain⟨e,l⟩:∃e,L[0]? =some e:=⟨_,bC (by simp at d;omega)⟩
 have b8:=pe 0 e l
 have px:PS j (eK vt (0*1)) (kq e):=⟨hs.pc l⟩
 refine .sub b2 ?_
 refine .gT d<|.mo rfl<|.gT d<|.nc rfl<|.gT d<|.fa rfl<|.gT d<|.lo rfl<|.gT d<|.q (.cu 0 hs l rfl rfl rfl) ?_
 refine .gT d<|.lo rfl<|.gT d ?_
 refine .nc rfl<|.gT d<|.fa rfl<|.gT d<|.lo rfl<|.gT d<|.mo rfl<|.gT d<|.q .leq<|.q (.aY d) ?_
 refine .zn ?_
 refine .cond rfl (λD=>?_) λD=>?_
 refine .kn<|.block<|.sr<|.mo rfl<|.nc rfl<|.fa rfl<|.q .makeInterface ?_
 refine .bW (LX (qY q O _) m4 L j W e l I (λx=>.iface 225 x.ptr) (TJ q O e) (λL' T' h' _=>yx q _ L' e T' h' _)) (λv j N=>?_)
 obtain⟨rfl,L2,⟨s,C,b0,Z⟩,a1,a7⟩:=N
 obtain⟨c1,b7,c0⟩:=Z.ps
 have b9:PS [(e.b,e.obj C)] (.pointer (some ⟨e.b,0,none⟩)) (e.cells C):=PS.of (E:=224) (fr:=(0,0)) (by simp[XE.obj])
 refine .sub (H':=[s,m,To,[(e.b,e.obj C)]]) (aT.bu (by
  simp only[acw,acC,acD]
  refine(b0.append_right _).trans ?_
  simpa[acL]using(acT (l₁:=[(e.b,e.obj C)]) (l₂:=m++To)).append_left s)) ?_
 refine .q (.tR) ?_
 refine .ag rfl<|.zs ?_
 refine .df 8 mixed (by kernel_rfl) ?_
 conv=>arg 6;dsimp only[List.take]
 refine .mo rfl<|.nc rfl<|.fa rfl<|.lo rfl<|.mo rfl ?_
 refine .nc rfl<|.fa rfl<|.lo rfl<|.nil ?_
 obtain⟨g1,U⟩:=xF V.nd hp n a1
 refine .delete V rfl (show _=some (Value.string e.key)from rfl) (λS a5 _=>?_)
 refine .zn<|.region<|.mo rfl<|.mo rfl<|.nc rfl<|.fa rfl<|.lo rfl ?_
 refine .ig (λb3=>?_)
 refine .append o (RS.lits (xs:=[e.key]) rfl (by simp[bB]) (by simp[bB,aw])) (by simp at a4⊢;omega) (λv3 a3 a6=>?_)
 refine .ag rfl<|.nil<|bz ?_
 ·have a0:e.at_<=now:=by simpa using D
  have a9:∀r∈g,oU r e.ka=false:=λr b1=>by
   obtain⟨f,G,rfl⟩:=acf.1 (n.mem_iff.2 b1)
   obtain⟨k,J,H⟩:=acE.1 G
   rw[<-Av]
   exact I.least m4 l k f (by rw[bC J,H])
  have K:g.Perm (e.ka::dO e.key g):=n.symm.trans ((a1.map _).trans (U.cons _))
  have a8:e.ka∈g:=K.mem_iff.2 (by simp)
  refine bf (dO e.key g,B++[e.ka],v3,s++S,a3) ⟨⟨L2,O,_,s,S,rfl,Z,a5,g1,a7,U⟩,by rw[acm];exact a6,⟨?_,?_,?_,?_⟩⟩ ?_ kE.c.c.c ?_
  ·refine i.pm.trans ?_
   simp only[acL]
   exact K.append_left B
  ·rw[List.pairwise_append]
   exact⟨i.ord,by simp,λp hp r w=>by simp at w;subst w;exact i.front p hp _ a8⟩
  ·intro p hp
   rcases acF.1 hp with hp|hp
   ·exact i.le p hp
   ·simp at hp;subst hp;exact a0
  ·intro p hp r w
   have a2:r∈g:=(acy.1 w).1
   rcases acF.1 hp with hp|hp
   ·exact i.front p hp r a2
   ·simp at hp;subst hp;exact a9 r a2
  ·have:=K.length_eq
   simp at this⊢;omega
  ·exact(aI [1,1,1]).trans (aT.bu (by simp[take,aZ]))
 refine .exit<|bD<|bH<|bF<|aD<|.sr<|.mo rfl<|.az rfl ?_
 refine .ret (aR _ (.one (.tmp rfl)) (aT.bu (H':=[j++m,To]) (by simp)) ?_)
 ·refine⟨j++m,To,B,g,rfl,o,Y▸F,i,λp hp=>?_⟩
  have a0:now<e.at_:=by simpa using D
  obtain⟨f,G,rfl⟩:=acf.1 (n.mem_iff.2 hp)
  obtain⟨k,J,H⟩:=acE.1 G
  have h3:=I.least m4 l k f (by rw[bC J,H])
  rw[ac0,ne_eq,oN]at h3
  have h4:e.at_<=f.at_:=by omega
  show now<f.at_
  omega
 refine .gF d<|.gF d<|.gF d<|.gF d<|.gF d<|.gF d<|.gF d<|.gF d<|.gF d<|.gF d<|.gF d<|.q (.aS d) ?_
 refine .zn<|.bZ<|.exit<|bD<|bH<|bF<|aD<|.sr<|.mo rfl<|.az rfl ?_
 refine .ret (aR _ (.one (.tmp rfl)) rH ?_)
 ·have hz:g=[]:=by
   rcases g with _|⟨a,r⟩
   ·rfl
   ·simp at d
  exact⟨Q,To,B,g,rfl,o,F,i,by rw[hz];simp⟩
def short(s:ByteArray)(n:Nat):ByteArray:=if n<s.size then s.extract 0 n else s
theorem sP{s:ByteArray}{n:Nat}:(short s n).size<=n:=by
 unfold short
 split
 ·rw[ByteArray.size_extract];omega
 ·omega
theorem mx(s:ByteArray)(n:Nat)(R:av):Spec prog 15 [.string s,.int .i64 n] R [] λv H'=>v=.string (short s n)/\H'=[]:=by
 refine Spec.body func15 rfl results15 ntmps15 rfl ?_
 refine .sr<|.ag rfl<|.zs<|.sr<|.mo rfl<|.q .fG<|.mo rfl<|.q .gtr<|.zn ?_
 refine .cond rfl (λa=>?_) λa=>?_
 refine .sr<|.mo rfl<|.mo rfl ?_
 have b:n<s.size:=by simp at a;omega
 refine .q (.sS (s:=s) 0 n rfl ⟨_,rfl⟩ (by omega) (by omega)) ?_
 refine .az rfl ?_
 refine .ret (aL (aO rfl ?_))
 ·exact⟨by unfold short;rw[ab7 (by simp at a;omega)],rfl⟩
 refine .kn<|.sr<|.mo rfl<|.az rfl ?_
 refine .ret (aO rfl ?_)
 ·exact⟨by unfold short;rw[ab8 (by simp at a;omega)],rfl⟩
theorem nm(v:Value)(xs:List ByteArray)(R:av)(h:RS R 1 bB v xs)(i:xs.length<=1000000):
  Spec prog 117 [v] R [] λv' H'=>∃T,H'=[T]/\OS 9 1 bB v' xs T:=by
 obtain⟨b,d,rfl⟩:=h.val
 have f:∀H,RS (Rx R H) 1 bB (.slice b xs.length d) xs:=λH=>h.rx
 refine Spec.dg (H':=[[]]) (by simp) ?_
 refine Spec.body func117 rfl results117 ntmps117 rfl ?_
 refine .sr<|.ag rfl<|.zs<|.sr<|.mo rfl<|.q (.AA rfl rfl) ?_
 refine .zn ?_
 refine .cond rfl (λa=>?_) λa=>?_
 refine .sr<|.az rfl ?_
 refine .ret (aL (aR _ (.one (.tmp rfl)) (.one [0] _) ?_))
 ·obtain rfl:b=none:=by simpa using a
  have:=h.Lh
  subst this
  exact⟨[],rfl,OS.nil⟩
 refine .kn<|.sr ?_
 refine .zu (λg=>?_)
 refine .mo rfl ?_
 refine .append (OS.empty (enc:=bB) (sz:=1)) (f _) (by simp;omega) (λv' c e=>?_)
 refine .az rfl ?_
 refine .ret (aR _ (.one (.tmp rfl)) (.one [0] _) ?_)
 ·exact⟨c,by simp[take],by simpa using e⟩
theorem RS.nQ{α:Type}{R:av}{sz:Nat}{enc:α->List Value}:RS R sz enc (sZ) ([]:List α):=⟨by simp,by simp,none,0,rfl,by simp,by simp,.inl rfl⟩
def texts(l:List ByteArray)(n k:Nat):List ByteArray:=(l.take n).map λs=>short s k
theorem pC(v:Value)(l:List ByteArray)(n k:Nat)(C:n<=1000000)(R:av)(h:RS R 1 bB v l):
  Spec prog 40 [v,.int .i64 n,.int .i64 k] R [] λv' H'=>∃T,H'=[T]/\OS 9 1 bB v' (texts l n k) T:=by
 have B:=h.le
 refine Spec.dg (H':=[[]]) (by simp) ?_
 refine Spec.body func40 rfl results40 ntmps40 rfl ?_
 refine .sr<|.ag rfl<|.z<|.ag rfl<|.zs<|.sr<|.az rfl<|.block ?_
 refine .loop (X:=Nat×Value×ax) (λy=>(y.1<=l.length/\y.1<=n)/\OS 9 1 bB y.2.1 (texts l y.1 k) y.2.2) (λy=>[(0,v),(1,iN n),(2,iN k),(7,y.2.1),(8,iN y.1)]) (λy=>[y.2.2]) (λy=>l.length-y.1) (0,sZ,[]) ⟨⟨by omega,by omega⟩,OS.nil⟩ kE.c.c.c.c.c rH ?_
 rintro⟨i,w,T⟩ ⟨⟨m,o⟩,b⟩
 simp only at m o b⊢
 have E:=b.aw
 refine .seq<|.sr<|.mo rfl<|.mo rfl<|.q (.dl h) ?_
 refine .q .lss<|.mo rfl ?_
 refine .split (t:=13) rfl (λa=>?_) (λa=>?_)
 refine .gT a<|.mo rfl<|.gT a<|.mo rfl<|.gT a<|.q .lss<|.q (.aY a) ?_
 refine .zn ?_
 refine .cond rfl (λd=>?_) λd=>?_
 have p:i<l.length/\i<n:=by simp at a d;omega
 obtain⟨z,g⟩:∃z,l[i]? =some z:=⟨_,bC p.1⟩
 have D:(texts l i k).length<=i:=by simp[texts];omega
 have r:texts l (i+1) k=texts l i k++[short z k]:=by unfold texts;rw[acz,g];simp
 refine .kn<|.seq<|.block<|.region<|.mo rfl<|.mo rfl<|.mo rfl ?_
 refine .cu i h g (λF=>?_)
 refine .lo rfl<|.mo rfl ?_
 refine .aM (mx z k _) (λu s=>?_)
 subst s
 refine .ig (λA=>?_)
 refine .append b (RS.lits (xs:=[short z k]) rfl (by simp[bB]) (by simp[bB,aw])) (by simp;omega) (λx j f=>?_)
 rw[<-r]at f
 refine .ag rfl<|.nil<|bz<|aD<|.region<|.mo rfl ?_
 refine .q (.inc (n:=i) (by omega)) ?_
 refine .ag rfl<|.nil ?_
 ·exact bf (i+1,x,j) ⟨⟨by simp only;omega,by simp only;omega⟩,f⟩ (by simp only;omega) kE.c.c.c.c.c (aI [1])
 refine .exit<|bD<|bH<|bF<|aD<|.sr<|.mo rfl<|.az rfl ?_
 refine .ret (aR _ (.one (.tmp rfl)) rH ?_)
 ·refine⟨_,rfl,?_⟩
  have:i=n\/i=l.length:=by
   first
    |(simp at a d;omega)
    |(simp at a;omega)
  rcases this with e|e
  ·rw[<-e];exact b
  ·have:texts l n k=texts l i k:=by unfold texts;rw[e,ach,ac1 (by omega)]
   rw[this];exact b
 refine .gF a<|.gF a<|.gF a<|.q (.aS a) ?_
 refine .zn<|.bZ<|.exit<|bD<|bH<|bF<|aD<|.sr<|.mo rfl<|.az rfl ?_
 refine .ret (aR _ (.one (.tmp rfl)) rH ?_)
 ·refine⟨_,rfl,?_⟩
  have:i=n\/i=l.length:=by
   first
    |(simp at a d;omega)
    |(simp at a;omega)
  rcases this with e|e
  ·rw[<-e];exact b
  ·have:texts l n k=texts l i k:=by unfold texts;rw[e,ach,ac1 (by omega)]
   rw[this];exact b
theorem yq{l:List ByteArray}{n k:Nat}:∀s∈texts l n k,s.size<=k:=by
 intro s a
 obtain⟨t,_,rfl⟩:=acf.1 a
 exact sP
def eg(T:ax):av:=λb o=>(b,o)∈T/\∃c E,o=.cells c E (0,0)
theorem OS.eg{α:Type}{E sz:Nat}{enc:α->List Value}{v:Value}{xs:List α}{T:ax}(h:OS E sz enc v xs T):RS (Go.Proofs.YtkkmbiojicgobaaGreatDoor.eg T) sz enc v xs:=
 ⟨h.len,h.one,by
  rcases h.h with⟨rfl,rfl,rfl⟩|⟨b,a,c,d,rfl,rfl,e,f,i,g⟩
  ·exact⟨none,0,rfl,Nat.le_refl _,Nat.zero_le _,.inl rfl⟩
  ·exact⟨some ⟨b,a,none⟩,d,rfl,e,f,.inr ⟨b,a,c,E,(0,0),rfl,⟨by simp,c,E,rfl⟩,g⟩⟩⟩
theorem mO{A B:ax}{b:Nat}{o:Obj}(h:eg A b o):eg (A++B) b o:=⟨List.mem_append_left B h.1,h.2⟩
theorem oa{A B:ax}{b:Nat}{o:Obj}(h:eg B b o):eg (A++B) b o:=⟨List.mem_append_right A h.1,h.2⟩
section
variable{κ β γ:Type}
def dP(f:β->γ)(A:List (κ×β)):List (κ×γ):=A.map λp=>(p.1,f p.2)
theorem kO{f:β->γ}{A:List (κ×β)}:(dP f A).map (·.1)=A.map (·.1):=by rw[dP,acx];rfl
theorem mg{f:β->γ}{A B:List (κ×β)}(h:A.Perm B):(dP f A).Perm (dP f B):=h.map _
theorem mK{f:β->γ}{A:List (κ×β)}:(dP f A).length=A.length:=by simp[dP]
theorem oW{f:β->γ}{A:List (κ×β)}{p:κ×β}(h:p∈A):(p.1,f p.2)∈dP f A:=acf.2 ⟨p,h,rfl⟩
theorem qx{f:β->γ}{A:List (κ×β)}{p:κ×γ}(h:p∈dP f A):∃q∈A,p=(q.1,f q.2):=let ⟨q,h1,h2⟩:=acf.1 h;⟨q,h1,h2.symm⟩
variable [DecidableEq κ]
theorem nI{f:β->γ}{A:List (κ×β)}{k:κ}:dP f (dO k A)=dO k (dP f A):=by unfold dP dO;rw[List.filter_map];rfl
theorem mh{f:β->γ}{A:List (κ×β)}{k:κ}{x:β}:dP f (cT k x A)=cT k (f x) (dP f A):=by
 unfold cT;rw[<-nI];simp[dP]
theorem nJ{f:β->γ}{k:κ}:∀{A:List (κ×β)},aU k (dP f A)=(aU k A).map f
 |[]=>rfl
 |(k',x)::A=>by
  have a:=nJ (f:=f) (k:=k) (A:=A)
  simp only[dP,acs,aU]at a⊢
  split
  ·rfl
  ·exact a
theorem nb{k:κ}{x:β}:∀{M:List (κ×β)},(M.map (·.1)).Nodup->(iB k x M).Perm (cT k x M)
 |[],_=>by simp[iB,cT,dO]
 |(k',x')::M,hn=>by
  rw[acs,acu]at hn
  simp only[iB]
  split
  ·rename_i h
   subst h
   unfold cT
   rw[oV hn.1]
   exact acT (l₁:=[(k,x)])
  ·rename_i h
   have a:=(nb (k:=k) (x:=x) hn.2).cons (k',x')
   refine a.trans (List.Perm.of_eq ?_)
   unfold cT dO
   have:decide ((k',x').1≠k)=true:=ab9 λe=>h e.symm
   rw[acn,ab7 this]
   rfl
theorem o2{k:κ}{x:β}{M:List (κ×β)}(a:(M.map (·.1)).Nodup){p:κ×β}(h:p∈iB k x M):p∈M\/p=(k,x):=by
 have:=(nb a).mem_iff.1 h
 rcases acF.1 this with h|h
 ·exact .inl (acy.1 h).1
 ·exact .inr (by simpa using h)
theorem nK{k:κ}{x:β}{A:List (κ×β)}{p:κ×β}(h:p∈cT k x A):p∈A/\p.1≠k\/p=(k,x):=by
 rcases acF.1 h with h|h
 ·have:=acy.1 h
  exact .inl ⟨this.1,by simpa using this.2⟩
 ·exact .inr (by simpa using h)
theorem vR{k:κ}{x:β}{A:List (κ×β)}(a:(A.map (·.1)).Nodup)(h:aU k A=some x):(cT k x A).Perm A:=by
 obtain⟨X,Y,rfl⟩:=List.append_of_mem (fH h)
 unfold cT
 rw[vQ a]
 exact(List.perm_append_singleton _ _).trans acP.symm
end
theorem filter_one{k:ByteArray}:∀{l:List ByteArray},l.Nodup->k∈l->l.Perm (k::l.filter λk'=>decide (k'≠k))
 |[],_,h=>by cases h
 |x::l,hn,h=>by
  have b:=acu.1 hn
  by_cases a:x=k
  ·subst a
   have:l.filter (λk'=>decide (k'≠x))=l:=acJ.2 λy f=>by
    have:y≠x:=λe=>b.1 (e▸f)
    simp[this]
   rw[acn]
   simp only[ne_eq,not_true_eq_false,decide_false,acQ,acB]
   have c:l.filter (λk'=> !decide (k'=x))=l:=by simpa using this
   simp only[decide_not,c]
   exact .refl _
  ·have d:k∈l:=by
    rcases acv.1 h with e|h
    ·exact absurd e.symm a
    ·exact h
   have:=(filter_one b.2 d).cons x
   rw[acn,ab7 (by simp[a])]
   exact this.trans (List.Perm.swap k x _)
structure Tok where
 text:ByteArray
 kind:Int
 aE:ByteArray
 user:ByteArray
 scopes:List ByteArray
 family:Int
 cq:Int
 rev:Int
 used:Bool
abbrev TP:Type:=Value×Tok
def bE(p:TP):List Value:=[.string p.2.text,.int .i64 p.2.kind,.string p.2.aE,.string p.2.user,p.1,.int .i64 p.2.family,.int .i64 p.2.cq,.int .u64 p.2.rev,.bool p.2.used]
def dS(R:av)(p:TP):Prop:=RS R 1 bB p.1 p.2.scopes
theorem dS.mono{R R':av}{p:TP}(h:dS R p)(a:∀b o,R b o->R' b o):dS R' p:=RS.mono h a
theorem dS.bG{R:av}{p:TP}(h:dS R p):∀u∈bE p,aw u=true:=by
 have b:=h.aw.h
 intro u a
 simp only[bE,acv,acG,or_false]at a
 rcases a with rfl|rfl|rfl|rfl|rfl|rfl|rfl|rfl|rfl<;>first|rfl|assumption
def Tok.eo(t:Tok):Prop:=t.scopes.length<=1000000
def Tok.zero:Tok:=⟨⟨#[]⟩,0,⟨#[]⟩,⟨#[]⟩,[],0,0,0,false⟩
def tz:TP:=(sZ,Tok.zero)
theorem dS.zero(R:av):dS R tz:=RS.nQ
theorem pB(w:Value)(t:Tok)(R:av)(h:dS R (w,t))(c:t.eo):Spec prog 45 [.agg (bE (w,t)).toArray] R [] λv H'=>∃T,H'=[T]/\∃w',v=.agg (bE (w',t)).toArray/\dS (eg T) (w',t):=by
 have k:bJ (bE (w,t)):=⟨h.bG⟩
 have i:One w:=h.aw
 have d:RS R 1 bB w t.scopes:=h
 refine Spec.body func45 rfl results45 ntmps45 rfl ?_
 refine .sr ?_
 refine .dv rfl (λf=>?_)
 refine .cN (λg=>?_)
 refine .z<|.fa rfl<|.lo rfl ?_
 refine .da (nm w t.scopes _ d.rx c) (λe b a=>?_)
 have j:=a.aw
 refine .fa rfl<|.cJ rfl rfl<|.z<|.q (.bK rfl)<|.ct rfl rfl<|.zn ?_
 refine .ret (aR _ (.one (.ey rfl rfl)) (.one [0] _) ?_)
 ·exact⟨b,by simp[take],e,rfl,a.eg⟩
def VJ(g:Nat)(A:List (ByteArray×Tok))(last:Int)(Td T0:ax):Prop:=∃vm M q Tm Tq,T0=(g,.cells [vm,pT q,.int .i64 last].toArray 102 (0,0))::(Tm++Tq)/\
 MS (λs:ByteArray=>.string s) (λp:TP=>.agg (bE p).toArray) vm M Tm/\(∀p∈M,p.1=p.2.2.text/\dS (eg Td) p.2/\p.2.2.eo)/\(dP (λp:TP=>p.2) M).Perm A/\QI q (dP (λt:Tok=>t.cq) A) Tq
def VI(g:Nat)(A:List (ByteArray×Tok))(last:Int)(T:ax):Prop:=∃Td T0,T=T0++Td/\VJ g A last Td T0
theorem OK{M:List (ByteArray×TP)}{A:List (ByteArray×Tok)}(b:(M.map (·.1)).Nodup)(a:(dP (λp:TP=>p.2) M).Perm A):(A.map (·.1)).Nodup:=((a.map (·.1)).nodup_iff).1 (by rw[kO];exact b)
theorem qZ{M:List (ByteArray×TP)}{A:List (ByteArray×Tok)}{c:ax}(i:(M.map (·.1)).Nodup)(h:∀p∈M,p.1=p.2.2.text/\dS (eg c) p.2/\p.2.2.eo)(g:(dP (λp:TP=>p.2) M).Perm A)(k:ByteArray):
  ∃w t,((aU k M).map λp:TP=>Value.agg (bE p).toArray).getD (.agg (bE tz).toArray)=.agg (bE (w,t)).toArray/\dS (eg c) (w,t)/\t.eo/\(aU k M).isSome=(aU k A).isSome/\(aU k A).getD Tok.zero=t/\(∀u,aU k A=some u->u=t/\t.text=k/\aU k M=some (w,t)):=by
 have a:aU k A=(aU k M).map (·.2):=by rw[<-nP g (by rw[kO];exact i),nJ]
 cases hm:aU k M with
 |none=>rw[hm]at a;rw[a];exact⟨_,_,rfl,dS.zero _,by simp[Tok.eo,Tok.zero],rfl,rfl,λu b=>by cases b⟩
 |some p=>
  obtain⟨w,t⟩:=p
  rw[hm]at a;rw[a]
  obtain⟨d,e,f⟩:=h _ (fH hm)
  exact⟨w,t,rfl,e,f,rfl,rfl,λu b=>by cases b;exact⟨rfl,d.symm,rfl⟩⟩
theorem VI.keys{g:Nat}{A:List (ByteArray×Tok)}{last:Int}{T:ax}(h:VI g A last T):∀p∈A,p.1=p.2.text:=by
 obtain⟨e,_,rfl,l,M,q,f,i,rfl,j,b,a,k⟩:=h
 intro p c
 obtain⟨x,d,rfl⟩:=qx (a.mem_iff.2 c)
 exact(b x d).1
theorem VI.nd{g:Nat}{A:List (ByteArray×Tok)}{last:Int}{T:ax}(h:VI g A last T):(A.map (·.1)).Nodup:=by
 obtain⟨c,_,rfl,j,M,q,d,e,rfl,b,f,a,i⟩:=h
 exact OK b.nd a
theorem OL(R:av):Spec prog 20 [] R [] λv H'=>∃T,H'=[T]/\∃g,v=pT g/\VI g [] 0 T:=by
 refine Spec.body func20 rfl results20 ntmps20 rfl ?_
 refine .sr<|.ag rfl<|.z ?_
 refine .makeMap (λa=>?_)
 refine .da (xv _) (λu b e=>?_)
 obtain⟨q,rfl,d⟩:=e
 refine .q .dI ?_
 refine .dv rfl (λc=>?_)
 refine .az rfl ?_
 refine .ret (aR _ (.one (.tmp rfl)) ((aI [0,1,0]).trans (aT.bu (H':=[(c,.cells [.map (some a),pT q,.int .i64 0].toArray 102 (0,0))::([(a,.map #[] 0)]++b)++[]]) (by simp[take,aZ];exact .refl _))) ?_)
 ·exact⟨_,rfl,_,rfl,[],_,rfl,.map (some a),[],q,_,b,rfl,MS.nil,by simp,.refl _,d⟩
theorem lV(g b:Nat)(x y:Value)(R:av) [pc:PC R (pT g) [.map (some b),x,y]]:Spec prog 44 [pT g] R [] λv H'=>v=.bool true/\H'=[]:=by
 refine Spec.body func44 rfl results44 ntmps44 rfl ?_
 refine .sr<|.ag rfl<|.z<|.mo rfl<|.q (.qA rfl rfl) ?_
 refine .mo rfl<|.gt rfl ?_
 refine .mo rfl<|.gt rfl ?_
 refine .nc rfl<|.gt rfl ?_
 refine .fa rfl<|.gt rfl ?_
 refine .lo rfl<|.gt rfl ?_
 refine .q (.qz rfl rfl) ?_
 refine .q .ca<|.az rfl ?_
 refine .ret (aO rfl ?_)
 ·exact⟨rfl,rfl⟩
theorem OJ(g:Nat)(A:List (ByteArray×Tok))(last:Int)(T:ax)(h:VI g A last T)(o:0<=last)(f:last<=4611686018427387904)(R:av):
  Spec prog 77 [pT g] R [T] λv H'=>∃T',H'=[T']/\v=.int .i64 (last+1)/\VI g A (last+1) T':=by
 obtain⟨a,_,rfl,n,M,q,c,d,rfl,i,k,j,l⟩:=h
 obtain⟨e,rfl⟩:∃b,n=.map (some b):=by obtain⟨b,es,clock,f,_⟩:=i;exact⟨b,f⟩
 refine Spec.dg (H':=[bl g [.map (some e),pT q,.int .i64 last] 102,c++(d++a)]) (by simp) ?_
 refine Spec.body func77 rfl results77 ntmps77 rfl ?_
 refine .sr<|.ag rfl<|.zs<|.sr<|.mo rfl ?_
 refine .aM (lV g e _ _ _) (λv m=>?_)
 subst m
 refine .q .not<|.zn<|.bZ<|.kn<|.sr<|.mo rfl<|.nc rfl<|.fa rfl<|.lo rfl ?_
 refine .q (.i64 (last+1) .add ⟨by omega,by omega,by omega⟩) ?_
 refine .nc rfl<|.fa rfl<|.cJ rfl rfl<|.z<|.mo rfl<|.nc rfl<|.fa rfl<|.lo rfl<|.az rfl ?_
 refine .ret (aR _ (.one (.tmp rfl)) (.one [0,0] _) ?_)
 ·exact⟨((g,.cells [.map (some e),pT q,.int .i64 (last+1)].toArray 102 (0,0))::(c++d))++a,by simp[take,aZ];rfl,rfl,a,_,rfl,_,M,q,c,d,rfl,i,k,j,l⟩
theorem q4(g:Nat)(A:List (ByteArray×Tok))(last:Int)(T:ax)(h:VI g A last T)(R:av)(d:∀p∈T,R p.1 p.2):
  Spec prog 55 [pT g] R [] λv H'=>v=.int .i64 last/\H'=[]:=by
 obtain⟨i,_,rfl,f,M,q,j,k,rfl,c,m,l,n⟩:=h
 obtain⟨a,rfl⟩:∃b,f=.map (some b):=by obtain⟨b,es,clock,h1,_⟩:=c;exact⟨b,h1⟩
 have o:PC R (pT g) [.map (some a),pT q,.int .i64 last]:=PC.of (E:=102) (fr:=(0,0)) (d (g,.cells [.map (some a),pT q,.int .i64 last].toArray 102 (0,0)) (by simp))
 refine Spec.body func55 rfl results55 ntmps55 rfl ?_
 refine .sr<|.ag rfl<|.zs<|.sr<|.mo rfl ?_
 refine .aM (lV g a _ _ _) (λv e=>?_)
 subst e
 refine .q .not<|.zn<|.bZ<|.kn<|.sr<|.mo rfl<|.nc rfl<|.fa rfl<|.lo rfl<|.az rfl ?_
 refine .ret (aO rfl ?_)
 ·exact⟨rfl,rfl⟩
def hU(t:Tok)(last:Int):Bool:=(t.kind==1||t.kind==2)&&decide (1<=t.family)&&decide (t.family<=last)
theorem OO(g:Nat)(x y:Value)(last:Int)(w:Value)(t:Tok)(R:av)(ho:One w) [pc:PC R (pT g) [x,y,.int .i64 last]]:
  Spec prog 207 [pT g,.agg (bE (w,t)).toArray] R [] λv H'=>v=.bool (hU t last)/\H'=[]:=by
 have i:bJ (bE (w,t)):=⟨by
  have f:=ho.h
  intro u d
  simp only[bE,acv,acG,or_false]at d
  rcases d with rfl|rfl|rfl|rfl|rfl|rfl|rfl|rfl|rfl<;>first|rfl|assumption⟩
 refine Spec.body func207 rfl results207 ntmps207 rfl ?_
 refine .sr ?_
 refine .dv rfl (λe=>?_)
 refine .ag rfl<|.zs ?_
 refine .iQ mixed (by kernel_rfl) ?_
 refine .fa rfl<|.lo rfl<|.q .bS<|.mo rfl ?_
 refine .split (t:=8) rfl (λb=>?_) (λb=>?_)
 refine .gF b<|.gF b<|.gF b<|.q (.aY b) ?_
 refine .mo rfl<|.gt rfl ?_
 refine .fa rfl<|.gt rfl ?_
 refine .lo rfl<|.gt rfl ?_
 refine .q .geq<|.q .ca<|.mo rfl ?_
 refine .split (t:=18) rfl (λa=>?_) (λa=>?_)
 refine .gT a<|.fa rfl<|.gT a<|.lo rfl<|.gT a<|.mo rfl<|.gT a ?_
 refine .nc rfl<|.gT a<|.fa rfl<|.gT a<|.lo rfl<|.gT a<|.q .leq<|.q (.aY a) ?_
 refine .az rfl ?_
 refine .ret (aO rfl ?_)
 ·refine⟨acH _ ?_,rfl⟩
  unfold hU
  simp_all<;>omega
 refine .gF a<|.gF a<|.gF a<|.gF a<|.gF a<|.gF a<|.gF a<|.q (.aS a) ?_
 refine .az rfl ?_
 refine .ret (aO rfl ?_)
 ·refine⟨acH _ ?_,rfl⟩
  unfold hU
  simp_all<;>omega
 refine .gT b<|.fa rfl<|.gT b<|.lo rfl<|.gT b<|.q .bS<|.q (.aS b) ?_
 refine .mo rfl ?_
 refine .split (t:=13) rfl (λc=>?_) (λc=>?_)
 refine .gT c<|.fa rfl<|.gT c<|.lo rfl<|.gT c<|.q .geq<|.q (.aY c) ?_
 refine .mo rfl ?_
 refine .split (t:=18) rfl (λa=>?_) (λa=>?_)
 refine .gT a<|.fa rfl<|.gT a<|.lo rfl<|.gT a<|.mo rfl<|.gT a ?_
 refine .nc rfl<|.gT a<|.fa rfl<|.gT a<|.lo rfl<|.gT a<|.q .leq<|.q (.aY a) ?_
 refine .az rfl ?_
 refine .ret (aO rfl ?_)
 ·refine⟨acH _ ?_,rfl⟩
  unfold hU
  simp_all<;>omega
 refine .gF a<|.gF a<|.gF a<|.gF a<|.gF a<|.gF a<|.gF a<|.q (.aS a) ?_
 refine .az rfl ?_
 refine .ret (aO rfl ?_)
 ·refine⟨acH _ ?_,rfl⟩
  unfold hU
  simp_all<;>omega
 refine .gF c<|.gF c<|.gF c<|.q (.aS c) ?_
 refine .mo rfl<|.gX<|.gX<|.gX<|.gX<|.gX<|.gX<|.gX<|.q .bY<|.az rfl ?_
 refine .ret (aO rfl ?_)
 ·refine⟨acH _ ?_,rfl⟩
  unfold hU
  simp_all<;>omega
theorem OM(g:Nat)(A:List (ByteArray×Tok))(last:Int)(T:ax)(h:VI g A last T)(w:Value)(t:Tok)(R:av)(r:dS R (w,t))(n:t.eo)(J:A.length<1000000000):
  Spec prog 208 [pT g,.agg (bE (w,t)).toArray] R [T] λv H'=>∃T',H'=[T']/\v=.tuple #[]/\VI g (cT t.text t A) last T':=by
 obtain⟨d,_,rfl,H,M,q,x,j,rfl,c,z,y,C⟩:=h
 obtain⟨l,rfl⟩:∃b,H=.map (some b):=by obtain⟨b,es,clock,h1,_⟩:=c;exact⟨b,h1⟩
 have L:bJ (bE (w,t)):=⟨r.bG⟩
 refine Spec.dg (H':=[bl g [.map (some l),pT q,.int .i64 last] 102,x,j,d]) (by simp) ?_
 refine Spec.body func208 rfl results208 ntmps208 rfl ?_
 refine .sr ?_
 refine .dv rfl (λI=>?_)
 refine .zs<|.cW [8] mixed ?_
 refine .tO 0 rfl .move<|.tO 1 rfl (.nilCheck rfl)<|.tO 2 rfl (.fieldAddr rfl)<|.tO 3 rfl (.bN rfl)<|.tO 4 rfl (.fieldAddr rfl)<|.tO 5 rfl (.bN rfl)<|.tO 6 rfl (.bK rfl) ?_
 refine .sT 7 rfl ?_
 refine .da (pB w t _ (r.mono λb o a=>.inl a) n) (λv f e=>?_)
 obtain⟨s,rfl,m⟩:=e
 have K:bJ (bE (s,t)):=⟨m.bG⟩
 refine .nil (Next.sub ?_)
 refine .sT 8 rfl ?_
 refine .update (u:=((s,t):TP)) c rfl (show _=some (Value.string t.text)from rfl) rfl (λi B _=>?_)
 refine .nil (Next.mod rfl ?_)
 refine RA.nil (by kernel_rfl) ?_
 refine aD ?_
 refine .df 8 mixed (by kernel_rfl) ?_
 conv=>arg 6;dsimp only[List.take]
 refine .mo rfl<|.nc rfl<|.fa rfl<|.lo rfl<|.fa rfl<|.lo rfl<|.fa rfl<|.lo rfl<|.nil ?_
 refine .bW (xz q _ j C t.text t.cq (by rw[mK];omega) _) (λv k e=>?_)
 obtain⟨rfl,D⟩:=e
 refine .nil<|eh _ .none (.one [2,2,2,2,0] _) ?_
 ·refine⟨((g,.cells [.map (some l),pT q,.int .i64 last].toArray 102 (0,0))::(i++k))++(d++f),by simp[take,aZ],rfl,d++f,_,rfl,_,_,q,i,k,rfl,B,λp hp=>?_,?_,by rw[mh];exact D⟩
  ·rcases o2 c.nd hp with hp|rfl
   ·obtain⟨E,F,G⟩:=z p hp
    exact⟨E,F.mono λb o a=>mO a,G⟩
   ·exact⟨rfl,m.mono λb o a=>oa a,n⟩
  ·exact(mg (nb c.nd)).trans (by rw[mh];exact mL y)
structure bL where
 text:ByteArray
 aE:ByteArray
 user:ByteArray
 uri:ByteArray
 scopes:List ByteArray
 lG:ByteArray
 cq:Int
 family:Int
 used:Bool
abbrev GP:Type:=Value×bL
def bO(p:GP):List Value:=[.string p.2.text,.string p.2.aE,.string p.2.user,.string p.2.uri,p.1,.string p.2.lG,.int .i64 p.2.cq,.int .i64 p.2.family,.bool p.2.used]
def dq(R:av)(p:GP):Prop:=RS R 1 bB p.1 p.2.scopes
theorem dq.mono{R R':av}{p:GP}(h:dq R p)(a:∀b o,R b o->R' b o):dq R' p:=RS.mono h a
theorem dq.bG{R:av}{p:GP}(h:dq R p):∀u∈bO p,aw u=true:=by
 have b:=h.aw.h
 intro u a
 simp only[bO,acv,acG,or_false]at a
 rcases a with rfl|rfl|rfl|rfl|rfl|rfl|rfl|rfl|rfl<;>first|rfl|assumption
theorem Ax{w:Value}{t:bL}(h:One w):bJ (bO (w,t)):=⟨by
 have b:=h.h
 intro u a
 simp only[bO,acv,acG,or_false]at a
 rcases a with rfl|rfl|rfl|rfl|rfl|rfl|rfl|rfl|rfl<;>first|rfl|assumption⟩
def bL.eo(t:bL):Prop:=t.scopes.length<=1000000
def bL.zero:bL:=⟨⟨#[]⟩,⟨#[]⟩,⟨#[]⟩,⟨#[]⟩,[],⟨#[]⟩,0,0,false⟩
def gz:GP:=(sZ,bL.zero)
theorem dq.zero(R:av):dq R gz:=RS.nQ
theorem qt(w:Value)(t:bL)(R:av)(h:dq R (w,t))(c:t.eo):Spec prog 124 [.agg (bO (w,t)).toArray] R [] λv H'=>∃T,H'=[T]/\∃w',v=.agg (bO (w',t)).toArray/\dq (eg T) (w',t):=by
 have k:bJ (bO (w,t)):=⟨h.bG⟩
 have i:One w:=h.aw
 have d:RS R 1 bB w t.scopes:=h
 refine Spec.body func124 rfl results124 ntmps124 rfl ?_
 refine .sr ?_
 refine .dv rfl (λf=>?_)
 refine .cN (λg=>?_)
 refine .z<|.fa rfl<|.lo rfl ?_
 refine .da (nm w t.scopes _ d.rx c) (λe b a=>?_)
 have j:=a.aw
 refine .fa rfl<|.cJ rfl rfl<|.z<|.q (.bK rfl)<|.ct rfl rfl<|.zn ?_
 refine .ret (aR _ (.one (.ey rfl rfl)) (.one [0] _) ?_)
 ·exact⟨b,by simp[take],e,rfl,a.eg⟩
abbrev cB:Type:=ByteArray×ByteArray
def hK(k:cB):List Value:=[.string k.1,.string k.2]
theorem OY(k:cB):fC [.s,.s] (hK k):=⟨acp,acp,acp⟩
theorem OW(k r:cB):jf (hK k) (hK r)=decide (k=r):=by
 obtain⟨a,b⟩:=k
 obtain⟨c,d⟩:=r
 simp only[hK,jf,oy,Prod.mk.injEq]
 rw[acd];simp
instance Pw(k:cB):bJ (hK k):=⟨by simp[hK,aw]⟩
instance Pv:iS prog 169 (λk:cB=>.agg (hK k).toArray):=iS.agg uZ underlying169 rfl OY OW
abbrev WS:Type:=Value×List ByteArray
def GJ(g:Nat)(C:List (cB×List ByteArray))(A:List (ByteArray×bL))(Td T0:ax):Prop:=∃vc MC vm M q Tc Tm Tq,T0=(g,.cells [vc,vm,pT q].toArray 132 (0,0))::(Tc++(Tm++Tq))/\
 (MS (λk:cB=>.agg (hK k).toArray) (λp:WS=>p.1) vc MC Tc/\(∀p∈MC,RS (eg Td) 1 bB p.2.1 p.2.2)/\(dP (λp:WS=>p.2) MC).Perm C)/\
 (MS (λs:ByteArray=>.string s) (λp:GP=>.agg (bO p).toArray) vm M Tm/\(∀p∈M,p.1=p.2.2.text/\dq (eg Td) p.2/\p.2.2.eo)/\(dP (λp:GP=>p.2) M).Perm A/\QI q (dP (λt:bL=>t.cq) A) Tq)
def GI(g:Nat)(C:List (cB×List ByteArray))(A:List (ByteArray×bL))(T:ax):Prop:=∃Td T0,T=T0++Td/\GJ g C A Td T0
theorem Ky{M:List (ByteArray×GP)}{A:List (ByteArray×bL)}(b:(M.map (·.1)).Nodup)(a:(dP (λp:GP=>p.2) M).Perm A):(A.map (·.1)).Nodup:=((a.map (·.1)).nodup_iff).1 (by rw[kO];exact b)
theorem vG{M:List (ByteArray×GP)}{A:List (ByteArray×bL)}{c:ax}(i:(M.map (·.1)).Nodup)(h:∀p∈M,p.1=p.2.2.text/\dq (eg c) p.2/\p.2.2.eo)(g:(dP (λp:GP=>p.2) M).Perm A)(k:ByteArray):
  ∃w t,((aU k M).map λp:GP=>Value.agg (bO p).toArray).getD (.agg (bO gz).toArray)=.agg (bO (w,t)).toArray/\dq (eg c) (w,t)/\t.eo/\(aU k M).isSome=(aU k A).isSome/\(aU k A).getD bL.zero=t/\(∀u,aU k A=some u->u=t/\t.text=k/\aU k M=some (w,t)):=by
 have a:aU k A=(aU k M).map (·.2):=by rw[<-nP g (by rw[kO];exact i),nJ]
 cases hm:aU k M with
 |none=>rw[hm]at a;rw[a];exact⟨_,_,rfl,dq.zero _,by simp[bL.eo,bL.zero],rfl,rfl,λu b=>by cases b⟩
 |some p=>
  obtain⟨w,t⟩:=p
  rw[hm]at a;rw[a]
  obtain⟨d,e,f⟩:=h _ (fH hm)
  exact⟨w,t,rfl,e,f,rfl,rfl,λu b=>by cases b;exact⟨rfl,d.symm,rfl⟩⟩
theorem GI.keys{g:Nat}{C:List (cB×List ByteArray)}{A:List (ByteArray×bL)}{T:ax}(h:GI g C A T):∀p∈A,p.1=p.2.text:=by
 obtain⟨i,_,rfl,s,e,t,M,q,f,j,k,rfl,⟨o,m,l⟩,n,b,a,r⟩:=h
 intro p c
 obtain⟨x,d,rfl⟩:=qx (a.mem_iff.2 c)
 exact(b x d).1
theorem GI.nd{g:Nat}{C:List (cB×List ByteArray)}{A:List (ByteArray×bL)}{T:ax}(h:GI g C A T):(A.map (·.1)).Nodup:=by
 obtain⟨e,_,rfl,o,c,p,M,q,d,f,i,rfl,⟨m,l,j⟩,b,k,a,n⟩:=h
 exact Ky b.nd a
theorem GI.Lb{g:Nat}{C:List (cB×List ByteArray)}{A:List (ByteArray×bL)}{T:ax}(h:GI g C A T):(C.map (·.1)).Nodup:=by
 obtain⟨e,_,rfl,o,c,p,M,q,d,f,i,rfl,⟨b,l,a⟩,m,k,j,n⟩:=h
 exact((a.map (·.1)).nodup_iff).1 (by rw[kO];exact b.nd)
theorem KB(R:av):Spec prog 19 [] R [] λv H'=>∃T,H'=[T]/\∃g,v=pT g/\GI g [] [] T:=by
 refine Spec.body func19 rfl results19 ntmps19 rfl ?_
 refine .sr<|.ag rfl<|.z ?_
 refine .makeMap (λa=>?_)
 refine .makeMap (λb=>?_)
 refine .da (xv _) (λu c f=>?_)
 obtain⟨q,rfl,e⟩:=f
 refine .q .dI ?_
 refine .dv rfl (λd=>?_)
 refine .az rfl ?_
 refine .ret (aR _ (.one (.tmp rfl)) ((aI [0,2,1,0]).trans (aT.bu (H':=[(d,.cells [.map (some a),.map (some b),pT q].toArray 132 (0,0))::([(a,.map #[] 0)]++([(b,.map #[] 0)]++c))++[]]) (by simp[take,aZ];exact .refl _))) ?_)
 ·exact⟨_,rfl,_,rfl,[],_,rfl,.map (some a),[],.map (some b),[],q,_,_,c,rfl,⟨MS.nil,by simp,.refl _⟩,MS.nil,by simp,.refl _,e⟩
theorem mc(g b:Nat)(x y:Value)(R:av) [pc:PC R (pT g) [x,.map (some b),y]]:Spec prog 121 [pT g] R [] λv H'=>v=.bool true/\H'=[]:=by
 refine Spec.body func121 rfl results121 ntmps121 rfl ?_
 refine .sr<|.ag rfl<|.z<|.mo rfl<|.q (.qA rfl rfl) ?_
 refine .mo rfl<|.gt rfl ?_
 refine .mo rfl<|.gt rfl ?_
 refine .nc rfl<|.gt rfl ?_
 refine .fa rfl<|.gt rfl ?_
 refine .lo rfl<|.gt rfl ?_
 refine .q (.qz rfl rfl) ?_
 refine .q .ca<|.az rfl ?_
 refine .ret (aO rfl ?_)
 ·exact⟨rfl,rfl⟩
theorem KF(g:Nat)(C:List (cB×List ByteArray))(A:List (ByteArray×bL))(T:ax)(h:GI g C A T)(w:Value)(t:bL)(R:av)(z:dq R (w,t))(y:t.eo)(X:A.length<1000000000):
  Spec prog 150 [pT g,.agg (bO (w,t)).toArray] R [T] λv H'=>∃T',H'=[T']/\v=.tuple #[]/\GI g C (cT t.text t A) T':=by
 obtain⟨e,_,rfl,j,D,V,M,q,d,E,m,rfl,⟨s,K,I⟩,c,J,H,N⟩:=h
 obtain⟨r,rfl⟩:∃b,V=.map (some b):=by obtain⟨b,G,F,f,_⟩:=c;exact⟨b,f⟩
 have io:bJ (bO (w,t)):=⟨z.bG⟩
 have Z:One j:=⟨by obtain⟨b,G,F,f,_⟩:=s;subst f;rfl⟩
 refine Spec.dg (H':=[bl g [j,.map (some r),pT q] 132,d,E,m,e]) (by simp) ?_
 refine Spec.body func150 rfl results150 ntmps150 rfl ?_
 refine .sr ?_
 refine .dv rfl (λW=>?_)
 refine .zs<|.cW [8] mixed ?_
 refine .tO 0 rfl .move<|.tO 1 rfl (.nilCheck rfl)<|.tO 2 rfl (.fieldAddr rfl)<|.tO 3 rfl (.bN rfl)<|.tO 4 rfl (.fieldAddr rfl)<|.tO 5 rfl (.bN rfl)<|.tO 6 rfl (.bK rfl) ?_
 refine .sT 7 rfl ?_
 refine .da (qt w t _ (z.mono λb o a=>.inl a) y) (λv k i=>?_)
 obtain⟨B,rfl,x⟩:=i
 have Y:bJ (bO (B,t)):=⟨x.bG⟩
 refine .nil (Next.sub ?_)
 refine .sT 8 rfl ?_
 refine .update (u:=((B,t):GP)) c rfl (show _=some (Value.string t.text)from rfl) rfl (λl L _=>?_)
 refine .nil (Next.mod rfl ?_)
 refine RA.nil (by kernel_rfl) ?_
 refine aD ?_
 refine .df 8 mixed (by kernel_rfl) ?_
 conv=>arg 6;dsimp only[List.take]
 refine .mo rfl<|.nc rfl<|.fa rfl<|.lo rfl<|.fa rfl<|.lo rfl<|.fa rfl<|.lo rfl<|.nil ?_
 refine .bW (xz q _ m N t.text t.cq (by rw[mK];omega) _) (λv n i=>?_)
 obtain⟨rfl,O⟩:=i
 refine .nil<|eh _ .none (.one [2,2,2,2,2,0] _) ?_
 ·refine⟨((g,.cells [j,.map (some r),pT q].toArray 132 (0,0))::(d++(l++n)))++(e++k),by simp[take,aZ],rfl,e++k,_,rfl,_,D,_,_,q,d,l,n,rfl,⟨s,λp hp=>(K p hp).mono λb o a=>mO a,I⟩,L,λp hp=>?_,?_,by rw[mh];exact O⟩
  ·rcases o2 c.nd hp with hp|rfl
   ·obtain⟨Q,S,U⟩:=J p hp
    exact⟨Q,S.mono λb o a=>mO a,U⟩
   ·exact⟨rfl,x.mono λb o a=>oa a,y⟩
  ·exact(mg (nb c.nd)).trans (by rw[mh];exact mL H)
def bL.fresh(t:bL):bL:=⟨t.text,t.aE,t.user,t.uri,t.scopes,t.lG,t.cq,t.family,false⟩
def dr(A:List (ByteArray×bL))(t:bL):Int×List (ByteArray×bL):=
 if(aU t.text A).isSome then(22,A)else if 4096<=A.length then(8,A)else(0,cT t.text t.fresh A)
theorem Kz(g:Nat)(C:List (cB×List ByteArray))(A:List (ByteArray×bL))(T:ax)(h:GI g C A T)(w:Value)(t:bL)(R:av)(k:dq R (w,t))(I:t.eo):
  Spec prog 76 [pT g,.agg (bO (w,t)).toArray] R [T] λv H'=>∃T',H'=[T']/\v=.int .i64 (dr A t).1/\GI g C (dr A t).2 T':=by
 have f:=h
 obtain⟨o,_,rfl,m,O,N,M,q,n,p,r,rfl,⟨F,V,U⟩,c,E,s,W⟩:=h
 obtain⟨d,rfl⟩:∃b,N=.map (some b):=by obtain⟨b,D,B,i,_⟩:=c;exact⟨b,i⟩
 have io:bJ (bO (w,t)):=⟨k.bG⟩
 have iw:One w:=k.aw
 have ic:One m:=⟨by obtain⟨b,D,B,i,_⟩:=F;subst i;rfl⟩
 have Y:M.length=A.length:=by simpa[mK]using s.length_eq
 obtain⟨x,u,K,H,X,L,_,_⟩:=vG c.nd E s t.text
 have Z:bJ (bO (x,u)):=⟨H.bG⟩
 refine Spec.dg (H':=[bl g [m,.map (some d),pT q] 132,n,p,r,o]) (by simp) ?_
 refine Spec.body func76 rfl results76 ntmps76 rfl ?_
 refine .sr ?_
 refine .dv rfl (λQ=>?_)
 refine .ag rfl<|.zs<|.sr<|.mo rfl ?_
 refine .aM (mc g d _ _ _) (λv l=>?_)
 subst l
 refine .q .not<|.zn<|.bZ<|.kn<|.seq<|.seq<|.cW [11] mixed ?_
 refine .tO 0 rfl .move<|.tO 1 rfl (.nilCheck rfl)<|.tO 2 rfl (.fieldAddr rfl)<|.tO 3 rfl (.bN rfl)<|.tO 4 rfl (.fieldAddr rfl)<|.tO 5 rfl (.bN rfl) ?_
 refine .eE 6 rfl (aP.cast (v':=.tuple [.agg (bO (x,u)).toArray,.bool (aU t.text A).isSome].toArray) (.kP c.rx rfl (show _=some (Value.string t.text)from rfl)) (by rw[<-L, <-K];rfl)) (by kernel_rfl) ?_
 refine .tO 7 rfl .move<|.tO 8 rfl .extract<|.tK 9 rfl .extract ?_
 refine .sT 10 rfl ?_
 refine .cN (λS=>?_)
 refine .nil (Next.sub ?_)
 refine .sT 11 rfl ?_
 refine .ct rfl rfl ?_
 refine .nil (Next.mod rfl ?_)
 refine .tK 12 rfl .assign ?_
 refine RA.nil (by kernel_rfl) ?_
 refine aD<|.sr<|.mo rfl<|.zn ?_
 refine .cond rfl (λa=>?_) λa=>?_
 refine .sr<|.az rfl ?_
 refine .ret (aL (aR _ (.one (.tmp rfl)) (.one [2,2,2,2,2] _) ?_))
 ·have e:dr A t=(22,A):=by unfold dr;rw[ab7 a]
  rw[e];exact⟨_,by simp[take,aZ],rfl,f⟩
 refine .kn<|.seq<|.sr<|.mo rfl<|.nc rfl<|.fa rfl<|.lo rfl<|.q (.r9 c.rx rfl) ?_
 refine .q .geq<|.zn ?_
 refine .cond rfl (λj=>?_) λj=>?_
 refine .sr<|.az rfl ?_
 refine .ret (aL (aR _ (.one (.tmp rfl)) (.one [2,2,2,2,2] _) ?_))
 ·have e:dr A t=(8,A):=by unfold dr;rw[ab8 (by rw[a];simp),ab7 (by have:=bx j;omega)]
  rw[e];exact⟨_,by simp[take,aZ],rfl,f⟩
 have J:¬4096<=A.length:=by have:=bo j;omega
 refine .kn<|.sr<|.fa rfl<|.cJ rfl rfl<|.z<|.mo rfl<|.q (.bK rfl) ?_
 refine .sub (H':=[((g,.cells [m,.map (some d),pT q].toArray 132 (0,0))::(n++(p++r)))++o]) ((aI [2,2,2,2,2]).trans (aT.bu (by simp[take,aZ]))) ?_
 refine .bW (KF g C A _ f w t.fresh _ k I (by omega)) (λv y l=>?_)
 obtain⟨rfl,G⟩:=l
 refine .z<|.az rfl ?_
 refine .ret (aR _ (.one (.tmp rfl)) (.one [0] _) ?_)
 ·have e:dr A t=(0,cT t.text t.fresh A):=by unfold dr;rw[ab8 (by rw[a];simp),ab8 J]
  rw[e];exact⟨y,by simp[take],rfl,G⟩
theorem o1{α:Type}{l:List α}{i:Nat}{x:α}(h:l[i]? =some x)(y:α):y∈l.take (i+1)↔y∈l.take i\/y=x:=by
 rw[acz,h];simp
theorem nR{α:Type}{l:List α}{i:Nat}{x:α}(h:l[i]? =some x):(l.take (i+1)).Nodup↔(l.take i).Nodup/\x∉l.take i:=by
 rw[acz,h,acK]
 simp only[Option.toList_some,acu,acG,not_false_eq_true,List.nodup_nil,and_self,true_and,List.mem_singleton]
 constructor
 ·rintro⟨c,d⟩
  exact⟨c,λj=>d x j x rfl rfl⟩
 ·rintro⟨c,d⟩
  exact⟨c,λa f b g=>by rw[g];exact λe=>d (e▸f)⟩
theorem NA(v:Value)(l:List ByteArray)(s:ByteArray)(R:av)(h:RS R 1 bB v l):
  Spec prog 198 [v,.string s] R [] λu H'=>(∃k:Int,u=.int .i64 k/\(0<=k↔s∈l))/\H'=[]:=by
 have m:=h.le
 refine Spec.body func198 rfl results198 ntmps198 rfl ?_
 refine .sr<|.ag rfl<|.zs<|.sr<|.mo rfl<|.q (.dl h) ?_
 refine .mo rfl<|.zn<|.block ?_
 refine .loop (X:=Nat) (λi=>i<=l.length/\s∉l.take i) (λi=>[(0,v),(1,.string s),(7,.int .i64 l.length),(8,iN i)]) (λ_=>[]) (λi=>l.length-i) 0 ⟨by omega,by simp⟩ kE.c.c.c.c rH ?_
 rintro i ⟨j,e⟩
 refine .sr<|.q .lss<|.zs ?_
 refine .cond rfl (λb=>?_) λb=>?_
 have g:i<l.length:=by simp at b;omega
 obtain⟨z,f⟩:=dN g
 refine .kn<|.seq<|.block<|.sr<|.mo rfl<|.ag rfl<|.z<|.mo rfl<|.mo rfl<|.mo rfl ?_
 refine .cu i h f (λo=>?_)
 refine .lo rfl<|.q .ek<|.zn ?_
 refine .cond rfl (λa=>?_) λa=>?_
 refine .sr<|.mo rfl<|.az rfl ?_
 refine .ret (br (aL (dn (br (aL (aO rfl ?_))))))
 ·have d:s=z:=by simpa using a
  exact⟨⟨_,rfl,by rw[d];simp[bU f]⟩,rfl⟩
 refine .skip<|bz<|aD<|.region ?_
 refine .q (.inc (n:=i) (by omega)) ?_
 refine .mo rfl<|.nil ?_
 ·exact bf (i+1) ⟨by omega,by rw[o1 f];simp at a;simp[e,a]⟩ (by omega) kE.c.c.c.c rH
 refine .exit<|bD<|bH<|bF<|aD<|.sr<|.az rfl ?_
 refine .ret (aO rfl ?_)
 ·have d:i=l.length:=by simp at b;omega
  rw[d,ach]at e
  exact⟨⟨_,rfl,by simp[e]⟩,rfl⟩
theorem qR(v:Value)(l:List ByteArray)(s:ByteArray)(R:av)(h:RS R 1 bB v l):
  Spec prog 144 [v,.string s] R [] λu H'=>u=.bool (decide (s∈l))/\H'=[]:=by
 refine Spec.body func144 rfl results144 ntmps144 rfl ?_
 refine .sr<|.ag rfl<|.z<|.mo rfl<|.mo rfl ?_
 refine .aM (NA v l s _ h.rx) (λu b=>?_)
 obtain⟨k,rfl,a⟩:=b
 refine .q .geq<|.az rfl ?_
 refine .ret (aO rfl ?_)
 ·exact⟨by simp only[a],rfl⟩
theorem nG(v:Value)(l:List ByteArray)(s:ByteArray)(R:av)(h:RS R 1 bB v l):
  Spec prog 114 [v,.string s] R [] λu H'=>u=.bool (decide (s∈l))/\H'=[]:=by
 have m:=h.le
 refine Spec.body func114 rfl results114 ntmps114 rfl ?_
 refine .sr<|.ag rfl<|.zs<|.sr<|.az rfl<|.block ?_
 refine .loop (X:=Nat) (λi=>i<=l.length/\s∉l.take i) (λi=>[(0,v),(1,.string s),(5,iN i)]) (λ_=>[]) (λi=>l.length-i) 0 ⟨by omega,by simp⟩ kE.c.c.c rH ?_
 rintro i ⟨k,f⟩
 refine .seq<|.sr<|.mo rfl<|.mo rfl<|.q (.dl h) ?_
 refine .q .lss<|.zn ?_
 refine .cond rfl (λb=>?_) λb=>?_
 have j:i<l.length:=by simp at b;omega
 obtain⟨z,g⟩:=dN j
 refine .kn<|.seq<|.block<|.sr<|.mo rfl<|.mo rfl ?_
 refine .cu i h g (λo=>?_)
 refine .lo rfl<|.mo rfl<|.q .ek<|.zn ?_
 refine .cond rfl (λa=>?_) λa=>?_
 refine .sr<|.az rfl ?_
 refine .ret (br (aL (dn (br (aL (aO rfl ?_))))))
 ·have d:z=s:=by simpa using a
  exact⟨by rw[ab9 (d▸bU g)],rfl⟩
 refine .skip<|bz<|aD<|.region<|.mo rfl ?_
 refine .q (.inc (n:=i) (by omega)) ?_
 refine .ag rfl<|.nil ?_
 ·exact bf (i+1) ⟨by omega,by rw[o1 g];simp at a;simp only[f,false_or];exact λe=>a e.symm⟩ (by omega) kE.c.c.c rH
 refine .exit<|bD<|bH<|bF<|aD<|.sr<|.az rfl ?_
 refine .ret (aO rfl ?_)
 ·have d:i=l.length:=by simp at b;omega
  rw[d,ach]at f
  exact⟨by rw[acg f],rfl⟩
theorem rJ(v:Value)(l:List ByteArray)(R:av)(h:RS R 1 bB v l):
  Spec prog 141 [v] R [] λu H'=>u=.bool (decide l.Nodup)/\H'=[]:=by
 have s:=h.le
 refine Spec.body func141 rfl results141 ntmps141 rfl ?_
 refine .sr<|.ag rfl<|.zs<|.sr<|.mo rfl<|.q (.dl h) ?_
 refine .mo rfl<|.zn<|.block ?_
 refine .loop (X:=Nat) (λi=>i<=l.length/\(l.take i).Nodup) (λi=>[(0,v),(5,v),(6,.int .i64 l.length),(7,iN i)]) (λ_=>[]) (λi=>l.length-i) 0 ⟨by omega,by simp⟩ kE.c.c.c.c rH ?_
 rintro i ⟨r,d⟩
 refine .sr<|.q .lss<|.zs ?_
 refine .cond rfl (λa=>?_) λa=>?_
 have k:i<l.length:=by simp at a;omega
 obtain⟨z,e⟩:=dN k
 refine .kn<|.seq<|.block<|.sr<|.mo rfl ?_
 refine .cu i h e (λt=>?_)
 refine .lo rfl<|.ag rfl<|.ag rfl<|.z<|.mo rfl<|.mo rfl ?_
 refine .jW 0 i h rfl ⟨_,rfl⟩ (by omega) (by omega) (λp f=>?_)
 rw[List.drop_zero,Nat.sub_zero]at f
 refine .mo rfl ?_
 refine .aM (qR p _ z _ f.rx) (λu m=>?_)
 subst m
 refine .zn ?_
 refine .cond rfl (λb=>?_) λb=>?_
 refine .sr<|.az rfl ?_
 refine .ret (br (aL (dn (br (aL (aO rfl ?_))))))
 ·have o:z∈l.take i:=by simpa using b
  exact⟨by rw[acg (λg:l.Nodup=>((nR e).1 (g.sublist (List.take_sublist _ _))).2 o)],rfl⟩
 refine .skip<|bz<|aD<|.region ?_
 refine .q (.inc (n:=i) (by omega)) ?_
 refine .mo rfl<|.nil ?_
 ·exact bf (i+1) ⟨by omega,(nR e).2 ⟨d,by simpa using b⟩⟩ (by omega) kE.c.c.c.c rH
 refine .exit<|bD<|bH<|bF<|aD<|.sr<|.az rfl ?_
 refine .ret (aO rfl ?_)
 ·have j:i=l.length:=by simp at a;omega
  rw[j,ach]at d
  exact⟨by rw[ab9 d],rfl⟩
theorem td(v:Value)(l:List ByteArray)(R:av)(h:RS R 1 bB v l):
  Spec prog 164 [v] R [] λu H'=>u=.bool (!decide l.Nodup)/\H'=[]:=by
 have s:=h.le
 refine Spec.body func164 rfl results164 ntmps164 rfl ?_
 refine .sr<|.ag rfl<|.zs<|.sr<|.az rfl<|.block ?_
 refine .loop (X:=Nat) (λi=>i<=l.length/\(l.take i).Nodup) (λi=>[(0,v),(3,iN i)]) (λ_=>[]) (λi=>l.length-i) 0 ⟨by omega,by simp⟩ kE.c.c rH ?_
 rintro i ⟨r,d⟩
 refine .seq<|.sr<|.mo rfl<|.mo rfl<|.q (.dl h) ?_
 refine .q .lss<|.zn ?_
 refine .cond rfl (λa=>?_) λa=>?_
 have k:i<l.length:=by simp at a;omega
 obtain⟨z,e⟩:=dN k
 refine .kn<|.seq<|.block<|.seq ?_
 refine .df 7 mixed (by kernel_rfl) ?_
 conv=>arg 6;dsimp only[List.take]
 refine .mo rfl<|.mo rfl ?_
 refine .jW 0 i h rfl ⟨_,rfl⟩ (by omega) (by omega) (λp f=>?_)
 rw[List.drop_zero,Nat.sub_zero]at f
 refine .mo rfl<|.mo rfl ?_
 refine .cu i h e (λt=>?_)
 refine .lo rfl<|.nil ?_
 refine .aM (nG p _ z _ f.rx) (λu m=>?_)
 subst m
 refine .zn ?_
 refine .cond rfl (λb=>?_) λb=>?_
 refine .sr<|.az rfl ?_
 refine .ret (br (aL (dn (br (aL (aO rfl ?_))))))
 ·have o:z∈l.take i:=by simpa using b
  exact⟨by rw[acg (λg:l.Nodup=>((nR e).1 (g.sublist (List.take_sublist _ _))).2 o)];rfl,rfl⟩
 refine .skip<|bz<|aD<|.region<|.mo rfl ?_
 refine .q (.inc (n:=i) (by omega)) ?_
 refine .ag rfl<|.nil ?_
 ·exact bf (i+1) ⟨by omega,(nR e).2 ⟨d,by simpa using b⟩⟩ (by omega) kE.c.c rH
 refine .exit<|bD<|bH<|bF<|aD<|.sr<|.az rfl ?_
 refine .ret (aO rfl ?_)
 ·have j:i=l.length:=by simp at a;omega
  rw[j,ach]at d
  exact⟨by rw[ab9 d];rfl,rfl⟩
theorem Nz(f:FuncId)(caps:List Value) [e:ay prog f](p:ByteArray->Bool)(v:Value)(l:List ByteArray)(R:av)(h:RS R 1 bB v l)(w:∀s∈l,∀R',(∀b o,R b o->R' b o)->Spec prog f (.string s::caps) R' [] λu H'=>u=.bool (p s)/\H'=[]):
  Spec prog 210 [v,.func (.func f) #[] caps.toArray] R [] λu H'=>(∃k:Int,u=.int .i64 k/\(decide (0<=k)=l.any p))/\H'=[]:=by
 have C:=h.le
 refine Spec.body func210 rfl results210 ntmps210 rfl ?_
 refine .sr<|.ag rfl<|.zs<|.sr<|.mo rfl<|.q (.dl h) ?_
 refine .mo rfl<|.zn<|.block ?_
 refine .loop (X:=Nat) (λi=>i<=l.length/\(l.take i).any p=false) (λi=>[(0,v),(1,.func (.func f) #[] caps.toArray),(7,.int .i64 l.length),(8,iN i)]) (λ_=>[]) (λi=>l.length-i) 0 ⟨by omega,by simp⟩ kE.c.c.c.c rH ?_
 rintro i ⟨B,g⟩
 refine .sr<|.q .lss<|.zs ?_
 refine .cond rfl (λa=>?_) λa=>?_
 have x:i<l.length:=by simp at a;omega
 obtain⟨z,j⟩:=dN x
 have m:=bU j
 have y:(l.take (i+1)).any p=((l.take i).any p||p z):=by rw[acz,j,List.any_append];simp
 refine .kn<|.seq<|.block<|.sr<|.mo rfl<|.ag rfl<|.z<|.mo rfl<|.mo rfl<|.mo rfl ?_
 refine .cu i h j (λD=>?_)
 refine .lo rfl ?_
 refine .gK (first:=[]) (captured:=caps) (vs:=[.string z]) (w z m _ λb o r=>.inl r) (λu A=>?_)
 subst A
 refine .zn ?_
 refine .cond rfl (λd=>?_) λd=>?_
 refine .sr<|.mo rfl<|.az rfl ?_
 refine .ret (br (aL (dn (br (aL (aO rfl ?_))))))
 ·refine⟨⟨_,rfl,?_⟩,rfl⟩
  rw[List.any_eq_true.2 ⟨z,m,d⟩];simp
 refine .skip<|bz<|aD<|.region ?_
 refine .q (.inc (n:=i) (by omega)) ?_
 refine .mo rfl<|.nil ?_
 ·exact bf (i+1) ⟨by omega,by rw[y,g,d];rfl⟩ (by omega) kE.c.c.c.c rH
 refine .exit<|bD<|bH<|bF<|aD<|.sr<|.az rfl ?_
 refine .ret (aO rfl ?_)
 ·have t:i=l.length:=by simp at a;omega
  rw[t,ach]at g
  exact⟨⟨_,rfl,by rw[g];rfl⟩,rfl⟩
theorem sL(f:FuncId)(caps:List Value) [e:ay prog f](p:ByteArray->Bool)(v:Value)(l:List ByteArray)(R:av)(h:RS R 1 bB v l)(d:∀s∈l,∀R',(∀b o,R b o->R' b o)->Spec prog f (.string s::caps) R' [] λu H'=>u=.bool (p s)/\H'=[]):
  Spec prog 158 [v,.func (.func f) #[] caps.toArray] R [] λu H'=>u=.bool (l.any p)/\H'=[]:=by
 refine Spec.body func158 rfl results158 ntmps158 rfl ?_
 refine .sr<|.ag rfl<|.z<|.mo rfl<|.mo rfl ?_
 refine .aM (Nz f caps p v l _ h.rx λs i R' a=>d s i R' λb o c=>a b o (.inl c)) (λu j=>?_)
 obtain⟨k,rfl,g⟩:=j
 refine .q .geq<|.az rfl ?_
 refine .ret (aO rfl ?_)
 ·exact⟨by simp only[g],rfl⟩
theorem zH(f:FuncId) [e:ay prog f](q:ByteArray->Bool)(s:ByteArray)(b:Nat)(R:av)(d:PC R (pT b) [.func (.func f) #[] #[]])(a:∀R',Spec prog f [.string s] R' [] λu H'=>u=.bool (q s)/\H'=[]):
  Spec prog 197 [.string s,pT b] R [] λu H'=>u=.bool (!q s)/\H'=[]:=by
 refine Spec.body func197 rfl results197 ntmps197 rfl ?_
 refine .sr<|.ag rfl<|.z<|.lo rfl<|.mo rfl ?_
 refine .gK (first:=[]) (captured:=[]) (vs:=[.string s]) (a _) (λu c=>?_)
 subst c
 refine .q .not<|.az rfl ?_
 refine .ret (aO rfl ?_)
 ·exact⟨rfl,rfl⟩
theorem uf(f:FuncId) [e:ay prog f](q:ByteArray->Bool)(v:Value)(l:List ByteArray)(R:av)(h:RS R 1 bB v l)(c:∀s∈l,∀R',Spec prog f [.string s] R' [] λu H'=>u=.bool (q s)/\H'=[]):
  Spec prog 142 [v,.func (.func f) #[] #[]] R [] λu H'=>u=.bool (l.all q)/\H'=[]:=by
 refine Spec.body func142 rfl results142 ntmps142 rfl ?_
 refine .sr ?_
 refine .ko rfl (λa=>?_)
 refine .ag rfl<|.z<|.mo rfl<|.q .makeFunc ?_
 refine .aM (sL 197 [pT a] (λs=> !q s) v l _ h.rx λs d R' b=>zH f q s a R' (PC.of (E:=135) (fr:=(0,0)) (b _ _ (.inr (by simp)))) (c s d)) (λu g=>?_)
 subst g
 refine .q .not<|.az rfl ?_
 refine .ret (aO rfl ?_)
 ·exact⟨by congr 1;rw[List.all_eq_not_any_not],rfl⟩
def fb(s:ByteArray)(p:Int->Bool):Bool:=s.data.toList.all λc=>p (c.toNat:Int)
theorem mD{s:ByteArray}{p:Int->Bool}(h:∀j (hj:j<s.size),p (s[j]'hj).toNat=true):fb s p=true:=by
 unfold fb
 rw[List.all_eq_true]
 intro c a
 obtain⟨j,hj,rfl⟩:=acE.1 a
 exact h j (by simpa using hj)
theorem dZ{s:ByteArray}{p:Int->Bool}{j:Nat}(a:j<s.size)(h:p (s[j]'a).toNat=false):fb s p=false:=by
 unfold fb
 rw[List.all_eq_false]
 refine⟨s[j],?_,by rw[h];simp⟩
 have:s[j]=s.data.toList[j]'(by simpa using a):=by simp[ByteArray.getElem_eq_getElem_data]
 rw[this]
 exact List.getElem_mem _
def cG(z:Int):Bool:=decide (97<=z)&&decide (z<=122)
def cY(z:Int):Bool:=(decide (48<=z)&&decide (z<=57))||z==95
def dE(z:Int):Bool:=cG z||cY z||(decide (65<=z)&&decide (z<=90))||z==46||z==45
def fB(z:Int):Bool:=cG z||cY z
def dt(s:ByteArray):Bool:=fb s dE&&decide (1<=s.size)&&decide (s.size<=32)
def et(s:ByteArray):Bool:=decide (s=⟨#[117,115,101,114]⟩)||decide (s=⟨#[116,104,105,115]⟩)||decide (s=⟨#[110,97,109,101,115,112,97,99,101]⟩)||decide (s=⟨#[114,101,108,97,116,105,111,110]⟩)||decide (s=⟨#[115,99,111,112,101]⟩)
def isWord(s:ByteArray):Bool:= !et s&&(fb s fB&&decide (1<=s.size)&&decide (s.size<=32))&&(if h:0<s.size then cG (s[0]'h).toNat else false)
theorem sU(z:Int)(R:av):Spec prog 138 [.int .u8 z] R [] λv H'=>v=.bool (cG z)/\H'=[]:=by
 refine Spec.body func138 rfl results138 ntmps138 rfl ?_
 refine .sr<|.ag rfl<|.z<|.mo rfl<|.q .geq<|.mo rfl ?_
 refine .split (t:=5) rfl (λa=>?_) (λa=>?_)
 refine .gT a<|.mo rfl<|.gT a<|.q .leq<|.q (.aY a) ?_
 refine .az rfl ?_
 refine .ret (aO rfl ?_)
 ·exact⟨by simp_all[cG]<;>omega,rfl⟩
 refine .gF a<|.gF a<|.q (.aS a) ?_
 refine .az rfl ?_
 refine .ret (aO rfl ?_)
 ·exact⟨by simp_all[cG]<;>omega,rfl⟩
theorem ve(z:Int)(R:av):Spec prog 139 [.int .u8 z] R [] λv H'=>v=.bool (cY z)/\H'=[]:=by
 refine Spec.body func139 rfl results139 ntmps139 rfl ?_
 refine .sr<|.ag rfl<|.z<|.mo rfl<|.q .geq<|.mo rfl ?_
 refine .split (t:=5) rfl (λa=>?_) (λa=>?_)
 refine .gT a<|.mo rfl<|.gT a<|.q .leq<|.q (.aY a) ?_
 refine .mo rfl ?_
 refine .split (t:=9) rfl (λb=>?_) (λb=>?_)
 refine .gF b<|.gF b<|.q (.aY b) ?_
 refine .az rfl ?_
 refine .ret (aO rfl ?_)
 ·exact⟨by simp_all[cY]<;>omega,rfl⟩
 refine .gT b<|.mo rfl<|.gT b<|.q .bS<|.q (.aS b) ?_
 refine .az rfl ?_
 refine .ret (aO rfl ?_)
 ·exact⟨by simp_all[cY]<;>omega,rfl⟩
 refine .gF a<|.gF a<|.q (.aS a) ?_
 refine .mo rfl<|.gt rfl ?_
 refine .mo rfl<|.gt rfl ?_
 refine .q .bS<|.q .bY<|.az rfl ?_
 refine .ret (aO rfl ?_)
 ·exact⟨by simp_all[cY]<;>omega,rfl⟩
theorem KN(z:Int)(R:av):Spec prog 137 [.int .u8 z] R [] λv H'=>v=.bool (dE z)/\H'=[]:=by
 refine Spec.body func137 rfl results137 ntmps137 rfl ?_
 refine .sr<|.ag rfl<|.z<|.mo rfl ?_
 refine .aM (sU z _) (λv f=>?_)
 subst f
 refine .mo rfl ?_
 refine .split (t:=5) rfl (λd=>?_) (λd=>?_)
 refine .gF d<|.gF d<|.q (.aY d) ?_
 refine .mo rfl<|.gX<|.gX<|.gX<|.cX rfl ?_
 refine .cX rfl ?_
 refine .gX<|.q .ca<|.mo rfl<|.gX<|.gX<|.q .ca<|.mo rfl<|.gX<|.gX<|.q .ca<|.az rfl ?_
 refine .ret (aO rfl ?_)
 ·exact⟨by simp_all[dE]<;>omega,rfl⟩
 refine .gT d<|.mo rfl<|.gT d ?_
 refine .aM (ve z _) (λv f=>?_)
 subst f
 refine .q (.aS d) ?_
 refine .mo rfl ?_
 refine .split (t:=9) rfl (λb=>?_) (λb=>?_)
 refine .gF b<|.gF b<|.gF b<|.cX rfl ?_
 refine .cX rfl ?_
 refine .gF b<|.q (.aY b) ?_
 refine .mo rfl<|.gX<|.gX<|.q .ca<|.mo rfl<|.gX<|.gX<|.q .ca<|.az rfl ?_
 refine .ret (aO rfl ?_)
 ·exact⟨by simp_all[dE]<;>omega,rfl⟩
 refine .gT b<|.mo rfl<|.gT b<|.q .geq<|.gT b<|.mo rfl ?_
 refine .split (t:=12) rfl (λe=>?_) (λe=>?_)
 refine .gT e<|.mo rfl<|.gT e<|.q .leq<|.gT b<|.q (.aY e) ?_
 refine .q (.aS b) ?_
 refine .mo rfl ?_
 refine .split (t:=17) rfl (λc=>?_) (λc=>?_)
 refine .gF c<|.gF c<|.q (.aY c) ?_
 refine .mo rfl<|.gX<|.gX<|.q .ca<|.az rfl ?_
 refine .ret (aO rfl ?_)
 ·exact⟨by simp_all[dE]<;>omega,rfl⟩
 refine .gT c<|.mo rfl<|.gT c<|.q .bS<|.q (.aS c) ?_
 refine .mo rfl ?_
 refine .split (t:=21) rfl (λa=>?_) (λa=>?_)
 refine .gF a<|.gF a<|.q (.aY a) ?_
 refine .az rfl ?_
 refine .ret (aO rfl ?_)
 ·exact⟨by simp_all[dE]<;>omega,rfl⟩
 refine .gT a<|.mo rfl<|.gT a<|.q .bS<|.q (.aS a) ?_
 refine .az rfl ?_
 refine .ret (aO rfl ?_)
 ·exact⟨by simp_all[dE]<;>omega,rfl⟩
 refine .gF e<|.gF e<|.gT b<|.q (.aS e) ?_
 refine .q (.aS b) ?_
 refine .mo rfl<|.gt rfl ?_
 refine .mo rfl<|.gt rfl ?_
 refine .q .bS<|.q .bY<|.mo rfl ?_
 refine .split (t:=21) rfl (λa=>?_) (λa=>?_)
 refine .gF a<|.gF a<|.q (.aY a) ?_
 refine .az rfl ?_
 refine .ret (aO rfl ?_)
 ·exact⟨by simp_all[dE]<;>omega,rfl⟩
 refine .gT a<|.mo rfl<|.gT a<|.q .bS<|.q (.aS a) ?_
 refine .az rfl ?_
 refine .ret (aO rfl ?_)
 ·exact⟨by simp_all[dE]<;>omega,rfl⟩
theorem O3(z:Int)(R:av):Spec prog 249 [.int .u8 z] R [] λv H'=>v=.bool (fB z)/\H'=[]:=by
 refine Spec.body func249 rfl results249 ntmps249 rfl ?_
 refine .sr<|.ag rfl<|.z<|.mo rfl ?_
 refine .aM (sU z _) (λv b=>?_)
 subst b
 refine .mo rfl ?_
 refine .split (t:=5) rfl (λa=>?_) (λa=>?_)
 refine .gF a<|.gF a<|.q (.aY a) ?_
 refine .az rfl ?_
 refine .ret (aO rfl ?_)
 ·exact⟨by simp_all[fB]<;>omega,rfl⟩
 refine .gT a<|.mo rfl<|.gT a ?_
 refine .aM (ve z _) (λv b=>?_)
 subst b
 refine .q (.aS a) ?_
 refine .az rfl ?_
 refine .ret (aO rfl ?_)
 ·exact⟨by simp_all[fB]<;>omega,rfl⟩
theorem tI(s:ByteArray)(f:FuncId) [e:ay prog f](p:Int->Bool)(m:∀z R,Spec prog f [.int .u8 z] R [] λv H'=>v=.bool (p z)/\H'=[])(w:s.size<=9223372036854775807)(R:av):
  Spec prog 136 [.string s,.func (.func f) #[] #[]] R [] λv H'=>v=.bool (fb s p&&decide (1<=s.size)&&decide (s.size<=32))/\H'=[]:=by
 refine Spec.body func136 rfl results136 ntmps136 rfl ?_
 refine .sr<|.ag rfl<|.zs<|.sr<|.mo rfl<|.q .fG<|.mo rfl<|.zn<|.block ?_
 refine .loop (X:=Nat) (λi=>i<=s.size/\∀j (b:j<s.size),j<i->p (s[j]'b).toNat=true) (λi=>[(0,.string s),(1,.func (.func f) #[] #[]),(7,iN s.size),(8,iN i)]) (λ_=>[]) (λi=>s.size-i) 0 ⟨by omega,by omega⟩ kE.c.c.c.c rH ?_
 rintro i ⟨r,l⟩
 refine .sr<|.q .lss<|.zs ?_
 refine .cond rfl (λd=>?_) λd=>?_
 have h:i<s.size:=by simp at d;omega
 refine .kn<|.seq<|.block<|.sr<|.mo rfl<|.ag rfl<|.z<|.mo rfl<|.mo rfl<|.mo rfl<|.q (.iJ i h) ?_
 refine .gK (first:=[]) (captured:=[]) (vs:=[.int .u8 (s[i]'h).toNat]) (m _ _) (λv o=>?_)
 subst o
 refine .q .not<|.zn ?_
 refine .cond rfl (λg=>?_) λg=>?_
 refine .sr<|.az rfl ?_
 refine .ret (br (aL (dn (br (aL (aO rfl ?_))))))
 ·have:=dZ h (p:=p) (by simpa using g)
  exact⟨by simp[this],rfl⟩
 refine .skip<|bz<|aD<|.region ?_
 refine .q (.inc (n:=i) (by omega)) ?_
 refine .mo rfl<|.nil ?_
 ·exact bf (i+1) ⟨by omega,λj b u=>by
   rcases acr j i with hh|hh
   ·exact l j b hh
   ·obtain rfl:j=i:=by omega
    simpa using g⟩ (by omega) kE.c.c.c.c rH
 have k:fb s p=true:=mD λj b=>l j b (by simp at d;omega)
 refine .exit<|bD<|bH<|bF<|aD<|.sr<|.mo rfl<|.q .fG<|.q .geq<|.mo rfl ?_
 refine .split (t:=21) rfl (λa=>?_) (λa=>?_)
 refine .gT a<|.mo rfl<|.gT a<|.q .fG<|.gT a<|.q .leq<|.q (.aY a) ?_
 refine .az rfl ?_
 refine .ret (aO rfl ?_)
 ·exact⟨by rw[Value.bool.injEq,acd];simp[k]at *;omega,rfl⟩
 refine .gF a<|.gF a<|.gF a<|.q (.aS a) ?_
 refine .az rfl ?_
 refine .ret (aO rfl ?_)
 ·exact⟨by rw[Value.bool.injEq,acd];simp[k]at *;omega,rfl⟩
theorem r3(s:ByteArray)(a:s.size<=9223372036854775807)(R:av):Spec prog 69 [.string s] R [] λv H'=>v=.bool (dt s)/\H'=[]:=by
 refine Spec.body func69 rfl results69 ntmps69 rfl ?_
 refine .sr<|.ag rfl<|.z<|.mo rfl ?_
 refine .aM (tI s 137 dE KN a _) (λv b=>?_)
 subst b
 refine .az rfl ?_
 refine .ret (aO rfl ?_)
 ·exact⟨rfl,rfl⟩
theorem O5(s:ByteArray)(j:s.size<=9223372036854775807)(R:av):Spec prog 193 [.string s] R [] λv H'=>v=.bool (isWord s)/\H'=[]:=by
 refine Spec.body func193 rfl results193 ntmps193 rfl ?_
 refine .sr<|.ag rfl<|.zs<|.sr<|.mo rfl<|.zn<|.block<|.seq<|.sr<|.q .ek<|.az rfl ?_
 refine bQ.cut (X:=Unit) (λ_=>True) (λ_=>[(0,.string s),(4,.bool (et s))]) (λ_=>[]) ?_ ?_
 refine .cond rfl (λa=>?_) λa=>?_
 refine .skip ?_
 ·refine aB () acp ?_ rH
  first
   |(simp only[et,a,b,e,f,aca];exact kE.c.c)
   |(simp only[et,a,b,e,f,aca,acb];exact kE.c.c)
   |(simp only[et,a,b,e,aca,acb];exact kE.c.c)
   |(simp only[et,a,b,aca,acb];exact kE.c.c)
   |(simp only[et,a,acb];exact kE.c.c)
 refine .sr<|.q .ek<|.az rfl ?_
 refine .cond rfl (λb=>?_) λb=>?_
 refine .skip ?_
 ·refine aB () acp ?_ rH
  first
   |(simp only[et,a,b,e,f,aca];exact kE.c.c)
   |(simp only[et,a,b,e,f,aca,acb];exact kE.c.c)
   |(simp only[et,a,b,e,aca,acb];exact kE.c.c)
   |(simp only[et,a,b,aca,acb];exact kE.c.c)
   |(simp only[et,a,acb];exact kE.c.c)
 refine .sr<|.q .ek<|.az rfl ?_
 refine .cond rfl (λe=>?_) λe=>?_
 refine .skip ?_
 ·refine aB () acp ?_ rH
  first
   |(simp only[et,a,b,e,f,aca];exact kE.c.c)
   |(simp only[et,a,b,e,f,aca,acb];exact kE.c.c)
   |(simp only[et,a,b,e,aca,acb];exact kE.c.c)
   |(simp only[et,a,b,aca,acb];exact kE.c.c)
   |(simp only[et,a,acb];exact kE.c.c)
 refine .sr<|.q .ek<|.az rfl ?_
 refine .cond rfl (λf=>?_) λf=>?_
 refine .skip ?_
 ·refine aB () acp ?_ rH
  first
   |(simp only[et,a,b,e,f,aca];exact kE.c.c)
   |(simp only[et,a,b,e,f,aca,acb];exact kE.c.c)
   |(simp only[et,a,b,e,aca,acb];exact kE.c.c)
   |(simp only[et,a,b,aca,acb];exact kE.c.c)
   |(simp only[et,a,acb];exact kE.c.c)
 refine .region<|.q .ek<|.ag rfl<|.nil ?_
 ·refine aB () acp ?_ rH
  first
   |(simp only[et,a,b,e,f,aca];exact kE.c.c)
   |(simp only[et,a,b,e,f,aca,acb];exact kE.c.c)
   |(simp only[et,a,b,e,aca,acb];exact kE.c.c)
   |(simp only[et,a,b,aca,acb];exact kE.c.c)
   |(simp only[et,a,acb];exact kE.c.c)
 intro x k
 refine aD ?_
 refine .cond rfl (λg=>?_) λg=>?_
 refine .sr<|.az rfl ?_
 refine .ret (br (aL (aO rfl ?_)))
 ·refine⟨?_,rfl⟩
  first
   |(simp[isWord,g];done)
   |(rw[isWord,g,d,dif_pos h,Bool.not_false,acq,acq])
   |(rw[isWord,d,acU,Bool.false_and])
 refine .skip<|bz<|aD<|.sr<|.mo rfl ?_
 refine .aM (tI s 249 fB O3 j _) (λv i=>?_)
 subst i
 refine .mo rfl ?_
 refine .split (t:=12) rfl (λd=>?_) (λd=>?_)
 refine .gT d<|.mo rfl<|.gT d ?_
 have h:0<s.size:=by simp at d;omega
 refine .q (.iJ 0 h) ?_
 refine .gT d ?_
 refine .aM (sU _ _) (λv i=>?_)
 subst i
 refine .q (.aY d) ?_
 refine .az rfl ?_
 refine .ret (aO rfl ?_)
 ·refine⟨?_,rfl⟩
  first
   |(simp[isWord,g];done)
   |(rw[isWord,g,d,dif_pos h,Bool.not_false,acq,acq])
   |(rw[isWord,d,acU,Bool.false_and])
 refine .gF d<|.gF d<|.gF d<|.q (.aS d) ?_
 refine .az rfl ?_
 refine .ret (aO rfl ?_)
 ·refine⟨?_,rfl⟩
  first
   |(simp[isWord,g];done)
   |(rw[isWord,g,d,dif_pos h,Bool.not_false,acq,acq])
   |(rw[isWord,d,acU,Bool.false_and])
theorem fS{s:ByteArray}(h:s.size<1\/32<s.size):isWord s=false:=by
 unfold isWord
 rcases h with h|h
 ·have:decide (1<=s.size)=false:=acg (by omega)
  simp[this]
 ·have:decide (s.size<=32)=false:=acg (by omega)
  simp[this]
theorem kx{s:ByteArray}(a:0<s.size)(h:cG (s[0]'a).toNat=false):isWord s=false:=by
 unfold isWord
 rw[dif_pos a,h,acU]
theorem kw{s:ByteArray}(h:fb s fB=false):isWord s=false:=by
 unfold isWord
 simp[h]
theorem KS{s:ByteArray}(a:0<s.size)(d:s.size<=32)(e:cG (s[0]'a).toNat=true)(f:fb s fB=true):isWord s= !et s:=by
 unfold isWord
 have b:decide (1<=s.size)=true:=ab9 (by omega)
 have c:decide (s.size<=32)=true:=ab9 d
 rw[dif_pos a,e,f,b,c]
 simp
theorem sH(s:ByteArray)(B:s.size<=9223372036854775807)(R:av):Spec prog 98 [.string s] R [] λv H'=>v=.bool (dt s)/\H'=[]:=by
 refine Spec.body func98 rfl results98 ntmps98 rfl ?_
 refine .sr<|.ag rfl<|.zs<|.sr<|.az rfl<|.block ?_
 refine .loop (X:=Nat) (λi=>i<=s.size/\∀j (u:j<s.size),j<i->dE (s[j]'u).toNat=true) (λi=>[(0,.string s),(3,iN i)]) (λ_=>[]) (λi=>s.size-i) 0 ⟨by omega,by omega⟩ kE.c.c rH ?_
 rintro i ⟨z,d⟩
 refine .seq<|.sr<|.mo rfl<|.mo rfl<|.q .fG<|.q .lss<|.zn ?_
 refine .cond rfl (λw=>?_) λw=>?_
 have o:i<s.size:=by simp at w;omega
 refine .kn<|.seq<|.block<|.sr<|.mo rfl<|.mo rfl<|.q (.iJ i o) ?_
 refine .az rfl ?_
 refine bQ.cut (X:=Unit) (λ_=>dE (s[i]'o).toNat=true) (λ_=>[(0,.string s),(3,iN i)]) (λ_=>[]) ?_ ?_
 refine .sr<|.mo rfl<|.q .geq<|.mo rfl ?_
 refine .split (t:=16) rfl (λr=>?_) (λr=>?_)
 refine .gT r<|.mo rfl<|.gT r<|.q .leq<|.q (.aY r) ?_
 refine .mo rfl ?_
 refine .split (t:=20) rfl (λm=>?_) (λm=>?_)
 refine .gF m<|.gF m<|.gF m<|.cX rfl ?_
 refine .cX rfl ?_
 refine .gF m<|.q (.aY m) ?_
 refine .mo rfl<|.gX<|.gX<|.gX<|.cX rfl ?_
 refine .cX rfl ?_
 refine .gX<|.q .ca<|.mo rfl<|.gX<|.gX<|.q .ca<|.mo rfl<|.gX<|.gX<|.q .ca<|.mo rfl<|.gX<|.gX<|.q .ca<|.q .not<|.zn<|.bZ<|.skip ?_
 ·exact aB () (by clear d;simp_all[dE,cG,cY]<;>omega) kE.c.c rH
 refine .gT m<|.mo rfl<|.gT m<|.q .geq<|.gT m<|.mo rfl ?_
 refine .split (t:=23) rfl (λk=>?_) (λk=>?_)
 refine .gT k<|.mo rfl<|.gT k<|.q .leq<|.gT m<|.q (.aY k) ?_
 refine .q (.aS m) ?_
 refine .mo rfl ?_
 refine .split (t:=28) rfl (λg=>?_) (λg=>?_)
 refine .gF g<|.gF g<|.gF g<|.cX rfl ?_
 refine .cX rfl ?_
 refine .gF g<|.q (.aY g) ?_
 refine .mo rfl<|.gX<|.gX<|.q .ca<|.mo rfl<|.gX<|.gX<|.q .ca<|.mo rfl<|.gX<|.gX<|.q .ca<|.q .not<|.zn<|.bZ<|.skip ?_
 ·exact aB () (by clear d;simp_all[dE,cG,cY]<;>omega) kE.c.c rH
 refine .gT g<|.mo rfl<|.gT g<|.q .geq<|.gT g<|.mo rfl ?_
 refine .split (t:=31) rfl (λe=>?_) (λe=>?_)
 refine .gT e<|.mo rfl<|.gT e<|.q .leq<|.gT g<|.q (.aY e) ?_
 refine .q (.aS g) ?_
 refine .mo rfl ?_
 refine .split (t:=36) rfl (λf=>?_) (λf=>?_)
 refine .gF f<|.gF f<|.q (.aY f) ?_
 refine .mo rfl<|.gX<|.gX<|.q .ca<|.mo rfl<|.gX<|.gX<|.q .ca<|.q .not<|.zn<|.bZ<|.skip ?_
 ·exact aB () (by clear d;simp_all[dE,cG,cY]<;>omega) kE.c.c rH
 refine .gT f<|.mo rfl<|.gT f<|.q .bS<|.q (.aS f) ?_
 refine .mo rfl ?_
 refine .split (t:=40) rfl (λa=>?_) (λa=>?_)
 refine .gF a<|.gF a<|.q (.aY a) ?_
 refine .mo rfl<|.gX<|.gX<|.q .ca<|.q .not<|.zn<|.bZ<|.skip ?_
 ·exact aB () (by clear d;simp_all[dE,cG,cY]<;>omega) kE.c.c rH
 refine .gT a<|.mo rfl<|.gT a<|.q .bS<|.q (.aS a) ?_
 refine .mo rfl ?_
 refine .split (t:=44) rfl (λb=>?_) (λb=>?_)
 refine .gF b<|.gF b<|.q (.aY b) ?_
 refine .q .not<|.zn<|.bZ<|.skip ?_
 ·exact aB () (by clear d;simp_all[dE,cG,cY]<;>omega) kE.c.c rH
 refine .gT b<|.mo rfl<|.gT b<|.q .bS<|.q (.aS b) ?_
 refine .q .not<|.zn ?_
 refine .cond rfl (λl=>?_) λl=>?_
 refine .sr<|.az rfl ?_
 refine .ret (iW (br (aL (dn (br (aL (aO rfl ?_)))))))
 ·refine⟨?_,rfl⟩
  first
   |(rw[dt,p,Value.bool.injEq,acd];simp at h⊢;omega)
   |(rw[dt,dZ o (by clear d;simp_all[dE,cG,cY]<;>omega)];rfl)
 refine .skip ?_
 ·exact aB () (by clear d;simp_all[dE,cG,cY]<;>omega) kE.c.c rH
 refine .gF e<|.gF e<|.gT g<|.q (.aS e) ?_
 refine .q (.aS g) ?_
 refine .mo rfl<|.gt rfl ?_
 refine .mo rfl<|.gt rfl ?_
 refine .q .bS<|.q .bY<|.mo rfl ?_
 refine .split (t:=40) rfl (λa=>?_) (λa=>?_)
 refine .gF a<|.gF a<|.q (.aY a) ?_
 refine .mo rfl<|.gX<|.gX<|.q .ca<|.q .not<|.zn<|.bZ<|.skip ?_
 ·exact aB () (by clear d;simp_all[dE,cG,cY]<;>omega) kE.c.c rH
 refine .gT a<|.mo rfl<|.gT a<|.q .bS<|.q (.aS a) ?_
 refine .mo rfl ?_
 refine .split (t:=44) rfl (λb=>?_) (λb=>?_)
 refine .gF b<|.gF b<|.q (.aY b) ?_
 refine .q .not<|.zn<|.bZ<|.skip ?_
 ·exact aB () (by clear d;simp_all[dE,cG,cY]<;>omega) kE.c.c rH
 refine .gT b<|.mo rfl<|.gT b<|.q .bS<|.q (.aS b) ?_
 refine .q .not<|.zn ?_
 refine .cond rfl (λl=>?_) λl=>?_
 refine .sr<|.az rfl ?_
 refine .ret (iW (br (aL (dn (br (aL (aO rfl ?_)))))))
 ·refine⟨?_,rfl⟩
  first
   |(rw[dt,p,Value.bool.injEq,acd];simp at h⊢;omega)
   |(rw[dt,dZ o (by clear d;simp_all[dE,cG,cY]<;>omega)];rfl)
 refine .skip ?_
 ·exact aB () (by clear d;simp_all[dE,cG,cY]<;>omega) kE.c.c rH
 refine .gF k<|.gF k<|.gT m<|.q (.aS k) ?_
 refine .q (.aS m) ?_
 refine .mo rfl<|.gt rfl ?_
 refine .mo rfl<|.gt rfl ?_
 refine .q .geq<|.gt rfl ?_
 refine .mo rfl ?_
 refine .split (t:=31) rfl (λe=>?_) (λe=>?_)
 refine .gT e<|.mo rfl<|.gT e<|.q .leq<|.gt rfl ?_
 refine .q (.aY e) ?_
 refine .q .bY<|.mo rfl ?_
 refine .split (t:=36) rfl (λf=>?_) (λf=>?_)
 refine .gF f<|.gF f<|.q (.aY f) ?_
 refine .mo rfl<|.gX<|.gX<|.q .ca<|.mo rfl<|.gX<|.gX<|.q .ca<|.q .not<|.zn<|.bZ<|.skip ?_
 ·exact aB () (by clear d;simp_all[dE,cG,cY]<;>omega) kE.c.c rH
 refine .gT f<|.mo rfl<|.gT f<|.q .bS<|.q (.aS f) ?_
 refine .mo rfl ?_
 refine .split (t:=40) rfl (λa=>?_) (λa=>?_)
 refine .gF a<|.gF a<|.q (.aY a) ?_
 refine .mo rfl<|.gX<|.gX<|.q .ca<|.q .not<|.zn<|.bZ<|.skip ?_
 ·exact aB () (by clear d;simp_all[dE,cG,cY]<;>omega) kE.c.c rH
 refine .gT a<|.mo rfl<|.gT a<|.q .bS<|.q (.aS a) ?_
 refine .mo rfl ?_
 refine .split (t:=44) rfl (λb=>?_) (λb=>?_)
 refine .gF b<|.gF b<|.q (.aY b) ?_
 refine .q .not<|.zn<|.bZ<|.skip ?_
 ·exact aB () (by clear d;simp_all[dE,cG,cY]<;>omega) kE.c.c rH
 refine .gT b<|.mo rfl<|.gT b<|.q .bS<|.q (.aS b) ?_
 refine .q .not<|.zn ?_
 refine .cond rfl (λl=>?_) λl=>?_
 refine .sr<|.az rfl ?_
 refine .ret (iW (br (aL (dn (br (aL (aO rfl ?_)))))))
 ·refine⟨?_,rfl⟩
  first
   |(rw[dt,p,Value.bool.injEq,acd];simp at h⊢;omega)
   |(rw[dt,dZ o (by clear d;simp_all[dE,cG,cY]<;>omega)];rfl)
 refine .skip ?_
 ·exact aB () (by clear d;simp_all[dE,cG,cY]<;>omega) kE.c.c rH
 refine .gF e<|.gF e<|.gt rfl ?_
 refine .q (.aS e) ?_
 refine .q .bY<|.mo rfl<|.gt rfl ?_
 refine .mo rfl<|.gt rfl ?_
 refine .q .bS<|.q .bY<|.mo rfl ?_
 refine .split (t:=40) rfl (λa=>?_) (λa=>?_)
 refine .gF a<|.gF a<|.q (.aY a) ?_
 refine .mo rfl<|.gX<|.gX<|.q .ca<|.q .not<|.zn<|.bZ<|.skip ?_
 ·exact aB () (by clear d;simp_all[dE,cG,cY]<;>omega) kE.c.c rH
 refine .gT a<|.mo rfl<|.gT a<|.q .bS<|.q (.aS a) ?_
 refine .mo rfl ?_
 refine .split (t:=44) rfl (λb=>?_) (λb=>?_)
 refine .gF b<|.gF b<|.q (.aY b) ?_
 refine .q .not<|.zn<|.bZ<|.skip ?_
 ·exact aB () (by clear d;simp_all[dE,cG,cY]<;>omega) kE.c.c rH
 refine .gT b<|.mo rfl<|.gT b<|.q .bS<|.q (.aS b) ?_
 refine .q .not<|.zn ?_
 refine .cond rfl (λl=>?_) λl=>?_
 refine .sr<|.az rfl ?_
 refine .ret (iW (br (aL (dn (br (aL (aO rfl ?_)))))))
 ·refine⟨?_,rfl⟩
  first
   |(rw[dt,p,Value.bool.injEq,acd];simp at h⊢;omega)
   |(rw[dt,dZ o (by clear d;simp_all[dE,cG,cY]<;>omega)];rfl)
 refine .skip ?_
 ·exact aB () (by clear d;simp_all[dE,cG,cY]<;>omega) kE.c.c rH
 refine .gF r<|.gF r<|.q (.aS r) ?_
 refine .mo rfl<|.gt rfl ?_
 refine .mo rfl<|.gt rfl ?_
 refine .q .geq<|.gt rfl ?_
 refine .mo rfl ?_
 refine .split (t:=23) rfl (λk=>?_) (λk=>?_)
 refine .gT k<|.mo rfl<|.gT k<|.q .leq<|.gt rfl ?_
 refine .q (.aY k) ?_
 refine .q .bY<|.mo rfl ?_
 refine .split (t:=28) rfl (λg=>?_) (λg=>?_)
 refine .gF g<|.gF g<|.gF g<|.cX rfl ?_
 refine .cX rfl ?_
 refine .gF g<|.q (.aY g) ?_
 refine .mo rfl<|.gX<|.gX<|.q .ca<|.mo rfl<|.gX<|.gX<|.q .ca<|.mo rfl<|.gX<|.gX<|.q .ca<|.q .not<|.zn<|.bZ<|.skip ?_
 ·exact aB () (by clear d;simp_all[dE,cG,cY]<;>omega) kE.c.c rH
 refine .gT g<|.mo rfl<|.gT g<|.q .geq<|.gT g<|.mo rfl ?_
 refine .split (t:=31) rfl (λe=>?_) (λe=>?_)
 refine .gT e<|.mo rfl<|.gT e<|.q .leq<|.gT g<|.q (.aY e) ?_
 refine .q (.aS g) ?_
 refine .mo rfl ?_
 refine .split (t:=36) rfl (λf=>?_) (λf=>?_)
 refine .gF f<|.gF f<|.q (.aY f) ?_
 refine .mo rfl<|.gX<|.gX<|.q .ca<|.mo rfl<|.gX<|.gX<|.q .ca<|.q .not<|.zn<|.bZ<|.skip ?_
 ·exact aB () (by clear d;simp_all[dE,cG,cY]<;>omega) kE.c.c rH
 refine .gT f<|.mo rfl<|.gT f<|.q .bS<|.q (.aS f) ?_
 refine .mo rfl ?_
 refine .split (t:=40) rfl (λa=>?_) (λa=>?_)
 refine .gF a<|.gF a<|.q (.aY a) ?_
 refine .mo rfl<|.gX<|.gX<|.q .ca<|.q .not<|.zn<|.bZ<|.skip ?_
 ·exact aB () (by clear d;simp_all[dE,cG,cY]<;>omega) kE.c.c rH
 refine .gT a<|.mo rfl<|.gT a<|.q .bS<|.q (.aS a) ?_
 refine .mo rfl ?_
 refine .split (t:=44) rfl (λb=>?_) (λb=>?_)
 refine .gF b<|.gF b<|.q (.aY b) ?_
 refine .q .not<|.zn<|.bZ<|.skip ?_
 ·exact aB () (by clear d;simp_all[dE,cG,cY]<;>omega) kE.c.c rH
 refine .gT b<|.mo rfl<|.gT b<|.q .bS<|.q (.aS b) ?_
 refine .q .not<|.zn ?_
 refine .cond rfl (λl=>?_) λl=>?_
 refine .sr<|.az rfl ?_
 refine .ret (iW (br (aL (dn (br (aL (aO rfl ?_)))))))
 ·refine⟨?_,rfl⟩
  first
   |(rw[dt,p,Value.bool.injEq,acd];simp at h⊢;omega)
   |(rw[dt,dZ o (by clear d;simp_all[dE,cG,cY]<;>omega)];rfl)
 refine .skip ?_
 ·exact aB () (by clear d;simp_all[dE,cG,cY]<;>omega) kE.c.c rH
 refine .gF e<|.gF e<|.gT g<|.q (.aS e) ?_
 refine .q (.aS g) ?_
 refine .mo rfl<|.gt rfl ?_
 refine .mo rfl<|.gt rfl ?_
 refine .q .bS<|.q .bY<|.mo rfl ?_
 refine .split (t:=40) rfl (λa=>?_) (λa=>?_)
 refine .gF a<|.gF a<|.q (.aY a) ?_
 refine .mo rfl<|.gX<|.gX<|.q .ca<|.q .not<|.zn<|.bZ<|.skip ?_
 ·exact aB () (by clear d;simp_all[dE,cG,cY]<;>omega) kE.c.c rH
 refine .gT a<|.mo rfl<|.gT a<|.q .bS<|.q (.aS a) ?_
 refine .mo rfl ?_
 refine .split (t:=44) rfl (λb=>?_) (λb=>?_)
 refine .gF b<|.gF b<|.q (.aY b) ?_
 refine .q .not<|.zn<|.bZ<|.skip ?_
 ·exact aB () (by clear d;simp_all[dE,cG,cY]<;>omega) kE.c.c rH
 refine .gT b<|.mo rfl<|.gT b<|.q .bS<|.q (.aS b) ?_
 refine .q .not<|.zn ?_
 refine .cond rfl (λl=>?_) λl=>?_
 refine .sr<|.az rfl ?_
 refine .ret (iW (br (aL (dn (br (aL (aO rfl ?_)))))))
 ·refine⟨?_,rfl⟩
  first
   |(rw[dt,p,Value.bool.injEq,acd];simp at h⊢;omega)
   |(rw[dt,dZ o (by clear d;simp_all[dE,cG,cY]<;>omega)];rfl)
 refine .skip ?_
 ·exact aB () (by clear d;simp_all[dE,cG,cY]<;>omega) kE.c.c rH
 refine .gF k<|.gF k<|.gt rfl ?_
 refine .q (.aS k) ?_
 refine .q .bY<|.mo rfl<|.gt rfl ?_
 refine .mo rfl<|.gt rfl ?_
 refine .q .geq<|.gt rfl ?_
 refine .mo rfl ?_
 refine .split (t:=31) rfl (λe=>?_) (λe=>?_)
 refine .gT e<|.mo rfl<|.gT e<|.q .leq<|.gt rfl ?_
 refine .q (.aY e) ?_
 refine .q .bY<|.mo rfl ?_
 refine .split (t:=36) rfl (λf=>?_) (λf=>?_)
 refine .gF f<|.gF f<|.q (.aY f) ?_
 refine .mo rfl<|.gX<|.gX<|.q .ca<|.mo rfl<|.gX<|.gX<|.q .ca<|.q .not<|.zn<|.bZ<|.skip ?_
 ·exact aB () (by clear d;simp_all[dE,cG,cY]<;>omega) kE.c.c rH
 refine .gT f<|.mo rfl<|.gT f<|.q .bS<|.q (.aS f) ?_
 refine .mo rfl ?_
 refine .split (t:=40) rfl (λa=>?_) (λa=>?_)
 refine .gF a<|.gF a<|.q (.aY a) ?_
 refine .mo rfl<|.gX<|.gX<|.q .ca<|.q .not<|.zn<|.bZ<|.skip ?_
 ·exact aB () (by clear d;simp_all[dE,cG,cY]<;>omega) kE.c.c rH
 refine .gT a<|.mo rfl<|.gT a<|.q .bS<|.q (.aS a) ?_
 refine .mo rfl ?_
 refine .split (t:=44) rfl (λb=>?_) (λb=>?_)
 refine .gF b<|.gF b<|.q (.aY b) ?_
 refine .q .not<|.zn<|.bZ<|.skip ?_
 ·exact aB () (by clear d;simp_all[dE,cG,cY]<;>omega) kE.c.c rH
 refine .gT b<|.mo rfl<|.gT b<|.q .bS<|.q (.aS b) ?_
 refine .q .not<|.zn ?_
 refine .cond rfl (λl=>?_) λl=>?_
 refine .sr<|.az rfl ?_
 refine .ret (iW (br (aL (dn (br (aL (aO rfl ?_)))))))
 ·refine⟨?_,rfl⟩
  first
   |(rw[dt,p,Value.bool.injEq,acd];simp at h⊢;omega)
   |(rw[dt,dZ o (by clear d;simp_all[dE,cG,cY]<;>omega)];rfl)
 refine .skip ?_
 ·exact aB () (by clear d;simp_all[dE,cG,cY]<;>omega) kE.c.c rH
 refine .gF e<|.gF e<|.gt rfl ?_
 refine .q (.aS e) ?_
 refine .q .bY<|.mo rfl<|.gt rfl ?_
 refine .mo rfl<|.gt rfl ?_
 refine .q .bS<|.q .bY<|.mo rfl ?_
 refine .split (t:=40) rfl (λa=>?_) (λa=>?_)
 refine .gF a<|.gF a<|.q (.aY a) ?_
 refine .mo rfl<|.gX<|.gX<|.q .ca<|.q .not<|.zn<|.bZ<|.skip ?_
 ·exact aB () (by clear d;simp_all[dE,cG,cY]<;>omega) kE.c.c rH
 refine .gT a<|.mo rfl<|.gT a<|.q .bS<|.q (.aS a) ?_
 refine .mo rfl ?_
 refine .split (t:=44) rfl (λb=>?_) (λb=>?_)
 refine .gF b<|.gF b<|.q (.aY b) ?_
 refine .q .not<|.zn<|.bZ<|.skip ?_
 ·exact aB () (by clear d;simp_all[dE,cG,cY]<;>omega) kE.c.c rH
 refine .gT b<|.mo rfl<|.gT b<|.q .bS<|.q (.aS b) ?_
 refine .q .not<|.zn ?_
 refine .cond rfl (λl=>?_) λl=>?_
 refine .sr<|.az rfl ?_
 refine .ret (iW (br (aL (dn (br (aL (aO rfl ?_)))))))
 ·refine⟨?_,rfl⟩
  first
   |(rw[dt,p,Value.bool.injEq,acd];simp at h⊢;omega)
   |(rw[dt,dZ o (by clear d;simp_all[dE,cG,cY]<;>omega)];rfl)
 refine .skip ?_
 ·exact aB () (by clear d;simp_all[dE,cG,cY]<;>omega) kE.c.c rH
 intro y x
 refine bz<|aD<|.region<|.mo rfl ?_
 refine .q (.inc (n:=i) (by omega)) ?_
 refine .ag rfl<|.nil ?_
 ·exact bf (i+1) ⟨by omega,λj u A=>by
   rcases acr j i with hh|hh
   ·exact d j u hh
   ·obtain rfl:j=i:=by omega
    exact x⟩ (by omega) kE.c.c rH
 have p:fb s dE=true:=mD λj u=>d j u (by simp at w;omega)
 refine .exit<|bD<|bH<|bF<|aD<|.sr<|.mo rfl<|.q .fG<|.q .geq<|.mo rfl ?_
 refine .split (t:=52) rfl (λh=>?_) (λh=>?_)
 refine .gT h<|.mo rfl<|.gT h<|.q .fG<|.gT h<|.q .leq<|.q (.aY h) ?_
 refine .az rfl ?_
 refine .ret (aO rfl ?_)
 ·refine⟨?_,rfl⟩
  first
   |(rw[dt,p,Value.bool.injEq,acd];simp at h⊢;omega)
   |(rw[dt,dZ o (by clear d;simp_all[dE,cG,cY]<;>omega)];rfl)
 refine .gF h<|.gF h<|.gF h<|.q (.aS h) ?_
 refine .az rfl ?_
 refine .ret (aO rfl ?_)
 ·refine⟨?_,rfl⟩
  first
   |(rw[dt,p,Value.bool.injEq,acd];simp at h⊢;omega)
   |(rw[dt,dZ o (by clear d;simp_all[dE,cG,cY]<;>omega)];rfl)
theorem M5(s:ByteArray)(I:s.size<=9223372036854775807)(R:av):Spec prog 166 [.string s] R [] λv H'=>v=.bool (isWord s)/\H'=[]:=by
 refine Spec.body func166 rfl results166 ntmps166 rfl ?_
 refine .sr<|.ag rfl<|.zs<|.sr<|.mo rfl<|.q .fG<|.q .lss<|.mo rfl ?_
 refine .split (t:=8) rfl (λa=>?_) (λa=>?_)
 refine .gF a<|.gF a<|.gF a<|.q (.aY a) ?_
 refine .mo rfl<|.gX<|.gX<|.gX<|.q .ca<|.mo rfl<|.gX<|.gX<|.gX<|.q .ca<|.zn<|.dF<|.sr<|.az rfl ?_
 refine .ret (aL (aO rfl ?_))
 ·refine⟨?_,rfl⟩
  first
   |(rw[l];simp_all[et])
   |(rw[kw (dZ h (by clear d;simp_all[fB,cG,cY]<;>omega))])
   |(rw[fS (by simp at a;omega)])
   |(rw[fS (by simp at b;omega)])
   |(rw[kx e (by simp_all[cG]<;>omega)])
 refine .gT a<|.mo rfl<|.gT a<|.q .fG<|.gT a<|.q .gtr<|.q (.aS a) ?_
 refine .mo rfl ?_
 refine .split (t:=13) rfl (λb=>?_) (λb=>?_)
 refine .gF b<|.gF b<|.gF b<|.q (.aY b) ?_
 refine .mo rfl<|.gX<|.gX<|.gX<|.q .ca<|.zn<|.dF<|.sr<|.az rfl ?_
 refine .ret (aL (aO rfl ?_))
 ·refine⟨?_,rfl⟩
  first
   |(rw[l];simp_all[et])
   |(rw[kw (dZ h (by clear d;simp_all[fB,cG,cY]<;>omega))])
   |(rw[fS (by simp at a;omega)])
   |(rw[fS (by simp at b;omega)])
   |(rw[kx e (by simp_all[cG]<;>omega)])
 have e:0<s.size:=by simp at a;omega
 refine .gT b<|.mo rfl<|.gT b<|.q (.iJ 0 e) ?_
 refine .gT b<|.q .lss<|.q (.aS b) ?_
 refine .mo rfl ?_
 refine .split (t:=18) rfl (λm=>?_) (λm=>?_)
 refine .gF m<|.gF m<|.gF m<|.q (.aY m) ?_
 refine .zn<|.dF<|.sr<|.az rfl ?_
 refine .ret (aL (aO rfl ?_))
 ·refine⟨?_,rfl⟩
  first
   |(rw[l];simp_all[et])
   |(rw[kw (dZ h (by clear d;simp_all[fB,cG,cY]<;>omega))])
   |(rw[fS (by simp at a;omega)])
   |(rw[fS (by simp at b;omega)])
   |(rw[kx e (by simp_all[cG]<;>omega)])
 refine .gT m<|.mo rfl<|.gT m<|.q (.iJ 0 e) ?_
 refine .gT m<|.q .gtr<|.q (.aS m) ?_
 refine .zn ?_
 refine .cond rfl (λB=>?_) λB=>?_
 refine .sr<|.az rfl ?_
 refine .ret (aL (aO rfl ?_))
 ·refine⟨?_,rfl⟩
  first
   |(rw[l];simp_all[et])
   |(rw[kw (dZ h (by clear d;simp_all[fB,cG,cY]<;>omega))])
   |(rw[fS (by simp at a;omega)])
   |(rw[fS (by simp at b;omega)])
   |(rw[kx e (by simp_all[cG]<;>omega)])
 have D:0<s.size/\s.size<=32:=by simp at a b;omega
 have F:cG (s[0]'e).toNat=true:=by simp at m B;simp[cG];omega
 refine .kn<|.seq<|.sr<|.az rfl<|.block ?_
 refine .loop (X:=Nat) (λi=>i<=s.size/\∀j (z:j<s.size),j<i->fB (s[j]'z).toNat=true) (λi=>[(0,.string s),(3,iN i)]) (λ_=>[]) (λi=>s.size-i) 0 ⟨by omega,by omega⟩ kE.c.c rH ?_
 rintro i ⟨G,d⟩
 refine .seq<|.sr<|.mo rfl<|.mo rfl<|.q .fG<|.q .lss<|.zn ?_
 refine .cond rfl (λA=>?_) λA=>?_
 have h:i<s.size:=by simp at A;omega
 refine .kn<|.seq<|.block<|.sr<|.mo rfl<|.mo rfl<|.q (.iJ i h) ?_
 refine .az rfl ?_
 refine bQ.cut (X:=Unit) (λ_=>fB (s[i]'h).toNat=true) (λ_=>[(0,.string s),(3,iN i)]) (λ_=>[]) ?_ ?_
 refine .sr<|.mo rfl<|.q .geq<|.mo rfl ?_
 refine .split (t:=34) rfl (λo=>?_) (λo=>?_)
 refine .gT o<|.mo rfl<|.gT o<|.q .leq<|.q (.aY o) ?_
 refine .mo rfl ?_
 refine .split (t:=38) rfl (λk=>?_) (λk=>?_)
 refine .gF k<|.gF k<|.gF k<|.cX rfl ?_
 refine .cX rfl ?_
 refine .gF k<|.q (.aY k) ?_
 refine .mo rfl<|.gX<|.gX<|.q .ca<|.q .not<|.zn<|.bZ<|.skip ?_
 ·exact aB () (by clear d;simp_all[fB,cG,cY]<;>omega) kE.c.c rH
 refine .gT k<|.mo rfl<|.gT k<|.q .geq<|.gT k<|.mo rfl ?_
 refine .split (t:=41) rfl (λg=>?_) (λg=>?_)
 refine .gT g<|.mo rfl<|.gT g<|.q .leq<|.gT k<|.q (.aY g) ?_
 refine .q (.aS k) ?_
 refine .mo rfl ?_
 refine .split (t:=46) rfl (λf=>?_) (λf=>?_)
 refine .gF f<|.gF f<|.q (.aY f) ?_
 refine .q .not<|.zn<|.bZ<|.skip ?_
 ·exact aB () (by clear d;simp_all[fB,cG,cY]<;>omega) kE.c.c rH
 refine .gT f<|.mo rfl<|.gT f<|.q .bS<|.q (.aS f) ?_
 refine .q .not<|.zn ?_
 refine .cond rfl (λx=>?_) λx=>?_
 refine .sr<|.az rfl ?_
 refine .ret (iW (br (aL (dn (br (aL (aO rfl ?_)))))))
 ·refine⟨?_,rfl⟩
  first
   |(rw[l];simp_all[et])
   |(rw[kw (dZ h (by clear d;simp_all[fB,cG,cY]<;>omega))])
   |(rw[fS (by simp at a;omega)])
   |(rw[fS (by simp at b;omega)])
   |(rw[kx e (by simp_all[cG]<;>omega)])
 refine .skip ?_
 ·exact aB () (by clear d;simp_all[fB,cG,cY]<;>omega) kE.c.c rH
 refine .gF g<|.gF g<|.gT k<|.q (.aS g) ?_
 refine .q (.aS k) ?_
 refine .mo rfl<|.gt rfl ?_
 refine .mo rfl<|.gt rfl ?_
 refine .q .bS<|.q .bY<|.q .not<|.zn ?_
 refine .cond rfl (λx=>?_) λx=>?_
 refine .sr<|.az rfl ?_
 refine .ret (iW (br (aL (dn (br (aL (aO rfl ?_)))))))
 ·refine⟨?_,rfl⟩
  first
   |(rw[l];simp_all[et])
   |(rw[kw (dZ h (by clear d;simp_all[fB,cG,cY]<;>omega))])
   |(rw[fS (by simp at a;omega)])
   |(rw[fS (by simp at b;omega)])
   |(rw[kx e (by simp_all[cG]<;>omega)])
 refine .skip ?_
 ·exact aB () (by clear d;simp_all[fB,cG,cY]<;>omega) kE.c.c rH
 refine .gF o<|.gF o<|.q (.aS o) ?_
 refine .mo rfl<|.gt rfl ?_
 refine .mo rfl<|.gt rfl ?_
 refine .q .geq<|.gt rfl ?_
 refine .mo rfl ?_
 refine .split (t:=41) rfl (λg=>?_) (λg=>?_)
 refine .gT g<|.mo rfl<|.gT g<|.q .leq<|.gt rfl ?_
 refine .q (.aY g) ?_
 refine .q .bY<|.mo rfl ?_
 refine .split (t:=46) rfl (λf=>?_) (λf=>?_)
 refine .gF f<|.gF f<|.q (.aY f) ?_
 refine .q .not<|.zn<|.bZ<|.skip ?_
 ·exact aB () (by clear d;simp_all[fB,cG,cY]<;>omega) kE.c.c rH
 refine .gT f<|.mo rfl<|.gT f<|.q .bS<|.q (.aS f) ?_
 refine .q .not<|.zn ?_
 refine .cond rfl (λx=>?_) λx=>?_
 refine .sr<|.az rfl ?_
 refine .ret (iW (br (aL (dn (br (aL (aO rfl ?_)))))))
 ·refine⟨?_,rfl⟩
  first
   |(rw[l];simp_all[et])
   |(rw[kw (dZ h (by clear d;simp_all[fB,cG,cY]<;>omega))])
   |(rw[fS (by simp at a;omega)])
   |(rw[fS (by simp at b;omega)])
   |(rw[kx e (by simp_all[cG]<;>omega)])
 refine .skip ?_
 ·exact aB () (by clear d;simp_all[fB,cG,cY]<;>omega) kE.c.c rH
 refine .gF g<|.gF g<|.gt rfl ?_
 refine .q (.aS g) ?_
 refine .q .bY<|.mo rfl<|.gt rfl ?_
 refine .mo rfl<|.gt rfl ?_
 refine .q .bS<|.q .bY<|.q .not<|.zn ?_
 refine .cond rfl (λx=>?_) λx=>?_
 refine .sr<|.az rfl ?_
 refine .ret (iW (br (aL (dn (br (aL (aO rfl ?_)))))))
 ·refine⟨?_,rfl⟩
  first
   |(rw[l];simp_all[et])
   |(rw[kw (dZ h (by clear d;simp_all[fB,cG,cY]<;>omega))])
   |(rw[fS (by simp at a;omega)])
   |(rw[fS (by simp at b;omega)])
   |(rw[kx e (by simp_all[cG]<;>omega)])
 refine .skip ?_
 ·exact aB () (by clear d;simp_all[fB,cG,cY]<;>omega) kE.c.c rH
 intro y E
 refine bz<|aD<|.region<|.mo rfl ?_
 refine .q (.inc (n:=i) (by omega)) ?_
 refine .ag rfl<|.nil ?_
 ·exact bf (i+1) ⟨by omega,λj z H=>by
   rcases acr j i with hh|hh
   ·exact d j z hh
   ·obtain rfl:j=i:=by omega
    exact E⟩ (by omega) kE.c.c rH
 have C:fb s fB=true:=mD λj z=>d j z (by simp at A;omega)
 have l:=KS e D.2 F C
 refine .exit<|bD<|bH<|bF<|aD<|.sr<|.mo rfl<|.q .fj<|.mo rfl ?_
 refine .split (t:=53) rfl (λu=>?_) (λu=>?_)
 refine .gT u<|.mo rfl<|.gT u<|.q .fj<|.q (.aY u) ?_
 refine .mo rfl ?_
 refine .split (t:=57) rfl (λw=>?_) (λw=>?_)
 refine .gT w<|.mo rfl<|.gT w<|.q .fj<|.q (.aY w) ?_
 refine .mo rfl ?_
 refine .split (t:=61) rfl (λp=>?_) (λp=>?_)
 refine .gT p<|.mo rfl<|.gT p<|.q .fj<|.q (.aY p) ?_
 refine .mo rfl ?_
 refine .split (t:=65) rfl (λr=>?_) (λr=>?_)
 refine .gT r<|.mo rfl<|.gT r<|.q .fj<|.q (.aY r) ?_
 refine .az rfl ?_
 refine .ret (aO rfl ?_)
 ·refine⟨?_,rfl⟩
  first
   |(rw[l];simp_all[et])
   |(rw[kw (dZ h (by clear d;simp_all[fB,cG,cY]<;>omega))])
   |(rw[fS (by simp at a;omega)])
   |(rw[fS (by simp at b;omega)])
   |(rw[kx e (by simp_all[cG]<;>omega)])
 refine .gF r<|.gF r<|.q (.aS r) ?_
 refine .az rfl ?_
 refine .ret (aO rfl ?_)
 ·refine⟨?_,rfl⟩
  first
   |(rw[l];simp_all[et])
   |(rw[kw (dZ h (by clear d;simp_all[fB,cG,cY]<;>omega))])
   |(rw[fS (by simp at a;omega)])
   |(rw[fS (by simp at b;omega)])
   |(rw[kx e (by simp_all[cG]<;>omega)])
 refine .gF p<|.gF p<|.q (.aS p) ?_
 refine .mo rfl<|.gX<|.gX<|.q .bY<|.az rfl ?_
 refine .ret (aO rfl ?_)
 ·refine⟨?_,rfl⟩
  first
   |(rw[l];simp_all[et])
   |(rw[kw (dZ h (by clear d;simp_all[fB,cG,cY]<;>omega))])
   |(rw[fS (by simp at a;omega)])
   |(rw[fS (by simp at b;omega)])
   |(rw[kx e (by simp_all[cG]<;>omega)])
 refine .gF w<|.gF w<|.q (.aS w) ?_
 refine .mo rfl<|.gX<|.gX<|.q .bY<|.mo rfl<|.gX<|.gX<|.q .bY<|.az rfl ?_
 refine .ret (aO rfl ?_)
 ·refine⟨?_,rfl⟩
  first
   |(rw[l];simp_all[et])
   |(rw[kw (dZ h (by clear d;simp_all[fB,cG,cY]<;>omega))])
   |(rw[fS (by simp at a;omega)])
   |(rw[fS (by simp at b;omega)])
   |(rw[kx e (by simp_all[cG]<;>omega)])
 refine .gF u<|.gF u<|.q (.aS u) ?_
 refine .mo rfl<|.gX<|.gX<|.q .bY<|.mo rfl<|.gX<|.gX<|.q .bY<|.mo rfl<|.gX<|.gX<|.q .bY<|.az rfl ?_
 refine .ret (aO rfl ?_)
 ·refine⟨?_,rfl⟩
  first
   |(rw[l];simp_all[et])
   |(rw[kw (dZ h (by clear d;simp_all[fB,cG,cY]<;>omega))])
   |(rw[fS (by simp at a;omega)])
   |(rw[fS (by simp at b;omega)])
   |(rw[kx e (by simp_all[cG]<;>omega)])
def fR(z:Int):Bool:=decide (33<=z)&&decide (z<=126)
def ja(z:Int):Bool:=z !=35
def jC:ByteArray:=⟨#[104,116,116,112,115,58,47,47]⟩
def eF(s:ByteArray):Bool:=decide (9<=s.size)&&decide (s.size<=200)&&fb s fR&&fb s ja&&decide (s.extract 0 8=jC)
def ez(s:ByteArray):Bool:=decide (s=⟨#[]⟩)||(decide (8<=s.size)&&decide (s.size<=64)&&fb s fR)
structure bA where
 id:ByteArray
 cD:ByteArray
 cm:List ByteArray
 scopes:List ByteArray
def bA.check(c:bA):Int:=
 if dt c.id=false then 9 else if ez c.cD=false then 4
 else if c.cm.length<1\/8<c.cm.length\/¬c.cm.Nodup\/c.cm.all eF=false then 4
 else if 16<c.scopes.length\/¬c.scopes.Nodup\/c.scopes.all isWord=false then 4 else 0
def bA.fits(c:bA):Prop:=c.id.size<=9223372036854775807/\c.cD.size<=9223372036854775807/\(∀s∈c.cm,s.size<=9223372036854775807)/\∀s∈c.scopes,s.size<=9223372036854775807
theorem vN:∀(l:List UInt8),decide (0<=Lib.indexByte l 35)= !(l.all λc=>ja (c.toNat:Int))
 |[]=>rfl
 |b::l=>by
  have h:=vN l
  have i:=Lib.indexByte_ge l 35
  unfold Lib.indexByte
  rw[List.all_cons]
  by_cases a:b=35
  ·subst a;simp[ja]
  ·have f:(b==35)=false:=by simpa using a
   have g:ja (b.toNat:Int)=true:=by
    have:b.toNat≠35:=λe=>a (UInt8.toNat_inj.1 e)
    simp[ja];omega
   rw[f,g,acq, <-h]
   simp only[acQ,acB]
   by_cases d:Lib.indexByte l 35= -1
   ·simp[d]
   ·have:(Lib.indexByte l 35== -1)=false:=by simpa using d
    rw[this]
    simp only[acQ,acB]
    rw[acd];simp;omega
theorem KK(s:ByteArray)(R:av):Spec prog 247 [.string s,.string ⟨#[35]⟩] R [] λv H'=>v=.bool (!fb s ja)/\H'=[]:=
 (Spec.o4 (NN s 35) R).mono λv H' ⟨a,b⟩=>⟨by rw[a,vN];rfl,b⟩
theorem L6(s:ByteArray)(R:av)(h:8<=s.size):Spec prog 248 [.string s,.string jC] R [] λv H'=>v=.bool (decide (s.extract 0 8=jC))/\H'=[]:=
 (Spec.o4 (NO s jC) R).mono λv H' ⟨a,b⟩=>⟨by
  rw[a, <-Lib.hasPrefix_raw,p9,show jC.size=8 from rfl,ab9 h,acq],b⟩
theorem xZ(s:ByteArray)(m:s.size<=9223372036854775807)(R:av):Spec prog 246 [.string s] R [] λv H'=>v=.bool (fb s fR)/\H'=[]:=by
 refine Spec.body func246 rfl results246 ntmps246 rfl ?_
 refine .sr<|.ag rfl<|.zs<|.sr<|.mo rfl<|.q .fG<|.mo rfl<|.zn<|.block ?_
 refine .loop (X:=Nat) (λi=>i<=s.size/\∀j (f:j<s.size),j<i->fR (s[j]'f).toNat=true) (λi=>[(0,.string s),(5,iN s.size),(6,iN i)]) (λ_=>[]) (λi=>s.size-i) 0 ⟨by omega,by omega⟩ kE.c.c.c rH ?_
 rintro i ⟨k,b⟩
 refine .sr<|.q .lss<|.zs ?_
 refine .cond rfl (λg=>?_) λg=>?_
 have d:i<s.size:=by simp at g;omega
 refine .kn<|.seq<|.block<|.sr<|.mo rfl<|.ag rfl<|.z<|.mo rfl<|.mo rfl<|.q (.iJ i d) ?_
 refine .q .lss<|.mo rfl ?_
 refine .split (t:=13) rfl (λa=>?_) (λa=>?_)
 refine .gF a<|.gF a<|.gF a<|.gF a<|.q (.aY a) ?_
 refine .zn<|.dF<|.sr<|.az rfl ?_
 refine .ret (br (aL (dn (br (aL (aO rfl ?_))))))
 ·refine⟨?_,rfl⟩
  first
   |rw[h]
   |rw[dZ d (by clear b;simp at a;simp[fR];omega)]
   |rw[dZ d (by clear b;simp at e;simp[fR];omega)]
 refine .gT a<|.mo rfl<|.gT a<|.mo rfl<|.gT a<|.q (.iJ i d) ?_
 refine .gT a<|.q .gtr<|.q (.aS a) ?_
 refine .zn ?_
 refine .cond rfl (λe=>?_) λe=>?_
 refine .sr<|.az rfl ?_
 refine .ret (br (aL (dn (br (aL (aO rfl ?_))))))
 ·refine⟨?_,rfl⟩
  first
   |rw[h]
   |rw[dZ d (by clear b;simp at a;simp[fR];omega)]
   |rw[dZ d (by clear b;simp at e;simp[fR];omega)]
 refine .skip<|bz<|aD<|.region ?_
 refine .q (.inc (n:=i) (by omega)) ?_
 refine .mo rfl<|.nil ?_
 ·exact bf (i+1) ⟨by omega,λj f l=>by
   rcases acr j i with hh|hh
   ·exact b j f hh
   ·obtain rfl:j=i:=by omega
    clear b
    simp at a e;simp[fR];omega⟩ (by omega) kE.c.c.c rH
 have h:fb s fR=true:=mD λj f=>b j f (by simp at g;omega)
 refine .exit<|bD<|bH<|bF<|aD<|.sr<|.az rfl ?_
 refine .ret (aO rfl ?_)
 ·refine⟨?_,rfl⟩
  first
   |rw[h]
   |rw[dZ d (by clear b;simp at a;simp[fR];omega)]
   |rw[dZ d (by clear b;simp at e;simp[fR];omega)]
theorem xn(s:ByteArray)(m:s.size<=9223372036854775807)(R:av):Spec prog 163 [.string s] R [] λv H'=>v=.bool (fb s fR)/\H'=[]:=by
 refine Spec.body func163 rfl results163 ntmps163 rfl ?_
 refine .sr<|.ag rfl<|.zs<|.sr<|.az rfl<|.block ?_
 refine .loop (X:=Nat) (λi=>i<=s.size/\∀j (f:j<s.size),j<i->fR (s[j]'f).toNat=true) (λi=>[(0,.string s),(3,iN i)]) (λ_=>[]) (λi=>s.size-i) 0 ⟨by omega,by omega⟩ kE.c.c rH ?_
 rintro i ⟨k,b⟩
 refine .seq<|.sr<|.mo rfl<|.mo rfl<|.q .fG<|.q .lss<|.zn ?_
 refine .cond rfl (λg=>?_) λg=>?_
 have d:i<s.size:=by simp at g;omega
 refine .kn<|.seq<|.block<|.sr<|.mo rfl<|.mo rfl<|.q (.iJ i d) ?_
 refine .q .lss<|.mo rfl ?_
 refine .split (t:=14) rfl (λa=>?_) (λa=>?_)
 refine .gF a<|.gF a<|.gF a<|.gF a<|.q (.aY a) ?_
 refine .zn<|.dF<|.sr<|.az rfl ?_
 refine .ret (br (aL (dn (br (aL (aO rfl ?_))))))
 ·refine⟨?_,rfl⟩
  first
   |rw[h]
   |rw[dZ d (by clear b;simp at a;simp[fR];omega)]
   |rw[dZ d (by clear b;simp at e;simp[fR];omega)]
 refine .gT a<|.mo rfl<|.gT a<|.mo rfl<|.gT a<|.q (.iJ i d) ?_
 refine .gT a<|.q .gtr<|.q (.aS a) ?_
 refine .zn ?_
 refine .cond rfl (λe=>?_) λe=>?_
 refine .sr<|.az rfl ?_
 refine .ret (br (aL (dn (br (aL (aO rfl ?_))))))
 ·refine⟨?_,rfl⟩
  first
   |rw[h]
   |rw[dZ d (by clear b;simp at a;simp[fR];omega)]
   |rw[dZ d (by clear b;simp at e;simp[fR];omega)]
 refine .skip<|bz<|aD<|.region<|.mo rfl ?_
 refine .q (.inc (n:=i) (by omega)) ?_
 refine .ag rfl<|.nil ?_
 ·exact bf (i+1) ⟨by omega,λj f l=>by
   rcases acr j i with hh|hh
   ·exact b j f hh
   ·obtain rfl:j=i:=by omega
    clear b
    simp at a e;simp[fR];omega⟩ (by omega) kE.c.c rH
 have h:fb s fR=true:=mD λj f=>b j f (by simp at g;omega)
 refine .exit<|bD<|bH<|bF<|aD<|.sr<|.az rfl ?_
 refine .ret (aO rfl ?_)
 ·refine⟨?_,rfl⟩
  first
   |rw[h]
   |rw[dZ d (by clear b;simp at a;simp[fR];omega)]
   |rw[dZ d (by clear b;simp at e;simp[fR];omega)]
theorem gM{s:ByteArray}(h:s.size<9\/200<s.size):eF s=false:=by
 unfold eF
 rcases h with h|h
 ·rw[acg (show ¬9<=s.size by omega)];simp
 ·rw[acg (show ¬s.size<=200 by omega)];simp
theorem li{s:ByteArray}(h:fb s fR=false):eF s=false:=by
 unfold eF;rw[h];simp
theorem lg{s:ByteArray}(h:fb s ja=false):eF s=false:=by
 unfold eF;rw[h];simp
theorem nH{s:ByteArray}(h:s.extract 0 8≠jC):eF s=false:=by
 unfold eF;rw[acg h];simp
theorem lh{s:ByteArray}(a:9<=s.size)(b:s.size<=200)(c:fb s fR=true)(d:fb s ja=true):eF s=decide (s.extract 0 8=jC):=by
 unfold eF;rw[ab9 a,ab9 b,c,d];simp
theorem zb(s:ByteArray)(g:s.size<=9223372036854775807)(R:av):Spec prog 192 [.string s] R [] λv H'=>v=.bool (eF s)/\H'=[]:=by
 refine Spec.body func192 rfl results192 ntmps192 rfl ?_
 refine .sr<|.ag rfl<|.z<|.mo rfl<|.q .fG<|.q .geq<|.mo rfl ?_
 refine .split (t:=6) rfl (λa=>?_) (λa=>?_)
 refine .gT a<|.mo rfl<|.gT a<|.q .fG<|.gT a<|.q .leq<|.q (.aY a) ?_
 refine .mo rfl ?_
 refine .split (t:=11) rfl (λd=>?_) (λd=>?_)
 refine .gT d<|.mo rfl<|.gT d ?_
 refine .aM (xZ s g _) (λv e=>?_)
 subst e
 refine .q (.aY d) ?_
 refine .mo rfl ?_
 refine .split (t:=15) rfl (λb=>?_) (λb=>?_)
 refine .gT b<|.mo rfl<|.gT b ?_
 refine .aM (KK s _) (λv e=>?_)
 subst e
 refine .gT b<|.q .not<|.q (.aY b) ?_
 refine .mo rfl ?_
 refine .split (t:=20) rfl (λc=>?_) (λc=>?_)
 refine .gT c<|.mo rfl<|.gT c ?_
 have f:8<=s.size:=by simp at a;omega
 refine .aM (L6 s _ f) (λv e=>?_)
 subst e
 refine .q (.aY c) ?_
 refine .az rfl ?_
 refine .ret (aO rfl ?_)
 ·refine⟨?_,rfl⟩
  first
   |rw[gM (by simp at a;omega)]
   |rw[gM (by simp at d;omega)]
   |rw[li b]
   |rw[lg (by simpa using c)]
   |rw[lh (by simp at a;omega) (by simp at d;omega) b (by simpa using c)]
 refine .gF c<|.gF c<|.q (.aS c) ?_
 refine .az rfl ?_
 refine .ret (aO rfl ?_)
 ·refine⟨?_,rfl⟩
  first
   |rw[gM (by simp at a;omega)]
   |rw[gM (by simp at d;omega)]
   |rw[li b]
   |rw[lg (by simpa using c)]
   |rw[lh (by simp at a;omega) (by simp at d;omega) b (by simpa using c)]
 refine .gF b<|.gF b<|.gF b<|.q (.aS b) ?_
 refine .mo rfl<|.gX<|.gX<|.q .bY<|.az rfl ?_
 refine .ret (aO rfl ?_)
 ·refine⟨?_,rfl⟩
  first
   |rw[gM (by simp at a;omega)]
   |rw[gM (by simp at d;omega)]
   |rw[li b]
   |rw[lg (by simpa using c)]
   |rw[lh (by simp at a;omega) (by simp at d;omega) b (by simpa using c)]
 refine .gF d<|.gF d<|.q (.aS d) ?_
 refine .mo rfl<|.gX<|.gX<|.gX<|.q .bY<|.mo rfl<|.gX<|.gX<|.q .bY<|.az rfl ?_
 refine .ret (aO rfl ?_)
 ·refine⟨?_,rfl⟩
  first
   |rw[gM (by simp at a;omega)]
   |rw[gM (by simp at d;omega)]
   |rw[li b]
   |rw[lg (by simpa using c)]
   |rw[lh (by simp at a;omega) (by simp at d;omega) b (by simpa using c)]
 refine .gF a<|.gF a<|.gF a<|.q (.aS a) ?_
 refine .mo rfl<|.gX<|.gX<|.q .bY<|.mo rfl<|.gX<|.gX<|.gX<|.q .bY<|.mo rfl<|.gX<|.gX<|.q .bY<|.az rfl ?_
 refine .ret (aO rfl ?_)
 ·refine⟨?_,rfl⟩
  first
   |rw[gM (by simp at a;omega)]
   |rw[gM (by simp at d;omega)]
   |rw[li b]
   |rw[lg (by simpa using c)]
   |rw[lh (by simp at a;omega) (by simp at d;omega) b (by simpa using c)]
theorem MA(s:ByteArray)(u:s.size<=9223372036854775807)(R:av):Spec prog 165 [.string s] R [] λv H'=>v=.bool (eF s)/\H'=[]:=by
 refine Spec.body func165 rfl results165 ntmps165 rfl ?_
 refine .sr<|.ag rfl<|.zs<|.sr<|.mo rfl<|.q .fG<|.q .lss<|.mo rfl ?_
 refine .split (t:=7) rfl (λa=>?_) (λa=>?_)
 refine .gF a<|.gF a<|.gF a<|.q (.aY a) ?_
 refine .mo rfl<|.gX<|.gX<|.gX<|.q .ca<|.mo rfl<|.gX<|.gX<|.gX<|.q .ca<|.zn<|.dF<|.sr<|.az rfl ?_
 refine .ret (aL (aO rfl ?_))
 ·refine⟨?_,rfl⟩
  first
   |rw[lh e.1 e.2 o l,ab9 m]
   |rw[lg (dZ k (by clear f;simp at h;simp[ja];omega))]
   |rw[gM (by simp at a;omega)]
   |rw[gM (by simp at d;omega)]
   |rw[li (by simpa using b)]
   |rw[nH (by simpa[jC]using g)]
 refine .gT a<|.mo rfl<|.gT a<|.q .fG<|.gT a<|.q .gtr<|.q (.aS a) ?_
 refine .mo rfl ?_
 refine .split (t:=12) rfl (λd=>?_) (λd=>?_)
 refine .gF d<|.gF d<|.gF d<|.q (.aY d) ?_
 refine .mo rfl<|.gX<|.gX<|.gX<|.q .ca<|.zn<|.dF<|.sr<|.az rfl ?_
 refine .ret (aL (aO rfl ?_))
 ·refine⟨?_,rfl⟩
  first
   |rw[lh e.1 e.2 o l,ab9 m]
   |rw[lg (dZ k (by clear f;simp at h;simp[ja];omega))]
   |rw[gM (by simp at a;omega)]
   |rw[gM (by simp at d;omega)]
   |rw[li (by simpa using b)]
   |rw[nH (by simpa[jC]using g)]
 refine .gT d<|.mo rfl<|.gT d ?_
 refine .aM (xn s u _) (λv w=>?_)
 subst w
 refine .gT d<|.q .not<|.q (.aS d) ?_
 refine .mo rfl ?_
 refine .split (t:=17) rfl (λb=>?_) (λb=>?_)
 refine .gF b<|.gF b<|.gF b<|.q (.aY b) ?_
 refine .zn<|.dF<|.sr<|.az rfl ?_
 refine .ret (aL (aO rfl ?_))
 ·refine⟨?_,rfl⟩
  first
   |rw[lh e.1 e.2 o l,ab9 m]
   |rw[lg (dZ k (by clear f;simp at h;simp[ja];omega))]
   |rw[gM (by simp at a;omega)]
   |rw[gM (by simp at d;omega)]
   |rw[li (by simpa using b)]
   |rw[nH (by simpa[jC]using g)]
 refine .gT b<|.mo rfl<|.gT b ?_
 have x:9<=s.size:=by simp at a;omega
 refine .q (.sS (s:=s) 0 8 rfl ⟨_,rfl⟩ (by omega) (by omega)) ?_
 refine .gT b<|.q .fj<|.q (.aS b) ?_
 refine .zn ?_
 refine .cond rfl (λg=>?_) λg=>?_
 refine .sr<|.az rfl ?_
 refine .ret (aL (aO rfl ?_))
 ·refine⟨?_,rfl⟩
  first
   |rw[lh e.1 e.2 o l,ab9 m]
   |rw[lg (dZ k (by clear f;simp at h;simp[ja];omega))]
   |rw[gM (by simp at a;omega)]
   |rw[gM (by simp at d;omega)]
   |rw[li (by simpa using b)]
   |rw[nH (by simpa[jC]using g)]
 have e:9<=s.size/\s.size<=200:=by simp at a d;omega
 have o:fb s fR=true:=by simpa using b
 have m:s.extract 0 8=jC:=by simpa[jC]using g
 refine .kn<|.seq<|.sr<|.az rfl<|.block ?_
 refine .loop (X:=Nat) (λi=>i<=s.size/\∀j (p:j<s.size),j<i->ja (s[j]'p).toNat=true) (λi=>[(0,.string s),(3,iN i)]) (λ_=>[]) (λi=>s.size-i) 0 ⟨by omega,by omega⟩ kE.c.c rH ?_
 rintro i ⟨y,f⟩
 refine .seq<|.sr<|.mo rfl<|.mo rfl<|.q .fG<|.q .lss<|.zn ?_
 refine .cond rfl (λr=>?_) λr=>?_
 have k:i<s.size:=by simp at r;omega
 refine .kn<|.seq<|.block<|.sr<|.mo rfl<|.mo rfl<|.q (.iJ i k) ?_
 refine .q .bS<|.zn ?_
 refine .cond rfl (λh=>?_) λh=>?_
 refine .sr<|.az rfl ?_
 refine .ret (br (aL (dn (br (aL (aO rfl ?_))))))
 ·refine⟨?_,rfl⟩
  first
   |rw[lh e.1 e.2 o l,ab9 m]
   |rw[lg (dZ k (by clear f;simp at h;simp[ja];omega))]
   |rw[gM (by simp at a;omega)]
   |rw[gM (by simp at d;omega)]
   |rw[li (by simpa using b)]
   |rw[nH (by simpa[jC]using g)]
 refine .skip<|bz<|aD<|.region<|.mo rfl ?_
 refine .q (.inc (n:=i) (by omega)) ?_
 refine .ag rfl<|.nil ?_
 ·exact bf (i+1) ⟨by omega,λj p z=>by
   rcases acr j i with hh|hh
   ·exact f j p hh
   ·obtain rfl:j=i:=by omega
    clear f
    simp at h;simp[ja];omega⟩ (by omega) kE.c.c rH
 have l:fb s ja=true:=mD λj p=>f j p (by simp at r;omega)
 refine .exit<|bD<|bH<|bF<|aD<|.sr<|.az rfl ?_
 refine .ret (aO rfl ?_)
 ·refine⟨?_,rfl⟩
  first
   |rw[lh e.1 e.2 o l,ab9 m]
   |rw[lg (dZ k (by clear f;simp at h;simp[ja];omega))]
   |rw[gM (by simp at a;omega)]
   |rw[gM (by simp at d;omega)]
   |rw[li (by simpa using b)]
   |rw[nH (by simpa[jC]using g)]
theorem Nl(s:ByteArray)(d:s.size<=9223372036854775807)(R:av):Spec prog 191 [.string s] R [] λv H'=>v=.bool (ez s)/\H'=[]:=by
 refine Spec.body func191 rfl results191 ntmps191 rfl ?_
 refine .sr<|.ag rfl<|.z<|.mo rfl<|.q .ek<|.mo rfl ?_
 refine .split (t:=5) rfl (λa=>?_) (λa=>?_)
 refine .gF a<|.gF a<|.gF a<|.gF a<|.cX rfl ?_
 refine .cX rfl ?_
 refine .cX rfl ?_
 refine .gF a<|.gF a<|.cX rfl ?_
 refine .cX rfl ?_
 refine .gF a<|.q (.aY a) ?_
 refine .az rfl ?_
 refine .ret (aO rfl ?_)
 ·refine⟨?_,rfl⟩
  unfold ez
  rw[Value.bool.injEq,acd]
  simp at *
  simp[*]
  try omega
 refine .gT a<|.mo rfl<|.gT a<|.q .fG<|.gT a<|.q .geq<|.gT a<|.mo rfl ?_
 refine .split (t:=9) rfl (λb=>?_) (λb=>?_)
 refine .gT b<|.mo rfl<|.gT b<|.q .fG<|.gT b<|.q .leq<|.gT a<|.q (.aY b) ?_
 refine .gT a<|.mo rfl ?_
 refine .split (t:=14) rfl (λc=>?_) (λc=>?_)
 refine .gT c<|.mo rfl<|.gT c ?_
 refine .aM (xZ s d _) (λv e=>?_)
 subst e
 refine .gT a<|.q (.aY c) ?_
 refine .q (.aS a) ?_
 refine .az rfl ?_
 refine .ret (aO rfl ?_)
 ·refine⟨?_,rfl⟩
  unfold ez
  rw[Value.bool.injEq,acd]
  simp at *
  simp[*]
  try omega
 refine .gF c<|.gF c<|.gT a<|.q (.aS c) ?_
 refine .q (.aS a) ?_
 refine .az rfl ?_
 refine .ret (aO rfl ?_)
 ·refine⟨?_,rfl⟩
  unfold ez
  rw[Value.bool.injEq,acd]
  simp at *
  simp[*]
  try omega
 refine .gF b<|.gF b<|.gF b<|.gT a<|.q (.aS b) ?_
 refine .gT a<|.mo rfl<|.gX<|.gX<|.gT a<|.q .bY<|.q (.aS a) ?_
 refine .az rfl ?_
 refine .ret (aO rfl ?_)
 ·refine⟨?_,rfl⟩
  unfold ez
  rw[Value.bool.injEq,acd]
  simp at *
  simp[*]
  try omega
structure CR where
 id:ByteArray
 cD:ByteArray
 vu:Value
 vs:Value
def CR.cells(r:CR):List Value:=[.string r.id,.string r.cD,r.vu,r.vs]
structure eV(R:av)(r:CR)(c:bA):Prop where
 id:r.id=c.id
 cD:r.cD=c.cD
 u:RS R 1 bB r.vu c.cm
 s:RS R 1 bB r.vs c.scopes
theorem eV.mono{R R':av}{r:CR}{c:bA}(h:eV R r c)(a:∀b o,R b o->R' b o):eV R' r c:=⟨h.id,h.cD,h.u.mono a,h.s.mono a⟩
theorem eV.bG{R:av}{r:CR}{c:bA}(h:eV R r c):∀u∈r.cells,aw u=true:=by
 have a:=h.u.aw.h
 have b:=h.s.aw.h
 simp[CR.cells,a,b]
 exact⟨rfl,rfl⟩
theorem z8(r:CR)(c:bA)(R:av)(h:eV R r c)(L:c.fits):Spec prog 133 [.agg r.cells.toArray] R [] λv H'=>v=.int .i64 c.check/\H'=[]:=by
  obtain⟨Q,S,C,B⟩:=r
  obtain⟨z,A,o,p⟩:=h
  simp only at z A o p
  subst z;subst A
  obtain⟨D,E,F,G⟩:=L
  have N:=o.aw
  have O:=p.aw
  refine Spec.body func133 rfl results133 ntmps133 rfl ?_
  refine .sr ?_
  refine .dv rfl (λM=>?_)
  refine .ag rfl<|.zs<|.block<|.sr<|.fa rfl<|.lo rfl ?_
  refine .aM (r3 c.id D _) (λv m=>?_)
  subst m
  refine .q .not<|.az rfl ?_
  refine .cond rfl (λH=>?_) λH=>?_
  refine .sr<|.az rfl ?_
  refine .ret (br (aL (aO rfl ?_)))
  ·refine⟨?_,rfl⟩
   congr 1
   unfold bA.check
   simp only[aci,acj,ace,ack]at *
   have d:dt c.id=true->¬dt c.id=false:=λh=>by rw[h];simp
   have f:ez c.cD=true->¬ez c.cD=false:=λh=>by rw[h];simp
   first
     |rw[ab7 (by assumption)]
     |rw[ab8 (d (by assumption)),ab7 (by assumption)]
     |(rw[ab8 (d (by assumption)),ab8 (f (by assumption))]
       have n:∀{a b:Prop},a->b->(a/\b):=λx y=>⟨x,y⟩
       first
         |rw[ab7 (.inl (by omega))]
         |rw[ab7 (.inr (.inl (by omega)))]
         |rw[ab7 (.inr (.inr (.inl (by assumption))))]
         |rw[ab7 (.inr (.inr (.inr (by assumption))))]
         |(have e:¬(c.cm.length<1\/8<c.cm.length\/¬c.cm.Nodup\/c.cm.all eF=false):=by
              rintro(h|h|h|h)
              ·omega
              ·omega
              ·exact h (by assumption)
              ·rw[show c.cm.all eF=true by assumption]at h;cases h
           rw[ab8 e]
           first
             |rw[ab7 (.inl (by omega))]
             |rw[ab7 (.inr (.inl (by assumption)))]
             |rw[ab7 (.inr (.inr (by assumption)))]
             |(rw[ab8]
               rintro(h|h|h)
               ·omega
               ·exact h (by assumption)
               ·rw[show c.scopes.all isWord=true by assumption]at h;cases h)))
  refine .sr<|.fa rfl<|.lo rfl ?_
  refine .aM (Nl c.cD E _) (λv m=>?_)
  subst m
  refine .q .not<|.az rfl ?_
  refine .cond rfl (λI=>?_) λI=>?_
  refine .sr<|.az rfl ?_
  refine .ret (br (aL (aO rfl ?_)))
  ·refine⟨?_,rfl⟩
   congr 1
   unfold bA.check
   simp only[aci,acj,ace,ack]at *
   have d:dt c.id=true->¬dt c.id=false:=λh=>by rw[h];simp
   have f:ez c.cD=true->¬ez c.cD=false:=λh=>by rw[h];simp
   first
     |rw[ab7 (by assumption)]
     |rw[ab8 (d (by assumption)),ab7 (by assumption)]
     |(rw[ab8 (d (by assumption)),ab8 (f (by assumption))]
       have n:∀{a b:Prop},a->b->(a/\b):=λx y=>⟨x,y⟩
       first
         |rw[ab7 (.inl (by omega))]
         |rw[ab7 (.inr (.inl (by omega)))]
         |rw[ab7 (.inr (.inr (.inl (by assumption))))]
         |rw[ab7 (.inr (.inr (.inr (by assumption))))]
         |(have e:¬(c.cm.length<1\/8<c.cm.length\/¬c.cm.Nodup\/c.cm.all eF=false):=by
              rintro(h|h|h|h)
              ·omega
              ·omega
              ·exact h (by assumption)
              ·rw[show c.cm.all eF=true by assumption]at h;cases h
           rw[ab8 e]
           first
             |rw[ab7 (.inl (by omega))]
             |rw[ab7 (.inr (.inl (by assumption)))]
             |rw[ab7 (.inr (.inr (by assumption)))]
             |(rw[ab8]
               rintro(h|h|h)
               ·omega
               ·exact h (by assumption)
               ·rw[show c.scopes.all isWord=true by assumption]at h;cases h)))
  refine .sr<|.fa rfl<|.lo rfl<|.q (.dl o) ?_
  refine .q .lss<|.mo rfl ?_
  refine .split (t:=18) rfl (λj=>?_) (λj=>?_)
  refine .gF j<|.gF j<|.gF j<|.gF j<|.q (.aY j) ?_
  refine .mo rfl<|.gX<|.gX<|.gX<|.gX<|.q .ca<|.mo rfl<|.gX<|.gX<|.gX<|.gX<|.q .ca<|.az rfl<|.dF<|.sr<|.az rfl ?_
  refine .ret (br (aL (aO rfl ?_)))
  ·refine⟨?_,rfl⟩
   congr 1
   unfold bA.check
   simp only[aci,acj,ace,ack]at *
   have d:dt c.id=true->¬dt c.id=false:=λh=>by rw[h];simp
   have f:ez c.cD=true->¬ez c.cD=false:=λh=>by rw[h];simp
   first
     |rw[ab7 (by assumption)]
     |rw[ab8 (d (by assumption)),ab7 (by assumption)]
     |(rw[ab8 (d (by assumption)),ab8 (f (by assumption))]
       have n:∀{a b:Prop},a->b->(a/\b):=λx y=>⟨x,y⟩
       first
         |rw[ab7 (.inl (by omega))]
         |rw[ab7 (.inr (.inl (by omega)))]
         |rw[ab7 (.inr (.inr (.inl (by assumption))))]
         |rw[ab7 (.inr (.inr (.inr (by assumption))))]
         |(have e:¬(c.cm.length<1\/8<c.cm.length\/¬c.cm.Nodup\/c.cm.all eF=false):=by
              rintro(h|h|h|h)
              ·omega
              ·omega
              ·exact h (by assumption)
              ·rw[show c.cm.all eF=true by assumption]at h;cases h
           rw[ab8 e]
           first
             |rw[ab7 (.inl (by omega))]
             |rw[ab7 (.inr (.inl (by assumption)))]
             |rw[ab7 (.inr (.inr (by assumption)))]
             |(rw[ab8]
               rintro(h|h|h)
               ·omega
               ·exact h (by assumption)
               ·rw[show c.scopes.all isWord=true by assumption]at h;cases h)))
  refine .gT j<|.fa rfl<|.gT j<|.lo rfl<|.gT j<|.q (.dl o) ?_
  refine .gT j<|.q .gtr<|.q (.aS j) ?_
  refine .mo rfl ?_
  refine .split (t:=24) rfl (λg=>?_) (λg=>?_)
  refine .gF g<|.gF g<|.gF g<|.gF g<|.q (.aY g) ?_
  refine .mo rfl<|.gX<|.gX<|.gX<|.gX<|.q .ca<|.az rfl<|.dF<|.sr<|.az rfl ?_
  refine .ret (br (aL (aO rfl ?_)))
  ·refine⟨?_,rfl⟩
   congr 1
   unfold bA.check
   simp only[aci,acj,ace,ack]at *
   have d:dt c.id=true->¬dt c.id=false:=λh=>by rw[h];simp
   have f:ez c.cD=true->¬ez c.cD=false:=λh=>by rw[h];simp
   first
     |rw[ab7 (by assumption)]
     |rw[ab8 (d (by assumption)),ab7 (by assumption)]
     |(rw[ab8 (d (by assumption)),ab8 (f (by assumption))]
       have n:∀{a b:Prop},a->b->(a/\b):=λx y=>⟨x,y⟩
       first
         |rw[ab7 (.inl (by omega))]
         |rw[ab7 (.inr (.inl (by omega)))]
         |rw[ab7 (.inr (.inr (.inl (by assumption))))]
         |rw[ab7 (.inr (.inr (.inr (by assumption))))]
         |(have e:¬(c.cm.length<1\/8<c.cm.length\/¬c.cm.Nodup\/c.cm.all eF=false):=by
              rintro(h|h|h|h)
              ·omega
              ·omega
              ·exact h (by assumption)
              ·rw[show c.cm.all eF=true by assumption]at h;cases h
           rw[ab8 e]
           first
             |rw[ab7 (.inl (by omega))]
             |rw[ab7 (.inr (.inl (by assumption)))]
             |rw[ab7 (.inr (.inr (by assumption)))]
             |(rw[ab8]
               rintro(h|h|h)
               ·omega
               ·exact h (by assumption)
               ·rw[show c.scopes.all isWord=true by assumption]at h;cases h)))
  refine .gT g<|.fa rfl<|.gT g<|.lo rfl<|.gT g ?_
  refine .aM (rJ C c.cm _ o.rx) (λv m=>?_)
  subst m
  refine .gT g<|.q .not<|.q (.aS g) ?_
  refine .mo rfl ?_
  refine .split (t:=30) rfl (λi=>?_) (λi=>?_)
  refine .gF i<|.gF i<|.gF i<|.gF i<|.q (.aY i) ?_
  refine .az rfl<|.dF<|.sr<|.az rfl ?_
  refine .ret (br (aL (aO rfl ?_)))
  ·refine⟨?_,rfl⟩
   congr 1
   unfold bA.check
   simp only[aci,acj,ace,ack]at *
   have d:dt c.id=true->¬dt c.id=false:=λh=>by rw[h];simp
   have f:ez c.cD=true->¬ez c.cD=false:=λh=>by rw[h];simp
   first
     |rw[ab7 (by assumption)]
     |rw[ab8 (d (by assumption)),ab7 (by assumption)]
     |(rw[ab8 (d (by assumption)),ab8 (f (by assumption))]
       have n:∀{a b:Prop},a->b->(a/\b):=λx y=>⟨x,y⟩
       first
         |rw[ab7 (.inl (by omega))]
         |rw[ab7 (.inr (.inl (by omega)))]
         |rw[ab7 (.inr (.inr (.inl (by assumption))))]
         |rw[ab7 (.inr (.inr (.inr (by assumption))))]
         |(have e:¬(c.cm.length<1\/8<c.cm.length\/¬c.cm.Nodup\/c.cm.all eF=false):=by
              rintro(h|h|h|h)
              ·omega
              ·omega
              ·exact h (by assumption)
              ·rw[show c.cm.all eF=true by assumption]at h;cases h
           rw[ab8 e]
           first
             |rw[ab7 (.inl (by omega))]
             |rw[ab7 (.inr (.inl (by assumption)))]
             |rw[ab7 (.inr (.inr (by assumption)))]
             |(rw[ab8]
               rintro(h|h|h)
               ·omega
               ·exact h (by assumption)
               ·rw[show c.scopes.all isWord=true by assumption]at h;cases h)))
  refine .gT i<|.fa rfl<|.gT i<|.lo rfl<|.gT i ?_
  refine .aM (uf 192 eF C c.cm _ o.rx λs w u=>zb s (F s w) u) (λv m=>?_)
  subst m
  refine .gT i<|.q .not<|.q (.aS i) ?_
  refine .az rfl ?_
  refine .cond rfl (λJ=>?_) λJ=>?_
  refine .sr<|.az rfl ?_
  refine .ret (br (aL (aO rfl ?_)))
  ·refine⟨?_,rfl⟩
   congr 1
   unfold bA.check
   simp only[aci,acj,ace,ack]at *
   have d:dt c.id=true->¬dt c.id=false:=λh=>by rw[h];simp
   have f:ez c.cD=true->¬ez c.cD=false:=λh=>by rw[h];simp
   first
     |rw[ab7 (by assumption)]
     |rw[ab8 (d (by assumption)),ab7 (by assumption)]
     |(rw[ab8 (d (by assumption)),ab8 (f (by assumption))]
       have n:∀{a b:Prop},a->b->(a/\b):=λx y=>⟨x,y⟩
       first
         |rw[ab7 (.inl (by omega))]
         |rw[ab7 (.inr (.inl (by omega)))]
         |rw[ab7 (.inr (.inr (.inl (by assumption))))]
         |rw[ab7 (.inr (.inr (.inr (by assumption))))]
         |(have e:¬(c.cm.length<1\/8<c.cm.length\/¬c.cm.Nodup\/c.cm.all eF=false):=by
              rintro(h|h|h|h)
              ·omega
              ·omega
              ·exact h (by assumption)
              ·rw[show c.cm.all eF=true by assumption]at h;cases h
           rw[ab8 e]
           first
             |rw[ab7 (.inl (by omega))]
             |rw[ab7 (.inr (.inl (by assumption)))]
             |rw[ab7 (.inr (.inr (by assumption)))]
             |(rw[ab8]
               rintro(h|h|h)
               ·omega
               ·exact h (by assumption)
               ·rw[show c.scopes.all isWord=true by assumption]at h;cases h)))
  refine .sr<|.fa rfl<|.lo rfl<|.q (.dl p) ?_
  refine .q .gtr<|.mo rfl ?_
  refine .split (t:=41) rfl (λl=>?_) (λl=>?_)
  refine .gF l<|.gF l<|.gF l<|.gF l<|.q (.aY l) ?_
  refine .mo rfl<|.gX<|.gX<|.gX<|.gX<|.q .ca<|.az rfl<|.dF<|.sr<|.az rfl ?_
  refine .ret (br (aL (aO rfl ?_)))
  ·refine⟨?_,rfl⟩
   congr 1
   unfold bA.check
   simp only[aci,acj,ace,ack]at *
   have d:dt c.id=true->¬dt c.id=false:=λh=>by rw[h];simp
   have f:ez c.cD=true->¬ez c.cD=false:=λh=>by rw[h];simp
   first
     |rw[ab7 (by assumption)]
     |rw[ab8 (d (by assumption)),ab7 (by assumption)]
     |(rw[ab8 (d (by assumption)),ab8 (f (by assumption))]
       have n:∀{a b:Prop},a->b->(a/\b):=λx y=>⟨x,y⟩
       first
         |rw[ab7 (.inl (by omega))]
         |rw[ab7 (.inr (.inl (by omega)))]
         |rw[ab7 (.inr (.inr (.inl (by assumption))))]
         |rw[ab7 (.inr (.inr (.inr (by assumption))))]
         |(have e:¬(c.cm.length<1\/8<c.cm.length\/¬c.cm.Nodup\/c.cm.all eF=false):=by
              rintro(h|h|h|h)
              ·omega
              ·omega
              ·exact h (by assumption)
              ·rw[show c.cm.all eF=true by assumption]at h;cases h
           rw[ab8 e]
           first
             |rw[ab7 (.inl (by omega))]
             |rw[ab7 (.inr (.inl (by assumption)))]
             |rw[ab7 (.inr (.inr (by assumption)))]
             |(rw[ab8]
               rintro(h|h|h)
               ·omega
               ·exact h (by assumption)
               ·rw[show c.scopes.all isWord=true by assumption]at h;cases h)))
  refine .gT l<|.fa rfl<|.gT l<|.lo rfl<|.gT l ?_
  refine .aM (rJ B c.scopes _ p.rx) (λv m=>?_)
  subst m
  refine .gT l<|.q .not<|.q (.aS l) ?_
  refine .mo rfl ?_
  refine .split (t:=47) rfl (λk=>?_) (λk=>?_)
  refine .gF k<|.gF k<|.gF k<|.gF k<|.q (.aY k) ?_
  refine .az rfl<|.dF<|.sr<|.az rfl ?_
  refine .ret (br (aL (aO rfl ?_)))
  ·refine⟨?_,rfl⟩
   congr 1
   unfold bA.check
   simp only[aci,acj,ace,ack]at *
   have d:dt c.id=true->¬dt c.id=false:=λh=>by rw[h];simp
   have f:ez c.cD=true->¬ez c.cD=false:=λh=>by rw[h];simp
   first
     |rw[ab7 (by assumption)]
     |rw[ab8 (d (by assumption)),ab7 (by assumption)]
     |(rw[ab8 (d (by assumption)),ab8 (f (by assumption))]
       have n:∀{a b:Prop},a->b->(a/\b):=λx y=>⟨x,y⟩
       first
         |rw[ab7 (.inl (by omega))]
         |rw[ab7 (.inr (.inl (by omega)))]
         |rw[ab7 (.inr (.inr (.inl (by assumption))))]
         |rw[ab7 (.inr (.inr (.inr (by assumption))))]
         |(have e:¬(c.cm.length<1\/8<c.cm.length\/¬c.cm.Nodup\/c.cm.all eF=false):=by
              rintro(h|h|h|h)
              ·omega
              ·omega
              ·exact h (by assumption)
              ·rw[show c.cm.all eF=true by assumption]at h;cases h
           rw[ab8 e]
           first
             |rw[ab7 (.inl (by omega))]
             |rw[ab7 (.inr (.inl (by assumption)))]
             |rw[ab7 (.inr (.inr (by assumption)))]
             |(rw[ab8]
               rintro(h|h|h)
               ·omega
               ·exact h (by assumption)
               ·rw[show c.scopes.all isWord=true by assumption]at h;cases h)))
  refine .gT k<|.fa rfl<|.gT k<|.lo rfl<|.gT k ?_
  refine .aM (uf 193 isWord B c.scopes _ p.rx λs w u=>O5 s (G s w) u) (λv m=>?_)
  subst m
  refine .gT k<|.q .not<|.q (.aS k) ?_
  refine .az rfl ?_
  refine .cond rfl (λK=>?_) λK=>?_
  refine .sr<|.az rfl ?_
  refine .ret (br (aL (aO rfl ?_)))
  ·refine⟨?_,rfl⟩
   congr 1
   unfold bA.check
   simp only[aci,acj,ace,ack]at *
   have d:dt c.id=true->¬dt c.id=false:=λh=>by rw[h];simp
   have f:ez c.cD=true->¬ez c.cD=false:=λh=>by rw[h];simp
   first
     |rw[ab7 (by assumption)]
     |rw[ab8 (d (by assumption)),ab7 (by assumption)]
     |(rw[ab8 (d (by assumption)),ab8 (f (by assumption))]
       have n:∀{a b:Prop},a->b->(a/\b):=λx y=>⟨x,y⟩
       first
         |rw[ab7 (.inl (by omega))]
         |rw[ab7 (.inr (.inl (by omega)))]
         |rw[ab7 (.inr (.inr (.inl (by assumption))))]
         |rw[ab7 (.inr (.inr (.inr (by assumption))))]
         |(have e:¬(c.cm.length<1\/8<c.cm.length\/¬c.cm.Nodup\/c.cm.all eF=false):=by
              rintro(h|h|h|h)
              ·omega
              ·omega
              ·exact h (by assumption)
              ·rw[show c.cm.all eF=true by assumption]at h;cases h
           rw[ab8 e]
           first
             |rw[ab7 (.inl (by omega))]
             |rw[ab7 (.inr (.inl (by assumption)))]
             |rw[ab7 (.inr (.inr (by assumption)))]
             |(rw[ab8]
               rintro(h|h|h)
               ·omega
               ·exact h (by assumption)
               ·rw[show c.scopes.all isWord=true by assumption]at h;cases h)))
  refine .skip<|bz<|aD<|.sr<|.az rfl ?_
  refine .ret (aO rfl ?_)
  ·refine⟨?_,rfl⟩
   congr 1
   unfold bA.check
   simp only[aci,acj,ace,ack]at *
   have d:dt c.id=true->¬dt c.id=false:=λh=>by rw[h];simp
   have f:ez c.cD=true->¬ez c.cD=false:=λh=>by rw[h];simp
   first
     |rw[ab7 (by assumption)]
     |rw[ab8 (d (by assumption)),ab7 (by assumption)]
     |(rw[ab8 (d (by assumption)),ab8 (f (by assumption))]
       have n:∀{a b:Prop},a->b->(a/\b):=λx y=>⟨x,y⟩
       first
         |rw[ab7 (.inl (by omega))]
         |rw[ab7 (.inr (.inl (by omega)))]
         |rw[ab7 (.inr (.inr (.inl (by assumption))))]
         |rw[ab7 (.inr (.inr (.inr (by assumption))))]
         |(have e:¬(c.cm.length<1\/8<c.cm.length\/¬c.cm.Nodup\/c.cm.all eF=false):=by
              rintro(h|h|h|h)
              ·omega
              ·omega
              ·exact h (by assumption)
              ·rw[show c.cm.all eF=true by assumption]at h;cases h
           rw[ab8 e]
           first
             |rw[ab7 (.inl (by omega))]
             |rw[ab7 (.inr (.inl (by assumption)))]
             |rw[ab7 (.inr (.inr (by assumption)))]
             |(rw[ab8]
               rintro(h|h|h)
               ·omega
               ·exact h (by assumption)
               ·rw[show c.scopes.all isWord=true by assumption]at h;cases h)))
theorem kI{c:bA}(h:dt c.id=false):c.check=9:=by unfold bA.check;rw[ab7 h]
theorem gm{c:bA}(a:dt c.id=true)(h:ez c.cD=false):c.check=4:=by
 unfold bA.check;rw[ab8 (by rw[a];simp),ab7 h]
theorem dM{c:bA}(a:dt c.id=true)(b:ez c.cD=true)(h:c.cm.length<1\/8<c.cm.length\/¬c.cm.Nodup\/c.cm.all eF=false):c.check=4:=by
 unfold bA.check;rw[ab8 (by rw[a];simp),ab8 (by rw[b];simp),ab7 h]
theorem eO{c:bA}(a:dt c.id=true)(b:ez c.cD=true)(h:16<c.scopes.length\/¬c.scopes.Nodup\/c.scopes.all isWord=false):c.check=4:=by
 unfold bA.check;rw[ab8 (by rw[a];simp),ab8 (by rw[b];simp)]
 split
 ·rfl
 ·simp only[h,if_true]
theorem kJ{c:bA}(a:dt c.id=true)(b:ez c.cD=true)(i:1<=c.cm.length)(j:c.cm.length<=8)(d:c.cm.Nodup)(e:c.cm.all eF=true)(k:c.scopes.length<=16)(f:c.scopes.Nodup)(g:c.scopes.all isWord=true):c.check=0:=by
 unfold bA.check
 rw[ab8 (by rw[a];simp),ab8 (by rw[b];simp),ab8,ab8]
 ·rintro(h|h|h)
  ·omega
  ·exact h f
  ·rw[g]at h;cases h
 ·rintro(h|h|h|h)
  ·omega
  ·omega
  ·exact h d
  ·rw[e]at h;cases h
theorem jT{s:ByteArray}:ez s=false↔s≠⟨#[]⟩/\(s.size<8\/64<s.size\/fb s fR=false):=by
 unfold ez
 by_cases h:s=⟨#[]⟩
 ·simp[h]
 ·by_cases a:8<=s.size
  ·by_cases b:s.size<=64
   ·simp[h,a,b,show ¬s.size<8 by omega,show ¬64<s.size by omega]
   ·simp[h,b,show 64<s.size by omega]
  ·simp[h,a,show s.size<8 by omega]
theorem xX{s:ByteArray}(h:s=⟨#[]⟩):ez s=true:=by unfold ez;rw[ab9 h];rfl
theorem xY{s:ByteArray}(a:8<=s.size)(b:s.size<=64)(c:fb s fR=true):ez s=true:=by
 unfold ez;rw[ab9 a,ab9 b,c];simp
theorem tJ{l:List ByteArray}{p:ByteArray->Bool}{i:Nat}{z:ByteArray}(b:l[i]? =some z)(h:(l.take i).all p=true)(a:p z=true):(l.take (i+1)).all p=true:=by
 rw[acz,b,List.all_append,h];simp[a]
theorem gk{l:List ByteArray}{p:ByteArray->Bool}{i:Nat}{z:ByteArray}(b:l[i]? =some z)(a:p z=false):l.all p=false:=by
 rw[List.all_eq_false];exact⟨z,bU b,by rw[a];simp⟩
theorem MD(r:CR)(c:bA)(R:av)(h:eV R r c)(Z:c.fits):Spec prog 93 [.agg r.cells.toArray] R [] λv H'=>v=.int .i64 c.check/\H'=[]:=by
 obtain⟨a0,a1,J,I⟩:=r
 obtain⟨S,T,F,G⟩:=h
 simp only at S T F G
 subst S;subst T
 obtain⟨U,V,W,Y⟩:=Z
 have i1:=F.aw
 have i2:=G.aw
 have ul:=F.le
 have sl:=G.le
 refine Spec.body func93 rfl results93 ntmps93 rfl ?_
 refine .sr ?_
 refine .dv rfl (λH=>?_)
 refine .ag rfl<|.zs<|.sr<|.fa rfl<|.lo rfl ?_
 refine .aM (sH c.id U _) (λv E=>?_)
 subst E
 refine .q .not<|.zn ?_
 refine .cond rfl (λu=>?_) λu=>?_
 refine .sr<|.az rfl ?_
 refine .ret (aL (aO rfl ?_))
 ·refine⟨?_,rfl⟩
  congr 1
  first
   |rw[kJ a b d.1 d.2.1 d.2.2.2.1 C d.2.2.1 d.2.2.2.2 D]
   |rw[eO a b (.inr (.inr (gk f (by simpa using A))))]
   |rw[dM a b (.inr (.inr (.inr (gk f (by simpa using x)))))]
   |rw[dM a b (.inl (by have:=(by simpa using k:c.cm=[]);simp[this]))]
   |rw[dM a b (.inr (.inl (by have:=bx g;omega)))]
   |rw[eO a b (.inl (by have:=bx l;omega))]
   |rw[dM a b (.inr (.inr (.inl (by simpa using m))))]
   |rw[eO a b (.inr (.inl (by simpa using w)))]
   |rw[kI (by simpa using u)]
   |rw[gm a B]
   |rw[gm a (jT.2 ⟨by simpa using e,.inr (.inr (by simpa using o))⟩)]
 have a:dt c.id=true:=by simpa using u
 refine .kn<|.seq ?_
 refine bQ.cut (X:=Unit) (λ_=>ez c.cD=true) (λ_=>[(1,pT H)]) (λ_=>[bl H (CR.cells ⟨c.id,c.cD,J,I⟩) 25]) ?_ ?_
 refine .sr<|.fa rfl<|.lo rfl<|.q .fj<|.mo rfl ?_
 refine .split (t:=12) rfl (λe=>?_) (λe=>?_)
 refine .gT e<|.fa rfl<|.gT e<|.lo rfl<|.gT e<|.q .fG<|.gT e<|.q .lss<|.gT e<|.mo rfl ?_
 refine .split (t:=17) rfl (λs=>?_) (λs=>?_)
 have B:ez c.cD=false:=jT.2 ⟨by simpa using e,.inl (by have:=(bx s:(c.cD.size:Int)<8);omega)⟩
 refine .gF s<|.gF s<|.gF s<|.gF s<|.gT e<|.q (.aY s) ?_
 refine .gT e<|.mo rfl<|.gX<|.gX<|.gX<|.gX<|.gT e<|.q .ca<|.q (.aY e) ?_
 refine .zn<|.dF<|.sr<|.az rfl ?_
 refine .ret (iW (aL (aO rfl ?_)))
 ·refine⟨?_,rfl⟩
  congr 1
  first
   |rw[kJ a b d.1 d.2.1 d.2.2.2.1 C d.2.2.1 d.2.2.2.2 D]
   |rw[eO a b (.inr (.inr (gk f (by simpa using A))))]
   |rw[dM a b (.inr (.inr (.inr (gk f (by simpa using x)))))]
   |rw[dM a b (.inl (by have:=(by simpa using k:c.cm=[]);simp[this]))]
   |rw[dM a b (.inr (.inl (by have:=bx g;omega)))]
   |rw[eO a b (.inl (by have:=bx l;omega))]
   |rw[dM a b (.inr (.inr (.inl (by simpa using m))))]
   |rw[eO a b (.inr (.inl (by simpa using w)))]
   |rw[kI (by simpa using u)]
   |rw[gm a B]
   |rw[gm a (jT.2 ⟨by simpa using e,.inr (.inr (by simpa using o))⟩)]
 refine .gT s<|.fa rfl<|.gT s<|.lo rfl<|.gT s<|.q .fG<|.gT s<|.q .gtr<|.gT e<|.q (.aS s) ?_
 refine .gT e<|.mo rfl ?_
 refine .split (t:=23) rfl (λp=>?_) (λp=>?_)
 have B:ez c.cD=false:=jT.2 ⟨by simpa using e,.inr (.inl (by have:=(bx p:(64:Int)<c.cD.size);omega))⟩
 refine .gF p<|.gF p<|.gF p<|.gF p<|.gT e<|.q (.aY p) ?_
 refine .q (.aY e) ?_
 refine .zn<|.dF<|.sr<|.az rfl ?_
 refine .ret (iW (aL (aO rfl ?_)))
 ·refine⟨?_,rfl⟩
  congr 1
  first
   |rw[kJ a b d.1 d.2.1 d.2.2.2.1 C d.2.2.1 d.2.2.2.2 D]
   |rw[eO a b (.inr (.inr (gk f (by simpa using A))))]
   |rw[dM a b (.inr (.inr (.inr (gk f (by simpa using x)))))]
   |rw[dM a b (.inl (by have:=(by simpa using k:c.cm=[]);simp[this]))]
   |rw[dM a b (.inr (.inl (by have:=bx g;omega)))]
   |rw[eO a b (.inl (by have:=bx l;omega))]
   |rw[dM a b (.inr (.inr (.inl (by simpa using m))))]
   |rw[eO a b (.inr (.inl (by simpa using w)))]
   |rw[kI (by simpa using u)]
   |rw[gm a B]
   |rw[gm a (jT.2 ⟨by simpa using e,.inr (.inr (by simpa using o))⟩)]
 refine .gT p<|.fa rfl<|.gT p<|.lo rfl<|.gT p ?_
 refine .aM (xn c.cD V _) (λv E=>?_)
 subst E
 refine .gT p<|.q .not<|.gT e<|.q (.aS p) ?_
 refine .q (.aY e) ?_
 refine .zn ?_
 refine .cond rfl (λo=>?_) λo=>?_
 refine .sr<|.az rfl ?_
 refine .ret (iW (aL (aO rfl ?_)))
 ·refine⟨?_,rfl⟩
  congr 1
  first
   |rw[kJ a b d.1 d.2.1 d.2.2.2.1 C d.2.2.1 d.2.2.2.2 D]
   |rw[eO a b (.inr (.inr (gk f (by simpa using A))))]
   |rw[dM a b (.inr (.inr (.inr (gk f (by simpa using x)))))]
   |rw[dM a b (.inl (by have:=(by simpa using k:c.cm=[]);simp[this]))]
   |rw[dM a b (.inr (.inl (by have:=bx g;omega)))]
   |rw[eO a b (.inl (by have:=bx l;omega))]
   |rw[dM a b (.inr (.inr (.inl (by simpa using m))))]
   |rw[eO a b (.inr (.inl (by simpa using w)))]
   |rw[kI (by simpa using u)]
   |rw[gm a B]
   |rw[gm a (jT.2 ⟨by simpa using e,.inr (.inr (by simpa using o))⟩)]
 refine .skip ?_
 ·refine aB () ?_ kE.c rH
  first
   |exact xX (by simpa using e)
   |exact xY (by have:=(bo s:¬(c.cD.size:Int)<8);omega) (by have:=(bo p:¬(64:Int)<c.cD.size);omega) (by simpa using o)
 refine .gF e<|.gF e<|.gF e<|.gF e<|.gF e<|.cX rfl ?_
 refine .cX rfl ?_
 refine .cX rfl ?_
 refine .cX rfl ?_
 refine .gF e<|.gF e<|.cX rfl ?_
 refine .cX rfl ?_
 refine .cX rfl ?_
 refine .cX rfl ?_
 refine .gF e<|.q (.aS e) ?_
 refine .zn<|.bZ<|.skip ?_
 ·refine aB () ?_ kE.c rH
  first
   |exact xX (by simpa using e)
   |exact xY (by have:=(bo s:¬(c.cD.size:Int)<8);omega) (by have:=(bo p:¬(64:Int)<c.cD.size);omega) (by simpa using o)
 intro y b
 refine aD<|.seq<|.sr<|.fa rfl<|.lo rfl<|.q (.dl F) ?_
 refine .q .bS<|.mo rfl ?_
 refine .split (t:=34) rfl (λk=>?_) (λk=>?_)
 refine .gF k<|.gF k<|.gF k<|.gF k<|.q (.aY k) ?_
 refine .mo rfl<|.gX<|.gX<|.gX<|.gX<|.q .ca<|.mo rfl<|.gX<|.gX<|.gX<|.q .ca<|.mo rfl<|.gX<|.gX<|.gX<|.q .ca<|.zn<|.dF<|.sr<|.az rfl ?_
 refine .ret (aL (aO rfl ?_))
 ·refine⟨?_,rfl⟩
  congr 1
  first
   |rw[kJ a b d.1 d.2.1 d.2.2.2.1 C d.2.2.1 d.2.2.2.2 D]
   |rw[eO a b (.inr (.inr (gk f (by simpa using A))))]
   |rw[dM a b (.inr (.inr (.inr (gk f (by simpa using x)))))]
   |rw[dM a b (.inl (by have:=(by simpa using k:c.cm=[]);simp[this]))]
   |rw[dM a b (.inr (.inl (by have:=bx g;omega)))]
   |rw[eO a b (.inl (by have:=bx l;omega))]
   |rw[dM a b (.inr (.inr (.inl (by simpa using m))))]
   |rw[eO a b (.inr (.inl (by simpa using w)))]
   |rw[kI (by simpa using u)]
   |rw[gm a B]
   |rw[gm a (jT.2 ⟨by simpa using e,.inr (.inr (by simpa using o))⟩)]
 refine .gT k<|.fa rfl<|.gT k<|.lo rfl<|.gT k<|.q (.dl F) ?_
 refine .gT k<|.q .gtr<|.q (.aS k) ?_
 refine .mo rfl ?_
 refine .split (t:=40) rfl (λg=>?_) (λg=>?_)
 refine .gF g<|.gF g<|.gF g<|.gF g<|.q (.aY g) ?_
 refine .mo rfl<|.gX<|.gX<|.gX<|.q .ca<|.mo rfl<|.gX<|.gX<|.gX<|.q .ca<|.zn<|.dF<|.sr<|.az rfl ?_
 refine .ret (aL (aO rfl ?_))
 ·refine⟨?_,rfl⟩
  congr 1
  first
   |rw[kJ a b d.1 d.2.1 d.2.2.2.1 C d.2.2.1 d.2.2.2.2 D]
   |rw[eO a b (.inr (.inr (gk f (by simpa using A))))]
   |rw[dM a b (.inr (.inr (.inr (gk f (by simpa using x)))))]
   |rw[dM a b (.inl (by have:=(by simpa using k:c.cm=[]);simp[this]))]
   |rw[dM a b (.inr (.inl (by have:=bx g;omega)))]
   |rw[eO a b (.inl (by have:=bx l;omega))]
   |rw[dM a b (.inr (.inr (.inl (by simpa using m))))]
   |rw[eO a b (.inr (.inl (by simpa using w)))]
   |rw[kI (by simpa using u)]
   |rw[gm a B]
   |rw[gm a (jT.2 ⟨by simpa using e,.inr (.inr (by simpa using o))⟩)]
 refine .gT g<|.fa rfl<|.gT g<|.lo rfl<|.gT g<|.q (.dl G) ?_
 refine .gT g<|.q .gtr<|.q (.aS g) ?_
 refine .mo rfl ?_
 refine .split (t:=46) rfl (λl=>?_) (λl=>?_)
 refine .gF l<|.gF l<|.gF l<|.q (.aY l) ?_
 refine .mo rfl<|.gX<|.gX<|.gX<|.q .ca<|.zn<|.dF<|.sr<|.az rfl ?_
 refine .ret (aL (aO rfl ?_))
 ·refine⟨?_,rfl⟩
  congr 1
  first
   |rw[kJ a b d.1 d.2.1 d.2.2.2.1 C d.2.2.1 d.2.2.2.2 D]
   |rw[eO a b (.inr (.inr (gk f (by simpa using A))))]
   |rw[dM a b (.inr (.inr (.inr (gk f (by simpa using x)))))]
   |rw[dM a b (.inl (by have:=(by simpa using k:c.cm=[]);simp[this]))]
   |rw[dM a b (.inr (.inl (by have:=bx g;omega)))]
   |rw[eO a b (.inl (by have:=bx l;omega))]
   |rw[dM a b (.inr (.inr (.inl (by simpa using m))))]
   |rw[eO a b (.inr (.inl (by simpa using w)))]
   |rw[kI (by simpa using u)]
   |rw[gm a B]
   |rw[gm a (jT.2 ⟨by simpa using e,.inr (.inr (by simpa using o))⟩)]
 refine .gT l<|.fa rfl<|.gT l<|.lo rfl<|.gT l ?_
 refine .aM (td J c.cm _ F.rx) (λv E=>?_)
 subst E
 refine .q (.aS l) ?_
 refine .mo rfl ?_
 refine .split (t:=51) rfl (λm=>?_) (λm=>?_)
 refine .gF m<|.gF m<|.gF m<|.q (.aY m) ?_
 refine .zn<|.dF<|.sr<|.az rfl ?_
 refine .ret (aL (aO rfl ?_))
 ·refine⟨?_,rfl⟩
  congr 1
  first
   |rw[kJ a b d.1 d.2.1 d.2.2.2.1 C d.2.2.1 d.2.2.2.2 D]
   |rw[eO a b (.inr (.inr (gk f (by simpa using A))))]
   |rw[dM a b (.inr (.inr (.inr (gk f (by simpa using x)))))]
   |rw[dM a b (.inl (by have:=(by simpa using k:c.cm=[]);simp[this]))]
   |rw[dM a b (.inr (.inl (by have:=bx g;omega)))]
   |rw[eO a b (.inl (by have:=bx l;omega))]
   |rw[dM a b (.inr (.inr (.inl (by simpa using m))))]
   |rw[eO a b (.inr (.inl (by simpa using w)))]
   |rw[kI (by simpa using u)]
   |rw[gm a B]
   |rw[gm a (jT.2 ⟨by simpa using e,.inr (.inr (by simpa using o))⟩)]
 refine .gT m<|.fa rfl<|.gT m<|.lo rfl<|.gT m ?_
 refine .aM (td I c.scopes _ G.rx) (λv E=>?_)
 subst E
 refine .q (.aS m) ?_
 refine .zn ?_
 refine .cond rfl (λw=>?_) λw=>?_
 refine .sr<|.az rfl ?_
 refine .ret (aL (aO rfl ?_))
 ·refine⟨?_,rfl⟩
  congr 1
  first
   |rw[kJ a b d.1 d.2.1 d.2.2.2.1 C d.2.2.1 d.2.2.2.2 D]
   |rw[eO a b (.inr (.inr (gk f (by simpa using A))))]
   |rw[dM a b (.inr (.inr (.inr (gk f (by simpa using x)))))]
   |rw[dM a b (.inl (by have:=(by simpa using k:c.cm=[]);simp[this]))]
   |rw[dM a b (.inr (.inl (by have:=bx g;omega)))]
   |rw[eO a b (.inl (by have:=bx l;omega))]
   |rw[dM a b (.inr (.inr (.inl (by simpa using m))))]
   |rw[eO a b (.inr (.inl (by simpa using w)))]
   |rw[kI (by simpa using u)]
   |rw[gm a B]
   |rw[gm a (jT.2 ⟨by simpa using e,.inr (.inr (by simpa using o))⟩)]
 have d:1<=c.cm.length/\c.cm.length<=8/\c.scopes.length<=16/\c.cm.Nodup/\c.scopes.Nodup:=by
  refine⟨?_,?_,?_,?_,?_⟩
  ·have:c.cm.length≠0:=by simpa using k
   omega
  ·have:=bo g;omega
  ·have:=bo l;omega
  ·simpa using m
  ·simpa using w
 refine .kn<|.seq<|.sr<|.az rfl<|.block ?_
 refine .loop (X:=Nat) (λi=>i<=c.cm.length/\(c.cm.take i).all eF=true) (λi=>[(1,pT H),(3,iN i)]) (λ_=>[bl H (CR.cells ⟨c.id,c.cD,J,I⟩) 25]) (λi=>c.cm.length-i) 0 ⟨by omega,by simp⟩ kE.c.c rH ?_
 rintro i ⟨hi,Q⟩
 refine .seq<|.sr<|.mo rfl<|.fa rfl<|.lo rfl<|.q (.dl F) ?_
 refine .q .lss<|.zn ?_
 refine .cond rfl (λK=>?_) λK=>?_
 have N:i<c.cm.length:=by simp at K;omega
 obtain⟨z,f⟩:=dN N
 have pz:PC R (eK J (i*1)) (bB z):=F.pc f
 refine .kn<|.seq<|.block<|.sr<|.fa rfl<|.lo rfl<|.mo rfl<|.q (.cu i F f rfl rfl rfl) ?_
 refine .lo rfl ?_
 refine .aM (MA z (W z (bU f)) _) (λv E=>?_)
 subst E
 refine .q .not<|.zn ?_
 refine .cond rfl (λx=>?_) λx=>?_
 refine .sr<|.az rfl ?_
 refine .ret (br (aL (dn (br (aL (aO rfl ?_))))))
 ·refine⟨?_,rfl⟩
  congr 1
  first
   |rw[kJ a b d.1 d.2.1 d.2.2.2.1 C d.2.2.1 d.2.2.2.2 D]
   |rw[eO a b (.inr (.inr (gk f (by simpa using A))))]
   |rw[dM a b (.inr (.inr (.inr (gk f (by simpa using x)))))]
   |rw[dM a b (.inl (by have:=(by simpa using k:c.cm=[]);simp[this]))]
   |rw[dM a b (.inr (.inl (by have:=bx g;omega)))]
   |rw[eO a b (.inl (by have:=bx l;omega))]
   |rw[dM a b (.inr (.inr (.inl (by simpa using m))))]
   |rw[eO a b (.inr (.inl (by simpa using w)))]
   |rw[kI (by simpa using u)]
   |rw[gm a B]
   |rw[gm a (jT.2 ⟨by simpa using e,.inr (.inr (by simpa using o))⟩)]
 refine .skip<|bz<|aD<|.region<|.mo rfl ?_
 refine .q (.inc (n:=i) (by omega)) ?_
 refine .ag rfl<|.nil ?_
 ·exact bf (i+1) ⟨by omega,tJ f Q (by simpa using x)⟩ (by omega) kE.c.c rH
 have C:c.cm.all eF=true:=by
  have M:i=c.cm.length:=by simp at K;omega
  rw[M,ach]at Q
  exact Q
 refine .exit<|bD<|bH<|bF<|aD<|.seq<|.sr<|.az rfl<|.block ?_
 refine .loop (X:=Nat) (λi=>i<=c.scopes.length/\(c.scopes.take i).all isWord=true) (λi=>[(1,pT H),(4,iN i)]) (λ_=>[bl H (CR.cells ⟨c.id,c.cD,J,I⟩) 25]) (λi=>c.scopes.length-i) 0 ⟨by omega,by simp⟩ kE.c.c rH ?_
 rintro j ⟨hj,O⟩
 refine .seq<|.sr<|.mo rfl<|.fa rfl<|.lo rfl<|.q (.dl G) ?_
 refine .q .lss<|.zn ?_
 refine .cond rfl (λL=>?_) λL=>?_
 have N:j<c.scopes.length:=by simp at L;omega
 obtain⟨z,f⟩:=dN N
 have pz:PC R (eK I (j*1)) (bB z):=G.pc f
 refine .kn<|.seq<|.block<|.sr<|.fa rfl<|.lo rfl<|.mo rfl<|.q (.cu j G f rfl rfl rfl) ?_
 refine .lo rfl ?_
 refine .aM (M5 z (Y z (bU f)) _) (λv E=>?_)
 subst E
 refine .q .not<|.zn ?_
 refine .cond rfl (λA=>?_) λA=>?_
 refine .sr<|.az rfl ?_
 refine .ret (br (aL (dn (br (aL (aO rfl ?_))))))
 ·refine⟨?_,rfl⟩
  congr 1
  first
   |rw[kJ a b d.1 d.2.1 d.2.2.2.1 C d.2.2.1 d.2.2.2.2 D]
   |rw[eO a b (.inr (.inr (gk f (by simpa using A))))]
   |rw[dM a b (.inr (.inr (.inr (gk f (by simpa using x)))))]
   |rw[dM a b (.inl (by have:=(by simpa using k:c.cm=[]);simp[this]))]
   |rw[dM a b (.inr (.inl (by have:=bx g;omega)))]
   |rw[eO a b (.inl (by have:=bx l;omega))]
   |rw[dM a b (.inr (.inr (.inl (by simpa using m))))]
   |rw[eO a b (.inr (.inl (by simpa using w)))]
   |rw[kI (by simpa using u)]
   |rw[gm a B]
   |rw[gm a (jT.2 ⟨by simpa using e,.inr (.inr (by simpa using o))⟩)]
 refine .skip<|bz<|aD<|.region<|.mo rfl ?_
 refine .q (.inc (n:=j) (by omega)) ?_
 refine .ag rfl<|.nil ?_
 ·exact bf (j+1) ⟨by omega,tJ f O (by simpa using A)⟩ (by omega) kE.c.c rH
 have D:c.scopes.all isWord=true:=by
  have M:j=c.scopes.length:=by simp at L;omega
  rw[M,ach]at O
  exact O
 refine .exit<|bD<|bH<|bF<|aD<|.sr<|.az rfl ?_
 refine .ret (aO rfl ?_)
 ·refine⟨?_,rfl⟩
  congr 1
  first
   |rw[kJ a b d.1 d.2.1 d.2.2.2.1 C d.2.2.1 d.2.2.2.2 D]
   |rw[eO a b (.inr (.inr (gk f (by simpa using A))))]
   |rw[dM a b (.inr (.inr (.inr (gk f (by simpa using x)))))]
   |rw[dM a b (.inl (by have:=(by simpa using k:c.cm=[]);simp[this]))]
   |rw[dM a b (.inr (.inl (by have:=bx g;omega)))]
   |rw[eO a b (.inl (by have:=bx l;omega))]
   |rw[dM a b (.inr (.inr (.inl (by simpa using m))))]
   |rw[eO a b (.inr (.inl (by simpa using w)))]
   |rw[kI (by simpa using u)]
   |rw[gm a B]
   |rw[gm a (jT.2 ⟨by simpa using e,.inr (.inr (by simpa using o))⟩)]
def bA.eo(c:bA):Prop:=c.cm.length<=1000000/\c.scopes.length<=1000000
def bA.zero:bA:=⟨⟨#[]⟩,⟨#[]⟩,[],[]⟩
def CR.zero:CR:=⟨⟨#[]⟩,⟨#[]⟩,sZ,sZ⟩
theorem eV.zero(R:av):eV R CR.zero bA.zero:=⟨rfl,rfl,RS.nQ,RS.nQ⟩
theorem rC(r:CR)(c:bA)(R:av)(h:eV R r c)(i:c.eo):Spec prog 129 [.agg r.cells.toArray] R [] λv H'=>∃T,H'=[T]/\∃r',v=.agg r'.cells.toArray/\eV (sg T) r' c:=by
 have y:bJ r.cells:=⟨h.bG⟩
 obtain⟨z,A,o,n⟩:=r
 obtain⟨d,e,b,a⟩:=h
 simp only at d e b a
 subst d;subst e
 have t:=b.aw
 have u:=a.aw
 refine Spec.body func129 rfl results129 ntmps129 rfl ?_
 refine .sr ?_
 refine .dv rfl (λp=>?_)
 refine .cN (λs=>?_)
 refine .zs<|.cW [7,9] mixed ?_
 refine .tO 0 rfl (.fieldAddr rfl)<|.tO 1 rfl (.bN rfl)<|.tO 3 rfl (.fieldAddr rfl)<|.tO 4 rfl (.bN rfl) ?_
 refine .sT 2 rfl ?_
 refine .da (nm o c.cm _ b.rx i.1) (λl j f=>?_)
 have w:=f.aw
 refine .nil (Next.sub ?_)
 refine .tO 6 rfl (.fieldAddr rfl) ?_
 refine .sT 5 rfl ?_
 refine .da (nm n c.scopes _ a.rx i.2) (λm k g=>?_)
 have x:=g.aw
 refine .nil (Next.sub ?_)
 refine .sT 7 rfl ?_
 refine .cJ rfl rfl ?_
 refine .nil (Next.mod rfl ?_)
 refine .tK 8 rfl (.gy rfl) ?_
 refine .sT 9 rfl ?_
 refine .cJ rfl rfl ?_
 refine .nil (Next.mod rfl ?_)
 refine RA.nil (by kernel_rfl) ?_
 refine aD<|.sr<|.q (.bK rfl)<|.ct rfl rfl<|.zn ?_
 refine .ret (aR _ (.one (.ey rfl rfl)) (.one [0,0] _) ?_)
 ·exact⟨k++j,by simp[take,aZ],⟨c.id,c.cD,l,m⟩,rfl,rfl,rfl,f.sg.right,g.sg.left⟩
def RI(g:Nat)(A:List bA)(T:ax):Prop:=∃vm M Tm Ti,T=(g,.cells [vm].toArray 127 (0,0))::(Tm++Ti)/\MS (λs:ByteArray=>.string s) (λp:CR×bA=>.agg p.1.cells.toArray) vm M Tm/\
 (∀p∈M,p.1=p.2.2.id/\eV (sg Ti) p.2.1 p.2.2/\p.2.2.eo)/\(M.map (·.2.2)).Perm A
def cw(id:ByteArray)(A:List bA):Option bA:=A.find? λc=>decide (c.id=id)
theorem sG{M:List (ByteArray×(CR×bA))}{h:ax}{A:List bA}(v:(M.map (·.1)).Nodup)(g:∀p∈M,p.1=p.2.2.id/\eV (sg h) p.2.1 p.2.2/\p.2.2.eo)(f:(M.map (·.2.2)).Perm A)(id:ByteArray):
  (aU id M=none/\cw id A=none/\∀c∈A,c.id≠id)\/∃r c,aU id M=some (r,c)/\cw id A=some c/\c.id=id/\eV (sg h) r c/\c.eo/\c∈A:=by
 have w:(A.map (·.id)).Nodup:=by
  refine((f.map (·.id)).nodup_iff).1 ?_
  rw[acx]
  have:M.map ((λc:bA=>c.id)∘λp:ByteArray×(CR×bA)=>p.2.2)=M.map (·.1):=List.map_congr_left λp e=>(g p e).1.symm
  rw[this];exact v
 cases hm:aU id M with
 |none=>
  have d:=iA.1 hm
  have b:∀c∈A,c.id≠id:=λc a s=>by
   obtain⟨p,e,rfl⟩:=acf.1 (f.mem_iff.2 a)
   exact d (acf.2 ⟨p,e,(g p e).1.trans s⟩)
  exact .inl ⟨rfl,List.find?_eq_none.2 λc a=>by simpa using b c a,b⟩
 |some q=>
  obtain⟨r,c⟩:=q
  have d:=fH hm
  obtain⟨b,l,m⟩:=g _ d
  have a:c∈A:=f.mem_iff.1 (acf.2 ⟨_,d,rfl⟩)
  refine .inr ⟨r,c,rfl,?_,b.symm,l,m,a⟩
  cases hf:cw id A with
  |none=>exact absurd b.symm (by have:=List.find?_eq_none.1 hf c a;simpa using this)
  |some c'=>
   have n:=List.mem_of_find?_eq_some hf
   have o:c'.id=id:=by simpa using List.find?_some hf
   obtain⟨i,t,rfl⟩:=acE.1 n
   obtain⟨j,u,k⟩:=acE.1 a
   have:i=j:=(List.getElem_inj (xs:=A.map λc:bA=>c.id) (i:=i) (j:=j) (h₀:=by simpa using t) (h₁:=by simpa using u) w).1 (by simp[o,k];exact b)
   subst this
   rw[k]
theorem Ad(R:av):Spec prog 18 [] R [] λv H'=>∃T,H'=[T]/\∃g,v=pT g/\RI g [] T:=by
 refine Spec.body func18 rfl results18 ntmps18 rfl ?_
 refine .sr<|.ag rfl<|.z ?_
 refine .makeMap (λa=>?_)
 refine .q .dI ?_
 refine .dv rfl (λb=>?_)
 refine .az rfl ?_
 refine .ret (aR _ (.one (.tmp rfl)) (.one [0,0] _) ?_)
 ·exact⟨_,rfl,_,rfl,.map (some a),[],_,[],by simp[take,aZ];rfl,MS.nil,by simp,.refl _⟩
theorem qj(g b:Nat)(R:av) [pc:PC R (pT g) [.map (some b)]]:Spec prog 128 [pT g] R [] λv H'=>v=.bool true/\H'=[]:=by
 refine Spec.body func128 rfl results128 ntmps128 rfl ?_
 refine .sr<|.ag rfl<|.z<|.mo rfl<|.q (.qA rfl rfl) ?_
 refine .mo rfl<|.gt rfl ?_
 refine .mo rfl<|.gt rfl ?_
 refine .nc rfl<|.gt rfl ?_
 refine .fa rfl<|.gt rfl ?_
 refine .lo rfl<|.gt rfl ?_
 refine .q (.qz rfl rfl) ?_
 refine .q .ca<|.az rfl ?_
 refine .ret (aO rfl ?_)
 ·exact⟨rfl,rfl⟩
theorem qh(g:Nat)(A:List bA)(T:ax)(h:RI g A T)(id:ByteArray)(R:av)(k:∀p∈T,R p.1 p.2):
  Spec prog 140 [pT g,.string id] R [] λv H'=>∃T',H'=[T']/\∃r',v=.tuple [.agg r'.cells.toArray,.bool (cw id A).isSome].toArray/\eV (sg T') r' ((cw id A).getD bA.zero):=by
 obtain⟨K,M,L,m,rfl,i,C,B⟩:=h
 obtain⟨e,rfl⟩:∃b,K=.map (some b):=by obtain⟨b,es,clock,d,_⟩:=i;exact⟨b,d⟩
 have U:PC R (pT g) [.map (some e)]:=PC.of (E:=127) (fr:=(0,0)) (k (g,.cells [.map (some e)].toArray 127 (0,0)) (by simp))
 have J:∀H',RM (Rx R H') (λs:ByteArray=>.string s) (λp:CR×bA=>.agg p.1.cells.toArray) (.map (some e)) M:=λH'=>i.rm λp G=>.inl (k p (by simp[G]))
 have D:∀b o,sg m b o->R b o:=λb o j=>k (b,o) (by have:(b,o)∈m:=j;simp[this])
 obtain⟨a,H,n,I,F⟩:∃a:CR,((aU id M).map λp:CR×bA=>Value.agg p.1.cells.toArray).getD (.agg CR.zero.cells.toArray)=.agg a.cells.toArray/\eV R a ((cw id A).getD bA.zero)/\(aU id M).isSome=(cw id A).isSome/\((cw id A).getD bA.zero).eo:=by
  rcases sG i.nd C B id with⟨d,f,_⟩|⟨r,c,d,f,_,x,y,_⟩
  ·rw[d,f];exact⟨CR.zero,rfl,eV.zero R,rfl,by simp[bA.eo,bA.zero]⟩
  ·rw[d,f];exact⟨r,rfl,x.mono D,rfl,y⟩
 have Q:bJ a.cells:=⟨n.bG⟩
 refine Spec.body func140 rfl results140 ntmps140 rfl ?_
 refine .sr ?_
 refine .cN (λN=>?_)
 refine .ag rfl<|.zs<|.sr<|.mo rfl ?_
 refine .aM (qj g e _) (λv l=>?_)
 subst l
 refine .q .not<|.zn<|.bZ<|.kn<|.sr<|.mo rfl<|.nc rfl<|.fa rfl<|.lo rfl<|.mo rfl ?_
 refine .q (aP.cast (v':=.tuple [.agg a.cells.toArray,.bool (cw id A).isSome].toArray) (.kP (J _) rfl (show _=some (Value.string id)from rfl)) (by rw[<-I, <-H];rfl)) ?_
 refine .mo rfl<|.q .extract<|.q .extract ?_
 refine .cN (λO=>?_)
 refine .ct rfl rfl<|.ag rfl<|.z<|.q (.bK rfl) ?_
 refine .da (rC a _ _ (n.mono λb o j=>.inl j) F) (λv w l=>?_)
 obtain⟨u,rfl,t⟩:=l
 have S:bJ u.cells:=⟨t.bG⟩
 refine .mo rfl<|.ct rfl rfl<|.az rfl ?_
 refine .ret (aR _ (.two (.ey rfl rfl) (.tmp rfl)) (.one [0] _) ?_)
 ·exact⟨w,by simp[take,aZ],u,rfl,t⟩
theorem uk(g:Nat)(A:List bA)(T:ax)(h:RI g A T)(id e:ByteArray)(R:av)(j:∀p∈T,R p.1 p.2):
  Spec prog 89 [pT g,.string id,.string e] R [] λv H'=>v=.int .i64 (if(cw id A).map (·.cD)=some e then 0 else 17)/\H'=[]:=by
 refine Spec.body func89 rfl results89 ntmps89 rfl ?_
 refine .sr<|.ag rfl<|.z<|.mo rfl<|.mo rfl ?_
 refine .da (qh g A T h id _ λp i=>.inl (j p i)) (λv m k=>?_)
 obtain⟨l,rfl,d⟩:=k
 have o:bJ l.cells:=⟨d.bG⟩
 refine .mo rfl<|.q .extract<|.q .extract ?_
 refine .cN (λn=>?_)
 refine .ct rfl rfl<|.ag rfl<|.zs<|.sr<|.mo rfl<|.q .not<|.mo rfl ?_
 refine .split (t:=17) rfl (λa=>?_) (λa=>?_)
 refine .gF a<|.gF a<|.gF a<|.gF a<|.q (.aY a) ?_
 refine .zn<|.dF<|.sr<|.az rfl ?_
 refine .ret (aL (aO rfl ?_))
 ·refine⟨?_,rfl⟩
  congr 1
  have b:=d.cD
  cases hg:cw id A with
  |none=>simp_all
  |some c=>rw[hg]at b;simp at b;simp_all
 refine .gT a<|.fa rfl<|.gT a<|.lo rfl<|.gT a<|.mo rfl<|.gT a<|.q .fj<|.q (.aS a) ?_
 refine .zn ?_
 refine .cond rfl (λf=>?_) λf=>?_
 refine .sr<|.az rfl ?_
 refine .ret (aL (aO rfl ?_))
 ·refine⟨?_,rfl⟩
  congr 1
  have b:=d.cD
  cases hg:cw id A with
  |none=>simp_all
  |some c=>rw[hg]at b;simp at b;simp_all
 refine .kn<|.sr<|.az rfl ?_
 refine .ret (aO rfl ?_)
 ·refine⟨?_,rfl⟩
  congr 1
  have b:=d.cD
  cases hg:cw id A with
  |none=>simp_all
  |some c=>rw[hg]at b;simp at b;simp_all
def dT(A:List bA)(c:bA):Int×List bA:=if c.check≠0 then(c.check,A)else if(cw c.id A).isSome then(10,A)else if 64<=A.length then(8,A)else(0,A++[c])
def iV(id:ByteArray)(A:List bA):List bA:=A.filter λc=>decide (c.id≠id)
theorem zC(g:Nat)(A:List bA)(T:ax)(h:RI g A T)(r:CR)(c:bA)(R:av)(t:eV R r c)(K:c.fits)(H:c.eo):
  Spec prog 66 [pT g,.agg r.cells.toArray] R [T] λv H'=>∃T',H'=[T']/\v=.int .i64 (dT A c).1/\RI g (dT A c).2 T':=by
 have y:=h
 obtain⟨V,M,n,i,rfl,l,E,x⟩:=h
 obtain⟨j,rfl⟩:∃b,V=.map (some b):=by obtain⟨b,es,clock,k,_⟩:=l;exact⟨b,k⟩
 have L:=sG l.nd E x c.id
 have Y:M.length=A.length:=by simpa using x.length_eq
 obtain⟨w,N,Z,G⟩:∃w:CR,((aU c.id M).map λp:CR×bA=>Value.agg p.1.cells.toArray).getD (.agg CR.zero.cells.toArray)=.agg w.cells.toArray/\bJ w.cells/\(aU c.id M).isSome=(cw c.id A).isSome:=by
  rcases L with⟨k,a,_⟩|⟨r,c,k,a,_,d,s,_⟩
  ·rw[k,a];exact⟨CR.zero,rfl,⟨(eV.zero (λ_ _=>False)).bG⟩,rfl⟩
  ·rw[k,a];exact⟨r,rfl,⟨d.bG⟩,rfl⟩
 have io:bJ r.cells:=⟨t.bG⟩
 have B:=t.id
 refine Spec.dg (H':=[bl g [.map (some j)] 127,n,i]) (by simp) ?_
 refine Spec.body func66 rfl results66 ntmps66 rfl ?_
 refine .sr ?_
 refine .dv rfl (λW=>?_)
 refine .ag rfl<|.zs<|.sr<|.mo rfl ?_
 refine .aM (qj g j _) (λv m=>?_)
 subst m
 refine .q .not<|.zn<|.bZ<|.kn<|.seq<|.sr<|.q (.bK rfl) ?_
 refine .aM (z8 r c _ (t.mono λb o f=>.inl f) K) (λv m=>?_)
 subst m
 refine .ag rfl<|.z<|.mo rfl<|.q .dL<|.zn ?_
 refine .cond rfl (λa=>?_) λa=>?_
 refine .sr<|.mo rfl<|.az rfl ?_
 refine .ret (aL (aR _ (.one (.tmp rfl)) (.one [1,1,1] _) ?_))
 ·refine⟨(g,.cells [.map (some j)].toArray 127 (0,0))::(n++i),by simp[take,aZ],?_⟩
  have e:dT A c=(c.check,A):=by unfold dT;rw[ab7 (by simpa using a)]
  rw[e];exact⟨rfl,y⟩
 refine .kn<|.seq<|.seq<|.cW [11] mixed ?_
 refine .tO 0 rfl .move<|.tO 1 rfl (.nilCheck rfl)<|.tO 2 rfl (.fieldAddr rfl)<|.tO 3 rfl (.bN rfl)<|.tO 4 rfl (.fieldAddr rfl)<|.tO 5 rfl (.bN rfl) ?_
 refine .eE 6 rfl (aP.cast (v':=.tuple [.agg w.cells.toArray,.bool (cw c.id A).isSome].toArray) (.kP l.rx rfl (show _=some (Value.string r.id)from rfl)) (by rw[B, <-G, <-N];rfl)) (by kernel_rfl) ?_
 refine .tO 7 rfl .move<|.tO 8 rfl .extract<|.tK 9 rfl .extract ?_
 refine .sT 10 rfl ?_
 refine .cN (λX=>?_)
 refine .nil (Next.sub ?_)
 refine .sT 11 rfl ?_
 refine .ct rfl rfl ?_
 refine .nil (Next.mod rfl ?_)
 refine .tK 12 rfl .assign ?_
 refine RA.nil (by kernel_rfl) ?_
 refine aD<|.sr<|.mo rfl<|.zn ?_
 refine .cond rfl (λd=>?_) λd=>?_
 refine .sr<|.az rfl ?_
 refine .ret (aL (aR _ (.one (.tmp rfl)) (.one [2,2,2] _) ?_))
 ·refine⟨(g,.cells [.map (some j)].toArray 127 (0,0))::(n++i),by simp[take,aZ],?_⟩
  have e:dT A c=(10,A):=by unfold dT;rw[ab8 (by simpa using a),ab7 d]
  rw[e];exact⟨rfl,y⟩
 refine .kn<|.seq<|.sr<|.mo rfl<|.nc rfl<|.fa rfl<|.lo rfl<|.q (.r9 l.rx rfl) ?_
 refine .q .geq<|.zn ?_
 refine .cond rfl (λs=>?_) λs=>?_
 refine .sr<|.az rfl ?_
 refine .ret (aL (aR _ (.one (.tmp rfl)) (.one [2,2,2] _) ?_))
 ·refine⟨(g,.cells [.map (some j)].toArray 127 (0,0))::(n++i),by simp[take,aZ],?_⟩
  have e:dT A c=(8,A):=by unfold dT;rw[ab8 (by simpa using a),ab8 (by rw[d];simp),ab7 (by have:=bx s;omega)]
  rw[e];exact⟨rfl,y⟩
 refine .kn<|.seq<|.cW [8] mixed ?_
 refine .tO 0 rfl .move<|.tO 1 rfl (.nilCheck rfl)<|.tO 2 rfl (.fieldAddr rfl)<|.tO 3 rfl (.bN rfl)<|.tO 4 rfl (.fieldAddr rfl)<|.tO 5 rfl (.bN rfl)<|.tO 6 rfl (.bK rfl) ?_
 refine .sT 7 rfl ?_
 refine .da (rC r c _ (t.mono λb o f=>.inl f) H) (λv C m=>?_)
 obtain⟨U,rfl,J⟩:=m
 refine .nil (Next.sub ?_)
 refine .sT 8 rfl ?_
 refine .update (u:=(U,c)) l rfl (show _=some (Value.string r.id)from rfl) rfl (λD I _=>?_)
 refine .nil (Next.mod rfl ?_)
 refine RA.nil (by kernel_rfl) ?_
 refine aD<|.sr<|.az rfl ?_
 refine .ret (aR _ (.one (.tmp rfl)) (.one [3,3,3,0] _) ?_)
 ·refine⟨(g,.cells [.map (some j)].toArray 127 (0,0))::(D++(i++C)),by simp[take,aZ],?_⟩
  have e:dT A c=(0,A++[c]):=by unfold dT;rw[ab8 (by simpa using a),ab8 (by rw[d];simp),ab8 (by have:=bo s;omega)]
  rw[e]
  have F:aU c.id M=none:=by
   rw[<-Option.not_isSome_iff_eq_none,G,d];simp
  refine⟨rfl,_,_,D,i++C,rfl,I,?_,?_⟩
  ·rw[B,o3 (iA.1 F)]
   intro p hp
   rcases acF.1 hp with hp|hp
   ·obtain⟨O,Q,S⟩:=E p hp
    exact⟨O,Q.mono λb o f=>List.mem_append_left _ f,S⟩
   ·simp only[List.mem_singleton]at hp
    subst hp
    exact⟨rfl,J.mono λb o f=>List.mem_append_right _ f,H⟩
  ·rw[B,o3 (iA.1 F),acm]
   exact x.append_right _
theorem zW{M:List (ByteArray×(CR×bA))}{A:List bA}{id:ByteArray}(c:(M.map (·.1)).Nodup)(b:∀p∈M,p.1=p.2.2.id)(a:(M.map (·.2.2)).Perm A):((eG id M).map (·.2.2)).Perm (iV id A):=by
 rw[mm c]
 refine List.Perm.trans ?_ (a.filter _)
 unfold dO
 rw[List.filter_map]
 refine List.Perm.of_eq (acH _ (acM λp d=>?_))
 simp[b p d]
theorem Am(g:Nat)(A:List bA)(T:ax)(h:RI g A T)(id:ByteArray)(R:av):
  Spec prog 67 [pT g,.string id] R [T] λv H'=>∃T',H'=[T']/\v=.int .i64 (if(cw id A).isSome then 0 else 11)/\RI g (iV id A) T':=by
 have y:=h
 obtain⟨G,M,s,j,rfl,i,m,u⟩:=h
 obtain⟨k,rfl⟩:∃b,G=.map (some b):=by obtain⟨b,es,clock,d,_⟩:=i;exact⟨b,d⟩
 have w:=sG i.nd m u id
 obtain⟨l,C,J,D⟩:∃l:CR,((aU id M).map λp:CR×bA=>Value.agg p.1.cells.toArray).getD (.agg CR.zero.cells.toArray)=.agg l.cells.toArray/\bJ l.cells/\(aU id M).isSome=(cw id A).isSome:=by
  rcases w with⟨d,a,_⟩|⟨r,c,d,a,_,f,I,_⟩
  ·rw[d,a];exact⟨CR.zero,rfl,⟨(eV.zero (λ_ _=>False)).bG⟩,rfl⟩
  ·rw[d,a];exact⟨r,rfl,⟨f.bG⟩,rfl⟩
 refine Spec.dg (H':=[bl g [.map (some k)] 127,s,j]) (by simp) ?_
 refine Spec.body func67 rfl results67 ntmps67 rfl ?_
 refine .sr<|.ag rfl<|.zs<|.sr<|.mo rfl ?_
 refine .aM (qj g k _) (λv E=>?_)
 subst E
 refine .q .not<|.zn<|.bZ<|.kn<|.seq<|.sr<|.mo rfl<|.nc rfl<|.fa rfl<|.lo rfl<|.mo rfl ?_
 refine .q (aP.cast (v':=.tuple [.agg l.cells.toArray,.bool (cw id A).isSome].toArray) (.kP i.rx rfl (show _=some (Value.string id)from rfl)) (by rw[<-D, <-C];rfl)) ?_
 refine .mo rfl<|.q .extract<|.q .extract ?_
 refine .cN (λH=>?_)
 refine .ct rfl rfl<|.ag rfl<|.z<|.mo rfl<|.q .not<|.zn ?_
 refine .cond rfl (λa=>?_) λa=>?_
 refine .sr<|.az rfl ?_
 refine .ret (aL (aR _ (.one (.tmp rfl)) (.one [1,1,1] _) ?_))
 ·have n:(cw id A).isSome=false:=by simpa using a
  refine⟨(g,.cells [.map (some k)].toArray 127 (0,0))::(s++j),by simp[take,aZ],by rw[n];rfl,?_⟩
  have e:iV id A=A:=by
   unfold iV
   rw[acJ]
   intro c B
   rcases w with⟨_,_,f⟩|⟨r,c,_,f,_⟩
   ·simpa using f c B
   ·rw[f]at n;simp at n
  rw[e];exact y
 refine .kn<|.sr<|.mo rfl<|.nc rfl<|.fa rfl<|.lo rfl<|.mo rfl ?_
 refine .delete i rfl (show _=some (Value.string id)from rfl) (λt x _=>?_)
 refine .z<|.az rfl ?_
 refine .ret (aR _ (.one (.tmp rfl)) (.one [1,1,1] _) ?_)
 ·have F:(cw id A).isSome=true:=by simpa using a
  refine⟨(g,.cells [.map (some k)].toArray 127 (0,0))::(t++j),by simp[take,aZ],by rw[F];rfl,_,_,t,j,rfl,x,λp o=>m p (sh p o),zW i.nd (λp o=>(m p o).1) u⟩
def bA.short(c:bA):bA:=⟨Go.Proofs.YtkkmbiojicgobaaGreatDoor.short c.id 40,Go.Proofs.YtkkmbiojicgobaaGreatDoor.short c.cD 70,texts c.cm 10 210,texts c.scopes 18 40⟩
theorem bA.ya(c:bA):c.short.fits:=by
 have b:=sP (s:=c.id) (n:=40)
 have d:=sP (s:=c.cD) (n:=70)
 refine⟨by unfold bA.short;simp only;omega,by unfold bA.short;simp only;omega,λs a=>?_,λs a=>?_⟩
 ·have:=yq s a;omega
 ·have:=yq s a;omega
theorem bA.sO(c:bA):c.short.eo:=by
 unfold bA.eo bA.short texts
 simp;omega
theorem An(r:CR)(c:bA)(R:av)(h:eV R r c):Spec prog 39 [.agg r.cells.toArray] R [] λv H'=>∃T,H'=[T]/\∃r',v=.agg r'.cells.toArray/\eV (sg T) r' c.short:=by
 have q:bJ r.cells:=⟨h.bG⟩
 obtain⟨y,z,l,k⟩:=r
 obtain⟨d,e,a,b⟩:=h
 simp only at d e a b
 subst d;subst e
 have o:=a.aw
 have p:=b.aw
 refine Spec.body func39 rfl results39 ntmps39 rfl ?_
 refine .sr ?_
 refine .dv rfl (λm=>?_)
 refine .cN (λn=>?_)
 refine .zs<|.cW [13] mixed ?_
 refine .tO 0 rfl (.fieldAddr rfl)<|.tO 1 rfl (.bN rfl)<|.tO 3 rfl (.fieldAddr rfl)<|.tO 4 rfl (.bN rfl)<|.tO 6 rfl (.fieldAddr rfl)<|.tO 7 rfl (.bN rfl)<|.tO 9 rfl (.fieldAddr rfl)<|.tO 10 rfl (.bN rfl) ?_
 refine .sT 2 rfl ?_
 refine .aM (mx c.id 40 _) (λu a=>?_)
 subst a
 refine .nil (Next.sub ?_)
 refine .sT 5 rfl ?_
 refine .aM (mx c.cD 70 _) (λu a=>?_)
 subst a
 refine .nil (Next.sub ?_)
 refine .sT 8 rfl ?_
 refine .da (pC l c.cm 10 210 (by omega) _ a.rx) (λA i f=>?_)
 obtain⟨w,s,rfl,_⟩:=f.shape
 refine .nil (Next.sub ?_)
 refine .sT 11 rfl ?_
 refine .da (pC k c.scopes 18 40 (by omega) _ b.rx) (λB j g=>?_)
 obtain⟨x,t,rfl,_⟩:=g.shape
 refine .nil (Next.sub ?_)
 refine .tO 12 rfl .dI ?_
 refine .sT 13 rfl ?_
 refine .ct rfl rfl ?_
 refine .nil (Next.mod rfl ?_)
 refine RA.nil (by kernel_rfl) ?_
 refine aD ?_
 refine .ret (aR _ (.one (.ey rfl rfl)) (.one [0,0] _) ?_)
 ·exact⟨j++i,by simp[take,aZ],⟨short c.id 40,short c.cD 70,_,_⟩,rfl,rfl,rfl,f.sg.right,g.sg.left⟩
def Tok.fresh(t:Tok):Tok:=⟨t.text,t.kind,t.aE,t.user,t.scopes,t.family,t.cq,t.rev,false⟩
def fu(A:List (ByteArray×Tok))(last:Int)(t:Tok):Int×List (ByteArray×Tok):=
 if hU t last=false then(2,A)else if(aU t.text A).isSome then(22,A)else if 4096<=A.length then(8,A)else(0,cT t.text t.fresh A)
theorem yD(g:Nat)(A:List (ByteArray×Tok))(last:Int)(T:ax)(h:VI g A last T)(w:Value)(t:Tok)(R:av)(m:dS R (w,t))(D:t.eo):
  Spec prog 155 [pT g,.agg (bE (w,t)).toArray] R [T] λv H'=>∃T',H'=[T']/\v=.int .i64 (fu A last t).1/\VI g (fu A last t).2 last T':=by
 have c:=h
 obtain⟨n,_,rfl,I,M,q,o,p,rfl,f,y,r,L⟩:=h
 obtain⟨i,rfl⟩:∃b,I=.map (some b):=by obtain⟨b,es,clock,h1,_⟩:=f;exact⟨b,h1⟩
 have S:bJ (bE (w,t)):=⟨m.bG⟩
 have H:One w:=m.aw
 have O:M.length=A.length:=by simpa[mK]using r.length_eq
 obtain⟨u,s,F,C,N,G,_,_⟩:=qZ f.nd y r t.text
 have Q:bJ (bE (u,s)):=⟨C.bG⟩
 refine Spec.dg (H':=[bl g [.map (some i),pT q,.int .i64 last] 102,o,p,n]) (by simp) ?_
 refine Spec.body func155 rfl results155 ntmps155 rfl ?_
 refine .sr ?_
 refine .dv rfl (λJ=>?_)
 refine .ag rfl<|.zs<|.sr<|.mo rfl ?_
 refine .aM (lV g i _ _ _) (λv a=>?_)
 subst a
 refine .q .not<|.zn<|.bZ<|.kn<|.seq<|.sr<|.mo rfl<|.q (.bK rfl) ?_
 refine .aM (OO g _ _ last w t _ H) (λv a=>?_)
 subst a
 refine .q .not<|.zn ?_
 refine .cond rfl (λj=>?_) λj=>?_
 refine .sr<|.az rfl ?_
 refine .ret (aL (aR _ (.one (.tmp rfl)) (.one [1,1,1,1] _) ?_))
 ·have e:fu A last t=(2,A):=by unfold fu;rw[ab7 (by simpa using j)]
  rw[e];exact⟨_,by simp[take,aZ],rfl,c⟩
 have l:hU t last=true:=by simpa using j
 refine .kn<|.seq<|.seq<|.cW [11] mixed ?_
 refine .tO 0 rfl .move<|.tO 1 rfl (.nilCheck rfl)<|.tO 2 rfl (.fieldAddr rfl)<|.tO 3 rfl (.bN rfl)<|.tO 4 rfl (.fieldAddr rfl)<|.tO 5 rfl (.bN rfl) ?_
 refine .eE 6 rfl (aP.cast (v':=.tuple [.agg (bE (u,s)).toArray,.bool (aU t.text A).isSome].toArray) (.kP f.rx rfl (show _=some (Value.string t.text)from rfl)) (by rw[<-G, <-F];rfl)) (by kernel_rfl) ?_
 refine .tO 7 rfl .move<|.tO 8 rfl .extract<|.tK 9 rfl .extract ?_
 refine .sT 10 rfl ?_
 refine .cN (λK=>?_)
 refine .nil (Next.sub ?_)
 refine .sT 11 rfl ?_
 refine .ct rfl rfl ?_
 refine .nil (Next.mod rfl ?_)
 refine .tK 12 rfl .assign ?_
 refine RA.nil (by kernel_rfl) ?_
 refine aD<|.sr<|.mo rfl<|.zn ?_
 refine .cond rfl (λd=>?_) λd=>?_
 refine .sr<|.az rfl ?_
 refine .ret (aL (aR _ (.one (.tmp rfl)) (.one [2,2,2,2] _) ?_))
 ·have e:fu A last t=(22,A):=by unfold fu;rw[ab8 (by simp[l]),ab7 d]
  rw[e];exact⟨_,by simp[take,aZ],rfl,c⟩
 refine .kn<|.seq<|.sr<|.mo rfl<|.nc rfl<|.fa rfl<|.lo rfl<|.q (.r9 f.rx rfl) ?_
 refine .q .geq<|.zn ?_
 refine .cond rfl (λk=>?_) λk=>?_
 refine .sr<|.az rfl ?_
 refine .ret (aL (aR _ (.one (.tmp rfl)) (.one [2,2,2,2] _) ?_))
 ·have e:fu A last t=(8,A):=by unfold fu;rw[ab8 (by simp[l]),ab8 (by rw[d];simp),ab7 (by have:=bx k;omega)]
  rw[e];exact⟨_,by simp[take,aZ],rfl,c⟩
 have E:¬4096<=A.length:=by have:=bo k;omega
 refine .kn<|.sr<|.fa rfl<|.cJ rfl rfl<|.z<|.mo rfl<|.q (.bK rfl) ?_
 refine .sub (H':=[((g,.cells [.map (some i),pT q,.int .i64 last].toArray 102 (0,0))::(o++p))++n]) ((aI [2,2,2,2]).trans (aT.bu (by simp[take,aZ]))) ?_
 refine .bW (OM g A last _ c w t.fresh _ m D (by omega)) (λv x a=>?_)
 obtain⟨rfl,B⟩:=a
 refine .z<|.az rfl ?_
 refine .ret (aR _ (.one (.tmp rfl)) (.one [0] _) ?_)
 ·have e:fu A last t=(0,cT t.text t.fresh A):=by unfold fu;rw[ab8 (by simp[l]),ab8 (by rw[d];simp),ab8 E]
  rw[e];exact⟨x,by simp[take],rfl,B⟩
def iZ(A:List (ByteArray×Tok))(k:ByteArray)(now:Int):Option Tok:=(aU k A).filter λt=>decide (now<t.cq)
theorem yF(g:Nat)(A:List (ByteArray×Tok))(last:Int)(T:ax)(h:VI g A last T)(k:ByteArray)(now:Int)(R:av)(n:∀p∈T,R p.1 p.2):
    Spec prog 61 [pT g,.string k,.int .i64 now] R [] λv H'=>∃T',H'=[T']/\∃w t,v=.tuple [.agg (bE (w,t)).toArray,.bool (iZ A k now).isSome].toArray/\dS (eg T') (w,t)/\(iZ A k now).getD Tok.zero=t:=by
  obtain⟨y,_,rfl,V,M,q,W,X,rfl,j,I,H,hQ⟩:=h
  obtain⟨e,rfl⟩:∃b,V=.map (some b):=by obtain⟨b,es,clock,h1,_⟩:=j;exact⟨b,h1⟩
  have pq:PC R (pT g) [.map (some e),pT q,.int .i64 last]:=PC.of (E:=102) (fr:=(0,0)) (n (g,.cells [.map (some e),pT q,.int .i64 last].toArray 102 (0,0)) (by simp))
  have U:∀H',RM (Rx R H') (λs:ByteArray=>.string s) (λp:TP=>.agg (bE p).toArray) (.map (some e)) M:=λH'=>j.rm λp N=>.inl (n p (by simp[N]))
  have J:∀b o,eg y b o->R b o:=λb o l=>n (b,o) (by have:(b,o)∈y:=l.1;simp[this])
  obtain⟨x,c,O,z,K,Q,a0,C⟩:=qZ j.nd I H k
  have i0:bJ (bE (x,c)):=⟨z.bG⟩
  refine Spec.body func61 rfl results61 ntmps61 rfl ?_
  refine .sr ?_
  refine .cN (λY=>?_)
  refine .ag rfl<|.zs<|.sr<|.mo rfl ?_
  refine .aM (lV g e _ _ _) (λv r=>?_)
  subst r
  refine .q .not<|.zn<|.bZ<|.kn<|.sr<|.mo rfl<|.nc rfl<|.fa rfl<|.lo rfl<|.mo rfl ?_
  refine .q (aP.cast (v':=.tuple [.agg (bE (x,c)).toArray,.bool (aU k A).isSome].toArray) (.kP (U _) rfl (show _=some (Value.string k)from rfl)) (by rw[<-Q, <-O];rfl)) ?_
  refine .mo rfl<|.q .extract<|.q .extract ?_
  refine .cN (λZ=>?_)
  refine .ct rfl rfl<|.ag rfl<|.zs<|.sr<|.mo rfl<|.q .not<|.mo rfl ?_
  refine .split (t:=25) rfl (λa=>?_) (λa=>?_)
  refine .gF a<|.gF a<|.gF a<|.gF a<|.q (.aY a) ?_
  refine .zn<|.dF<|.sr ?_
  refine .q .dI ?_
  refine .ct rfl rfl<|.az rfl ?_
  refine .ret (aL (aR _ (.two (.ey rfl rfl) (.tmp rfl)) (.one [0] _) ?_))
  ·skip
   (have d:iZ A k now=none:=by
      unfold iZ
      first
        |(have L:aU k A=none:=by simpa using a
          rw[L];rfl)
    rw[d]
    exact⟨_,rfl,_,Tok.zero,rfl,dS.zero _,rfl⟩)
  refine .gT a<|.fa rfl<|.gT a<|.lo rfl<|.gT a<|.mo rfl<|.gT a<|.q .leq<|.q (.aS a) ?_
  refine .zn ?_
  refine .cond rfl (λi=>?_) λi=>?_
  refine .sr ?_
  refine .q .dI ?_
  refine .ct rfl rfl<|.az rfl ?_
  refine .ret (aL (aR _ (.two (.ey rfl rfl) (.tmp rfl)) (.one [0] _) ?_))
  ·skip
   (have d:iZ A k now=none:=by
      unfold iZ
      first
        |(have m:¬now<c.cq:=by have G:c.cq<=now:=bx i;omega
          cases f:aU k A with
          |none=>rfl
          |some u=>rw[(C u f).1,Option.filter,acg m];rfl)
    rw[d]
    exact⟨_,rfl,_,Tok.zero,rfl,dS.zero _,rfl⟩)
  refine .kn<|.sr<|.q (.bK rfl) ?_
  refine .da (pB x c _ (z.mono λb o l=>.inl (J b o l)) K) (λv F r=>?_)
  obtain⟨D,rfl,B⟩:=r
  have i1:bJ (bE (D,c)):=⟨B.bG⟩
  refine .ct rfl rfl<|.az rfl ?_
  refine .ret (aR _ (.two (.ey rfl rfl) (.tmp rfl)) (.one [0] _) ?_)
  ·skip
   (have d:iZ A k now=some c:=by
      have S:(aU k A).isSome=true:=by simpa using a
      obtain⟨u,f⟩:=acV.1 S
      have m:now<c.cq:=by have G:¬c.cq<=now:=bo i;omega
      unfold iZ
      rw[f,(C u f).1]
      simp[m]
    rw[d]
    exact⟨F,by simp[take],D,c,rfl,B,rfl⟩)
def yO(f:FuncId)(caps:List Value)(R:av)(p:Tok->Bool):Prop:=∀(w:Value) (t:Tok),One w->∀R',(∀b o,R b o->R' b o)->Spec prog f (.agg (bE (w,t)).toArray::caps) R' [] λu H'=>u=.bool (p t)/\H'=[]
theorem m5{w:Value}{t:Tok}(h:One w):bJ (bE (w,t)):=⟨by
 have b:=h.h
 intro u a
 simp only[bE,acv,acG,or_false]at a
 rcases a with rfl|rfl|rfl|rfl|rfl|rfl|rfl|rfl|rfl<;>first|rfl|assumption⟩
theorem mf{κ β γ:Type}{f:β->γ}{q:γ->Bool}{A:List (κ×β)}:(dP f A).filter (λx=>q x.2)=dP f (A.filter λx=>q (f x.2)):=by unfold dP;rw[List.filter_map];rfl
theorem ML{β:Type}{M:List (ByteArray×β)}(b:(M.map (·.1)).Nodup){todo:List ByteArray}{q:β->Bool}{k:ByteArray}{x:β}(g:k∈todo)(e:(k,x)∈M)(d:q x=true):
  dO k (M.filter λy=>decide (y.1∈todo)|| !q y.2)=M.filter λy=>decide (y.1∈todo.filter λk'=>decide (k'≠k))|| !q y.2:=by
 unfold dO
 rw[List.filter_filter]
 refine acM λy f=>?_
 by_cases h:y.1=k
 ·have c:aU k M=some y.2:=gC b (by rw[<-h];exact f)
  have a:aU k M=some x:=gC b e
  rw[c]at a
  simp only[acZ]at a
  simp[h,a,d]
 ·simp[h,acy]
theorem MM{β:Type}{M:List (ByteArray×β)}(b:(M.map (·.1)).Nodup){todo:List ByteArray}{q:β->Bool}{k:ByteArray}{x:β}(g:k∈todo)(e:(k,x)∈M)(d:q x=false):
  (M.filter λy=>decide (y.1∈todo)|| !q y.2)=M.filter λy=>decide (y.1∈todo.filter λk'=>decide (k'≠k))|| !q y.2:=by
 refine acM λy f=>?_
 by_cases h:y.1=k
 ·have c:aU k M=some y.2:=gC b (by rw[<-h];exact f)
  have a:aU k M=some x:=gC b e
  rw[c]at a
  simp only[acZ]at a
  simp[h,a,d]
 ·simp[h,acy]
theorem vi{l:List ByteArray}{k:ByteArray}:((l.filter λk'=>decide (k'≠k)).filter λk'=>decide (k'≠k))=l.filter λk'=>decide (k'≠k):=by
 rw[List.filter_filter];exact acM λx _=>Bool.and_self _
theorem vh{l:List ByteArray}{k:ByteArray}(h:k∈l):(l.filter λk'=>decide (k'≠k)).length<l.length:=by
 refine Nat.lt_of_le_of_ne (List.length_filter_le _ _) λe=>?_
 have:=List.length_filter_eq_length_iff.1 e k h
 simp at this
theorem rT{α:Type}(q:α->Bool):∀l:List α,l.length=(l.filter q).length+(l.filter λx=> !q x).length
 |[]=>rfl
 |x::l=>by
  have:=rT q l
  rw[acn,acn]
  cases h:q x<;>simp<;>omega
theorem tj(g:Nat)(A:List (ByteArray×Tok))(last:Int)(Td T:ax)(h:VJ g A last Td T)(f:FuncId)(caps:List Value) [e:ay prog f](p:Tok->Bool)(R:av)(hf:yO f caps R p):
  Spec prog 151 [pT g,.func (.func f) #[] caps.toArray] R [T] λv H'=>∃T',H'=[T']/\v=.int .i64 ((A.filter λx=>p x.2).length:Nat)/\VJ g (A.filter λx=> !p x.2) last Td T':=by
 obtain⟨vm,M,q,J,Tq,rfl,l,hI,D,hQ⟩:=h
 obtain⟨B,rfl⟩:∃b,vm=.map (some b):=by obtain⟨b,es,clock,C,_⟩:=l;exact⟨b,C⟩
 have b1:=hQ.perm (mg D.symm)
 have b6:=hQ.len
 rw[mK]at b6
 have c4:M.length=A.length:=by simpa[mK]using D.length_eq
 refine Spec.dg (H':=[bl g [.map (some B),pT q,.int .i64 last] 102,J,Tq]) (by simp) ?_
 refine Spec.body func151 rfl results151 ntmps151 rfl ?_
 refine .sr<|.ag rfl<|.z<|.ag rfl<|.zs<|.sr<|.mo rfl<|.nc rfl<|.fa rfl<|.lo rfl ?_
 refine .range (l.rm (R:=sg J) λp hp=>hp) (λb o i=>.inr (by have G:(b,o)∈J:=i;simp[G])) rfl (λit b0 b3=>?_)
 refine .zn<|.block ?_
 refine .loop (X:=List ByteArray×List (ByteArray×TP)×Nat×ax×ax×ax) (λy=>(y.1.Nodup/\y.2.2.1+y.2.1.length=M.length)/\(y.2.1=M.filter λx=>decide (x.1∈y.1)|| !p x.2.2)/\MS (λs:ByteArray=>.string s) (λp:TP=>.agg (bE p).toArray) (.map (some B)) y.2.1 y.2.2.2.1/\It (sg y.2.2.2.1) (λs:ByteArray=>.string s) (λp:TP=>.agg (bE p).toArray) (.map (some B)) y.2.1 it y.1 y.2.2.2.2.2/\QI q (dP (λt:Tok=>t.cq) (dP (λp:TP=>p.2) y.2.1)) y.2.2.2.2.1) (λy=>[(0,pT g),(1,.func (.func f) #[] caps.toArray),(5,iN y.2.2.1),(12,it)]) (λy=>[y.2.2.2.2.2,bl g [.map (some B),pT q,.int .i64 last] 102,y.2.2.2.1,y.2.2.2.2.1]) (λy=>y.1.length) (M.map (·.1),M,0,J,Tq,b0) ⟨⟨l.nd,by simp⟩,(acJ.2 λx hx=>by
  have b9:x.1∈M.map (·.1):=acf.2 ⟨x,hx,rfl⟩
  show(decide (x.1∈M.map (·.1))||_)=true
  rw[ab9 b9];rfl).symm,l,b3,b1⟩ kE.c.c.c.c rH ?_
 rintro⟨H,a,n,j,w,c1⟩ ⟨⟨a9,a2⟩,E,m,a8,F⟩
 simp only at a9 a2 E m a8 F⊢
 refine .sr ?_
 refine .nf a8 (λb o i=>.inr (by have G:(b,o)∈j:=i;simp[G])) rfl (λb rest r b2 ht=>?_)
 refine .q .extract<|.zs ?_
 refine .cond rfl (λC=>?_) λC=>?_
 obtain⟨k,⟨I,Q⟩,Z,a1,L⟩:=ht C
 have a0:(k,((I,Q):TP))∈M:=(acy.1 (E▸fH a1)).1
 obtain⟨_,a6,c3⟩:=hI _ a0
 have i0:bJ (bE (I,Q)):=⟨a6.bG⟩
 have c0:One I:=a6.aw
 have O:(H.filter λd=>decide (d≠k)).Nodup:=a9.sublist List.filter_sublist
 have N:=vh Z
 refine .kn<|.block<|.sr ?_
 refine .q (.entry L (λb o i=>.inr (by have G:(b,o)∈j:=i;simp[G])) rfl) ?_
 refine .q .extract<|.q .extract ?_
 refine .cN (λb7=>?_)
 refine .ag rfl<|.ct rfl rfl<|.z<|.mo rfl<|.q (.bK rfl) ?_
 refine .gK (first:=[]) (captured:=caps) (vs:=[.agg (bE (I,Q)).toArray]) (hf I Q c0 _ λb o i=>.inl i) (λu hu=>?_)
 subst hu
 refine .zn ?_
 refine .cond rfl (λS=>?_) λS=>?_
 refine .sr<|.mo rfl<|.nc rfl<|.fa rfl<|.lo rfl<|.mo rfl ?_
 refine .delete m rfl (show _=some (Value.string k)from rfl) (λa3 a5 b4=>?_)
 have Y:=b4 it _ r L.it
 rw[vi]at Y
 have a7:eG k a=dO k a:=mm m.nd
 have V:=ML (q:=λx:TP=>p x.2) l.nd Z a0 S
 rw[<-E, <-a7]at V
 have c2:(eG k a).length+1=a.length:=by
  rw[wg,a1]
  have:0<a.length:=List.length_pos_of_mem (fH a1)
  simp;omega
 refine .z<|.mo rfl<|.nc rfl<|.fa rfl<|.lo rfl<|.mo rfl ?_
 refine .bW (xt q _ w F k _) (λv a4 hv=>?_)
 obtain⟨rfl,W⟩:=hv
 rw[<-nI, <-nI, <-a7]at W
 refine .zn<|.region<|.mo rfl ?_
 refine .ia (n+1) .add ?_
 refine .ag rfl<|.nil<|bz ?_
 ·first
   |exact bf (H.filter λd=>decide (d≠k),eG k a,n+1,a3,a4,r) ⟨⟨O,by simp only;omega⟩,V,a5,Y,W⟩ N kE.c.c.c.c (aI [1,1,1,1])
   |exact bf (H.filter λd=>decide (d≠k),a,n,j,w,r) ⟨⟨O,a2⟩,U,m,L.it,F⟩ N kE.c.c.c.c (aI [1,1,1,1])
 have U:=MM (q:=λx:TP=>p x.2) l.nd Z a0 S
 rw[<-E]at U
 refine .skip<|bz ?_
 ·first
   |exact bf (H.filter λd=>decide (d≠k),eG k a,n+1,a3,a4,r) ⟨⟨O,by simp only;omega⟩,V,a5,Y,W⟩ N kE.c.c.c.c (aI [1,1,1,1])
   |exact bf (H.filter λd=>decide (d≠k),a,n,j,w,r) ⟨⟨O,a2⟩,U,m,L.it,F⟩ N kE.c.c.c.c (aI [1,1,1,1])
 have b8:=b2 C
 subst b8
 have K:a=M.filter λx=> !p x.2.2:=by rw[E];exact acM λx _=>by simp
 have b5:n=(A.filter λx=>p x.2).length:=by
  have h3:=(D.filter λx=>p x.2).length_eq
  rw[mf,mK]at h3
  have h4:=rT (λx:ByteArray×TP=>p x.2.2) M
  rw[<-K]at h4
  omega
 refine .exit<|bD<|bH<|bF<|aD<|.sr<|.mo rfl<|.az rfl ?_
 refine .ret (aR _ (.one (.tmp rfl)) (.one [1,1,1] _) ?_)
 ·refine⟨(g,.cells [.map (some B),pT q,.int .i64 last].toArray 102 (0,0))::(j++w),by simp[take,aZ],by rw[b5],_,a,q,j,w,rfl,m,λx hx=>hI x (acy.1 (K▸hx)).1,?_,?_⟩
  ·rw[K, <-mf (q:=λt=> !p t)]
   exact D.filter _
  ·refine F.perm (mg ?_)
   rw[K, <-mf (q:=λt=> !p t)]
   exact D.filter _
theorem NZ(a:Int)(b:Nat)(w:Value)(t:Tok)(c:One w)(R:av) [pc:PC R (pT b) [.int .i64 a]]:
  Spec prog 152 [.agg (bE (w,t)).toArray,pT b] R [] λv H'=>v=.bool (t.family==a)/\H'=[]:=by
 have e:=m5 (t:=t) c
 refine Spec.body func152 rfl results152 ntmps152 rfl ?_
 refine .sr ?_
 refine .dv rfl (λd=>?_)
 refine .ag rfl<|.z<|.fa rfl<|.lo rfl<|.lo rfl<|.q .bS<|.az rfl ?_
 refine .ret (aO rfl ?_)
 ·exact⟨rfl,rfl⟩
theorem ti(g:Nat)(A:List (ByteArray×Tok))(last:Int)(c T:ax)(h:VJ g A last c T)(a:Int)(R:av):
  Spec prog 80 [pT g,.int .i64 a] R [T] λv H'=>∃T',H'=[T']/\v=.int .i64 ((A.filter λx=>x.2.family==a).length:Nat)/\VJ g (A.filter λx=> !(x.2.family==a)) last c T':=by
 have k:=h
 obtain⟨r,M,q,s,u,n,l,z,y,B⟩:=h
 obtain⟨i,rfl⟩:∃b,r=.map (some b):=by obtain⟨b,es,clock,h1,_⟩:=l;exact⟨b,h1⟩
 have C:PS T (pT g) [.map (some i),pT q,.int .i64 last]:=PS.of (E:=102) (fr:=(0,0)) (by rw[n];simp)
 refine Spec.body func80 rfl results80 ntmps80 rfl ?_
 refine .sr ?_
 refine .ko rfl (λd=>?_)
 refine .ag rfl<|.zs<|.sr<|.mo rfl ?_
 refine .aM (lV g i _ _ _) (λv e=>?_)
 subst e
 refine .q .not<|.zn<|.bZ<|.kn<|.sr<|.mo rfl<|.q .makeFunc ?_
 refine .jO (tj g A last c T k 152 [pT d] (λt=>t.family==a) _ (λw t p f m=>by
  have:PC f (pT d) [.int .i64 a]:=PC.of (E:=3) (fr:=(0,0)) (m _ _ (.inr (by simp)))
  exact NZ a d w t p f)) (λv j e=>?_)
 obtain⟨rfl,o⟩:=e
 refine .az rfl ?_
 refine .ret (aR _ (.one (.tmp rfl)) (.one [1] _) ?_)
 ·exact⟨j,by simp[take],rfl,o⟩
def Tok.mark(t:Tok):Tok:=⟨t.text,t.kind,t.aE,t.user,t.scopes,t.family,t.cq,t.rev,true⟩
def gu(A:List (ByteArray×Tok))(k aE:ByteArray)(now:Int):Tok×Int×List (ByteArray×Tok):=
 match aU k A with
 |none=>(Tok.zero,18,A)
 |some t=>if t.kind≠2\/t.aE≠aE then(Tok.zero,18,A)else if t.used then(t,10,A.filter λx=> !(x.2.family==t.family))else if t.cq<=now then(Tok.zero,18,A)else(t.mark,0,cT k t.mark A)
theorem OP(g:Nat)(A:List (ByteArray×Tok))(last:Int)(T:ax)(h:VI g A last T)(k aE:ByteArray)(now:Int)(R:av):
  Spec prog 86 [pT g,.string k,.string aE,.int .i64 now] R [T] λv H'=>∃T' Tn,H'=[T',Tn]/\∃w,v=.tuple [.agg (bE (w,(gu A k aE now).1)).toArray,.int .i64 (gu A k aE now).2.1].toArray/\dS (eg Tn) (w,(gu A k aE now).1)/\VI g (gu A k aE now).2.2 last T':=by
 have a0:=h.nd
 have H:=h
 obtain⟨f,j,rfl,hJ⟩:=h
 have a1:=hJ
 obtain⟨vm,M,q,Tm,N,U,y,hI,Z,hQ⟩:=hJ
 obtain⟨B,rfl⟩:∃b,vm=.map (some b):=by obtain⟨b,es,clock,h1,_⟩:=y;exact⟨b,h1⟩
 have ps:PS j (pT g) [.map (some B),pT q,.int .i64 last]:=PS.of (E:=102) (fr:=(0,0)) (by rw[U];simp)
 have rm:RM (sg j) (λs:ByteArray=>.string s) (λp:TP=>.agg (bE p).toArray) (.map (some B)) M:=y.rm λp hp=>by rw[U];simp[sg,hp]
 obtain⟨r,a,a6,J,V,a7,a9,K⟩:=qZ y.nd hI Z k
 have i0:bJ (bE (r,a)):=⟨J.bG⟩
 refine Spec.dg (H':=[j,f]) (by simp) ?_
 refine Spec.body func86 rfl results86 ntmps86 rfl ?_
 refine .sr ?_
 refine .cN (λb8=>?_)
 refine .ag rfl<|.zs<|.sr<|.mo rfl ?_
 refine .aM (lV g B _ _ _) (λv n=>?_)
 subst n
 refine .q .not<|.zn<|.bZ<|.kn<|.sr<|.mo rfl<|.nc rfl<|.fa rfl<|.lo rfl<|.mo rfl ?_
 refine .q (aP.cast (v':=.tuple [.agg (bE (r,a)).toArray,.bool (aU k A).isSome].toArray) (.kP (rm.mono λb o m=>.inr (by have C:(b,o)∈j:=m;simp[C])) rfl (show _=some (Value.string k)from rfl)) (by rw[<-a7, <-a6];rfl)) ?_
 refine .mo rfl<|.q .extract<|.q .extract ?_
 refine .cN (λa8=>?_)
 refine .ct rfl rfl<|.ag rfl<|.zs<|.block<|.sr<|.mo rfl<|.q .not<|.mo rfl ?_
 refine .split (t:=28) rfl (λc=>?_) (λc=>?_)
 refine .gF c<|.gF c<|.gF c<|.q (.aY c) ?_
 refine .mo rfl<|.gX<|.gX<|.gX<|.gX<|.q .ca<|.az rfl<|.dF<|.sr ?_
 refine .q .dI ?_
 refine .ct rfl rfl<|.az rfl ?_
 refine .ret (br (aL (aR _ (.two (.ey rfl rfl) (.tmp rfl)) ((aI [2,2]).trans (aT.bu (H':=[j++f,[]]) (by simp[take,aZ]))) ?_)))
 ·have i:aU k A=none:=by simpa using c
  have e:gu A k aE now=(Tok.zero,18,A):=by unfold gu;rw[i]
  rw[e];exact⟨_,_,rfl,sZ,rfl,dS.zero _,H⟩
 refine .gT c<|.fa rfl<|.gT c<|.lo rfl<|.gT c<|.q .dL<|.q (.aS c) ?_
 refine .mo rfl ?_
 refine .split (t:=33) rfl (λd=>?_) (λd=>?_)
 refine .gF d<|.gF d<|.gF d<|.gF d<|.q (.aY d) ?_
 refine .az rfl<|.dF<|.sr ?_
 refine .q .dI ?_
 refine .ct rfl rfl<|.az rfl ?_
 refine .ret (br (aL (aR _ (.two (.ey rfl rfl) (.tmp rfl)) ((aI [2,2]).trans (aT.bu (H':=[j++f,[]]) (by simp[take,aZ]))) ?_)))
 ·skip
  have F:(aU k A).isSome=true:=by simpa using c
  obtain⟨u,l⟩:=acV.1 F
  have i:aU k A=some a:=(K u l).1▸l
  have e:gu A k aE now=(Tok.zero,18,A):=by unfold gu;rw[i];simp only;rw[ab7 (.inl (by simpa using d))]
  rw[e];exact⟨_,_,rfl,sZ,rfl,dS.zero _,H⟩
 refine .gT d<|.fa rfl<|.gT d<|.lo rfl<|.gT d<|.mo rfl<|.gT d<|.q .fj<|.q (.aS d) ?_
 refine .az rfl ?_
 refine .cond rfl (λO=>?_) λO=>?_
 refine .sr ?_
 refine .q .dI ?_
 refine .ct rfl rfl<|.az rfl ?_
 refine .ret (br (aL (aR _ (.two (.ey rfl rfl) (.tmp rfl)) ((aI [2,2]).trans (aT.bu (H':=[j++f,[]]) (by simp[take,aZ]))) ?_)))
 ·skip
  have F:(aU k A).isSome=true:=by simpa using c
  obtain⟨u,l⟩:=acV.1 F
  have i:aU k A=some a:=(K u l).1▸l
  have e:gu A k aE now=(Tok.zero,18,A):=by unfold gu;rw[i];simp only;rw[ab7 (.inr (by simpa using O))]
  rw[e];exact⟨_,_,rfl,sZ,rfl,dS.zero _,H⟩
 obtain⟨i,a5,a4⟩:aU k A=some a/\a.kind=2/\a.aE=aE:=by
  have F:(aU k A).isSome=true:=by simpa using c
  obtain⟨u,l⟩:=acV.1 F
  exact⟨(K u l).1▸l,by simpa using d,by simpa using O⟩
 have W:¬(a.kind≠2\/a.aE≠aE):=by simp[a5,a4]
 refine .sr<|.fa rfl<|.lo rfl<|.az rfl ?_
 refine .cond rfl (λI=>?_) λI=>?_
 refine .sr<|.mo rfl<|.fa rfl<|.lo rfl ?_
 refine .bW (ti g A last f j a1 a.family _) (λv X n=>?_)
 obtain⟨rfl,a3⟩:=n
 refine .z<|.q (.bK rfl) ?_
 refine .da (pB r a _ (J.mono λb o m=>.inr (by have C:(b,o)∈f:=m.1;simp[C])) V) (λv L n=>?_)
 obtain⟨G,rfl,D⟩:=n
 have i1:bJ (bE (G,a)):=⟨D.bG⟩
 refine .ct rfl rfl<|.az rfl ?_
 refine .ret (br (aL (aR _ (.two (.ey rfl rfl) (.tmp rfl)) ((aI [3,3,0]).trans (aT.bu (H':=[X++f,L]) (by simp[take,aZ]))) ?_)))
 ·have e:gu A k aE now=(a,10,A.filter λx=> !(x.2.family==a.family)):=by unfold gu;rw[i];simp only;rw[ab8 W,ab7 I]
  rw[e];exact⟨_,_,rfl,G,rfl,D,f,X,rfl,a3⟩
 refine .sr<|.fa rfl<|.lo rfl<|.mo rfl<|.q .leq<|.az rfl ?_
 refine .cond rfl (λQ=>?_) λQ=>?_
 refine .sr ?_
 refine .q .dI ?_
 refine .ct rfl rfl<|.az rfl ?_
 refine .ret (br (aL (aR _ (.two (.ey rfl rfl) (.tmp rfl)) ((aI [2,2]).trans (aT.bu (H':=[j++f,[]]) (by simp[take,aZ]))) ?_)))
 ·have e:gu A k aE now=(Tok.zero,18,A):=by unfold gu;rw[i];simp only;rw[ab8 W,ab8 (by rw[I];simp),ab7 (bx Q)]
  rw[e];exact⟨_,_,rfl,sZ,rfl,dS.zero _,H⟩
 refine .skip<|bz<|aD<|.sr<|.fa rfl<|.cJ rfl rfl<|.zs ?_
 refine .df 6 mixed (by kernel_rfl) ?_
 conv=>arg 6;dsimp only[List.take]
 refine .sub (aT.open_ (S:=[bl g [.map (some B),pT q,.int .i64 last] 102,Tm,N]) 2 (by simp[U])) ?_
 show aG _ _ _ _ _ _ _ [_,_,_,_,_,_] _
 refine .mo rfl<|.nc rfl<|.fa rfl<|.lo rfl<|.mo rfl<|.q (.bK rfl)<|.nil ?_
 refine .update (u:=((r,a.mark):TP)) y rfl (show _=some (Value.string k)from rfl) rfl (λY a2 _=>?_)
 refine .z<|.q (.bK rfl) ?_
 refine .da (pB r a.mark _ (dS.mono (p:=(r,a)) J λb o m=>.inr (by have C:(b,o)∈f:=m.1;simp[C])) V) (λv L n=>?_)
 obtain⟨G,rfl,D⟩:=n
 have i1:bJ (bE (G,a.mark)):=⟨D.bG⟩
 refine .ct rfl rfl<|.az rfl ?_
 refine .ret (aR _ (.two (.ey rfl rfl) (.tmp rfl)) ((aI [1,1,1,3,0]).trans (aT.bu (H':=[((g,.cells [.map (some B),pT q,.int .i64 last].toArray 102 (0,0))::(Y++N))++f,L]) (by simp[take,aZ]))) ?_)
 ·have e:gu A k aE now=(a.mark,0,cT k a.mark A):=by unfold gu;rw[i];simp only;rw[ab8 W,ab8 (by rw[I];simp),ab8 (bo Q)]
  have hk:k=a.text:=(K a i).2.1.symm
  rw[e]
  refine⟨_,_,rfl,G,rfl,D,f,_,rfl,_,_,q,Y,N,rfl,a2,λp hp=>?_,?_,?_⟩
  ·rcases o2 y.nd hp with hp|rfl
   ·exact hI p hp
   ·exact⟨hk,dS.mono (p:=(r,a)) J λb o m=>m,V⟩
  ·exact(mg (nb y.nd)).trans (by rw[mh];exact mL Z)
  ·refine hQ.perm ?_
   rw[mh]
   exact(vR (by rw[kO];exact a0) (by rw[nJ,i];rfl)).symm
theorem pn(v w:Value)(l m:List ByteArray)(R:av)(h:RS R 1 bB v l)(k:RS R 1 bB w m):
  Spec prog 52 [v,w] R [] λu H'=>u=.bool (decide (l=m))/\H'=[]:=by
 have t:=h.le
 refine Spec.body func52 rfl results52 ntmps52 rfl<|.sr<|.ag rfl<|.zs<|.sr<|.mo rfl<|.q (.dl h)<|.mo rfl<|.q (.dl k)<|.q .dL<|.zn<|.cond rfl (λb=>?_) λb=>?_
 refine .sr<|.az rfl<|.ret (aL (aO rfl ?_))
 ·exact⟨by rw[acg (λe:l=m=>by simp[e]at b)],rfl⟩
 have x:l.length=m.length:=by simp at b;omega
 refine .kn<|.seq<|.sr<|.az rfl<|.block<|.loop (X:=Nat) (λi=>i<=l.length/\l.take i=m.take i) (λi=>[(0,v),(1,w),(5,iN i)]) (λ_=>[]) (λi=>l.length-i) 0 ⟨by omega,by simp⟩ kE.c.c.c rH ?_
 rintro i ⟨s,g⟩
 refine .seq<|.sr<|.mo rfl<|.mo rfl<|.q (.dl h)<|.q .lss<|.zn<|.cond rfl (λd=>?_) λd=>?_
 have p:i<l.length:=by simp at d;omega
 obtain⟨z,a⟩:=dN p
 obtain⟨y,j⟩:∃y,m[i]? =some y:=⟨_,bC (by omega)⟩
 refine .kn<|.seq<|.block<|.seq<|.iQ mixed (by kernel_rfl)<|.mo rfl<|.mo rfl ?_
 refine .cu i h a (λB=>?_)
 refine .lo rfl<|.mo rfl<|.mo rfl ?_
 refine .cu i k j (λA=>?_)
 refine .lo rfl<|.q .fj<|.zn<|.cond rfl (λf=>?_) λf=>?_
 refine .sr<|.az rfl<|.ret (br (aL (dn (br (aL (aO rfl ?_))))))
 ·refine⟨?_,rfl⟩
  have r:z≠y:=by simpa using f
  rw[acg (λe:l=m=>r (by rw[e,j]at a;cases a;rfl))]
 refine .skip<|bz<|aD<|.region<|.mo rfl<|.q (.inc (n:=i) (by omega))<|.ag rfl<|.nil ?_
 ·exact bf (i+1) ⟨by omega,by
   have e:z=y:=by simpa using f
   rw[acz,acz,g,a,j,e]⟩ (by omega) kE.c.c.c rH
 refine .exit<|bD<|bH<|bF<|aD<|.sr<|.az rfl<|.ret (aO rfl ?_)
 ·refine⟨?_,rfl⟩
  have o:i=l.length:=by simp at d;omega
  rw[o,ach,ac1 (by omega)]at g
  rw[ab9 g]
end Go.Proofs.YtkkmbiojicgobaaGreatDoor
