/- What the law 'KeepOpens' uses. No condition. -/
import Derived.Test.YtocjmmbldeljnaaGreatDoorKKeepOpensA
import Derived.Test.YtocjmmbldeljnaaGreatDoorKKeepOpensB
import Derived.Test.YtocjmmbldeljnaaGreatDoorKKeepOpensF
import Derived.Test.YtocjmmbldeljnaaGreatDoorKKeepOpensG
set_option linter.unusedSimpArgs false
set_option linter.unusedVariables false
namespace Go.Proofs.YtocjmmbldeljnaaGreatDoor
set_option linter.defProp false
def ab2:=@if_pos
def ab3:=@if_neg
def ab4:=@trivial
def ab5:=@decide_eq_true_eq
def ab6:=@List.mem_map
def ab7:=@Bool.false_or
def ab8:=@Bool.true_or
def ab9:=@Bool.eq_iff_iff
def aca:=@List.map_append
def acb:=@List.map_cons
def acd:=@Bool.true_and
def ace:=@Bool.not_eq_true'
def acf:=@Bool.not_eq_false'
def acg:=@decide_eq_false_iff_not
def ach:=@List.append_nil
def aci:=@List.map_map
def acj:=@Bool.and_eq_true
def ack:=@List.nodup_cons
def acm:=@List.mem_cons
def acn:=@List.getElem?_eq_some_iff
def aco:=@List.mem_append
def acp:=@List.mem_filter
def acq:=@decide_eq_true
def acr:=@List.filter_cons
def acs:=@List.flatten_cons
def acu:=@List.append_assoc
def acv:=@congrArg
def acw:=@Bool.or_eq_true
def acx:=@UInt8.not_lt
def acy:=@List.flatten_nil
def acz:=@Bool.eq_false_iff
def acA:=@List.mem_iff_getElem
def acB:=@decide_eq_false
def acC:=@beq_iff_eq
def acD:=@UInt8.lt_irrefl
def acE:=@List.nodup_append
def acF:=@List.perm_append_comm
def acG:=@List.take_add_one
def acH:=@List.take_length
def acI:=@List.not_mem_nil
def acJ:=@List.length_map
def acK:=@List.filter_eq_self
def acL:=@List.ext_getElem?
def acM:=@List.getElem?_map
def acN:=@List.getD_cons_zero
def acO:=@List.mem_append_left
def acP:=@List.take_sublist
def acQ:=@Bool.false_and
def acR:=@List.pairwise_map
def acS:=@List.flatMap_append
def acT:=@UInt8.le_antisymm
def acU:=@List.mem_map_of_mem
def acV:=@List.filter_append
def acW:=@List.perm_middle
def acX:=@List.cons_append
def acY:=@List.take_of_length_le
def acZ:=@Bool.false_eq_true
def ac0:=@List.mem_singleton
def ac1:=@List.any_eq_true
def ac2:=@List.map_congr_left
def ac3:=@List.length_filter_le
def ac4:=@List.getD_cons_succ
open Tryz
set_option linter.unusedVariables false
theorem Spec.qE{P:Program}{f:FuncId}{a:List Value}{v:Value}(h:∀w,Calls P f a.toArray w λe w'=>e=.returned v/\w'=w)(R:ao):Spec P f a R [] λu H'=>u=v/\H'=[]:=
 λw _ _=>(h w).mono λe w' ⟨c,b⟩=>⟨v,[],c,⟨rfl,rfl⟩,by subst b;exact⟨by simp,by simp⟩,by subst b;exact .refl _ _⟩
def dy(a b:ByteArray):Int:=Lib.compareBytes a.data.toList b.data.toList
theorem uN:∀(a b:List UInt8),Lib.compareBytes a b<0↔Op.bytesLess a b=true
 |[],[]=>by simp[Lib.compareBytes,Op.bytesLess]
 |[],_::_=>by simp[Lib.compareBytes,Op.bytesLess]
 |_::_,[]=>by simp[Lib.compareBytes,Op.bytesLess]
 |x::a,y::b=>by
  have f:=uN a b
  simp only[Lib.compareBytes,Op.bytesLess,acw,acj,ab5,acC]
  by_cases c:x<y
  ·simp[c]
  ·by_cases d:y<x
   ·have:x≠y:=λe=>by subst e;exact acD _ d
    simp[c,d,this]
   ·have:x=y:=acT (acx.1 d) (acx.1 c)
    subst this
    simp[c,f]
theorem uM:∀(a b:List UInt8),0<Lib.compareBytes a b↔Op.bytesLess b a=true
 |[],[]=>by simp[Lib.compareBytes,Op.bytesLess]
 |[],_::_=>by simp[Lib.compareBytes,Op.bytesLess]
 |_::_,[]=>by simp[Lib.compareBytes,Op.bytesLess]
 |x::a,y::b=>by
  have f:=uM a b
  simp only[Lib.compareBytes,Op.bytesLess,acw,acj,ab5,acC]
  by_cases c:x<y
  ·have d:¬y<x:=λh=>acD _ (UInt8.lt_trans c h)
   have:¬y=x:=λe=>by subst e;exact acD _ c
   simp[c,d,this]
  ·by_cases d:y<x
   ·simp[c,d]
   ·have:x=y:=acT (acx.1 d) (acx.1 c)
    subst this
    simp[c,f]
theorem uL:∀(a b:List UInt8),Lib.compareBytes a b=0↔a=b
 |[],[]=>by simp[Lib.compareBytes]
 |[],_::_=>by simp[Lib.compareBytes]
 |_::_,[]=>by simp[Lib.compareBytes]
 |x::a,y::b=>by
  have f:=uL a b
  simp only[Lib.compareBytes,List.cons.injEq]
  by_cases c:x<y
  ·have:¬x=y:=λe=>by subst e;exact acD _ c
   simp[c,this]
  ·by_cases d:y<x
   ·have:¬x=y:=λe=>by subst e;exact acD _ d
    simp[c,d,this]
   ·have:x=y:=acT (acx.1 d) (acx.1 c)
    subst this
    simp[c,f]
theorem uC:∀(a b c:List UInt8),Op.bytesLess a b=true->Op.bytesLess b c=true->Op.bytesLess a c=true
 |_,[],_,h,_=>by simp[Op.bytesLess]at h
 |_,_::_,[],_,h=>by simp[Op.bytesLess]at h
 |[],_::_,_::_,_,_=>by simp[Op.bytesLess]
 |x::a,y::b,z::c,h1,h2=>by
  simp only[Op.bytesLess,acw,acj,ab5,acC]at h1 h2⊢
  rcases h1 with h1|⟨rfl,h1⟩
  ·rcases h2 with h2|⟨rfl,h2⟩
   ·exact .inl (UInt8.lt_trans h1 h2)
   ·exact .inl h1
  ·rcases h2 with h2|⟨rfl,h2⟩
   ·exact .inl h2
   ·exact .inr ⟨rfl,uC a b c h1 h2⟩
theorem kh{a b:ByteArray}:cw a b=true↔dy a b<0:=by
 unfold cw dy;rw[ByteArray.toList_eq,ByteArray.toList_eq,uN]
theorem pH{a b:ByteArray}:cw b a=true↔0<dy a b:=by
 unfold cw dy;rw[ByteArray.toList_eq,ByteArray.toList_eq,uM]
theorem q0{a b:ByteArray}:dy a b=0↔a=b:=by
 unfold dy
 rw[uL]
 exact⟨λh=>ByteArray.ext (Array.toList_inj.1 h),λh=>by rw[h]⟩
theorem ki(a:ByteArray):cw a a=false:=by
 cases h:cw a a with
 |false=>rfl
 |true=>have:=kh.1 h;rw[q0.2 rfl]at this;omega
theorem kY{a b c:ByteArray}(d:cw a b=true)(e:cw b c=true):cw a c=true:=by
 unfold cw at *;exact uC _ _ _ d e
theorem tF{a b:ByteArray}(c:cw a b=false)(d:cw b a=false):a=b:=by
 refine q0.1 ?_
 rcases Int.lt_trichotomy (dy a b) 0 with h|h|h
 ·rw[kh.2 h]at c;cases c
 ·exact h
 ·rw[pH.2 h]at d;cases d
theorem kJ:SO cw:=⟨ki,λ_ _ _=>kY,λx y z b a=>by
 cases h:cw x z with
 |false=>rfl
 |true=>
  cases h3:cw y x with
  |true=>rw[kY h3 h]at a;cases a
  |false=>have:=tF b h3;subst this;rw[h]at a;cases a⟩
theorem jB(a b:ByteArray)(R:ao):Spec prog 168 [.string a,.string b] R [] λv H'=>v=.int .i64 (dy a b)/\H'=[]:=
 Spec.qE (PO a b) R
def fp(a b:Int):Int:=if a<b then-1 else if b<a then 1 else 0
def et:List Int->Int
 |[]=>0
 |x::l=>if x=0 then et l else x
def lx(x:Int):List Value:=[.int .i64 x]
def bL(s:ByteArray):List Value:=[.string s]
instance QT(s:ByteArray)(l:List ByteArray):Decidable (s∈l):=decidable_of_iff (l.any (λx=>decide (x=s))=true) (by simp)
instance Q2:eJ prog 9 (λs:ByteArray=>.string s):=eJ.str qf r9
theorem xC{l:List Int}{i:Nat}(h:∀j x,j<i->l[j]? =some x->x=0):et l=et (l.drop i):=by
 induction i generalizing l with
 |zero=>simp
 |succ i ih=>
  cases l with
  |nil=>simp
  |cons x l=>
   have:x=0:=h 0 x (by omega) rfl
   subst this
   simp only[et,if_true,List.drop_succ_cons]
   exact ih λj x b a=>h (j+1) x (by omega) (by simpa using a)
theorem qM(v:Value)(l:List Int)(R:ao)(h:RS R 1 lx v l):Spec prog 287 [v] R [] λu H'=>u=.int .i64 (et l)/\H'=[]:=by
 have p:=h.le
 refine Spec.body func287 rfl results287 ntmps287 rfl ?_
 refine .sr<|.ag rfl<|.z<|.ag rfl<|.zs<|.sr<|.mo rfl<|.q (.cv h) ?_
 refine .mo rfl<|.zn<|.block ?_
 refine .loop (X:=Nat) (λi=>i<=l.length/\∀j x,j<i->l[j]? =some x->x=0) (λi=>[(3,.int .i64 0),(6,v),(7,.int .i64 l.length),(8,iN i)]) (λ_=>[]) (λi=>l.length-i) 0 ⟨by omega,by omega⟩ kE.c.c.c.c rH ?_
 rintro i ⟨m,g⟩
 refine .sr<|.q .lss<|.zs ?_
 refine .cond rfl (λb=>?_) λb=>?_
 have e:i<l.length:=by simp at b;omega
 obtain⟨z,a⟩:=dM e
 refine .kn<|.seq<|.block<|.sr ?_
 refine .cB i h a (λr=>?_)
 refine .lo rfl<|.ag rfl<|.z<|.mo rfl<|.mo rfl<|.q .cb<|.zn ?_
 refine .cond rfl (λd=>?_) λd=>?_
 refine .sr<|.mo rfl<|.az rfl ?_
 refine .ret (bi (aR (cK (bi (aR (aW rfl ?_))))))
 ·refine⟨?_,rfl⟩
  have k:z≠0:=by simpa using d
  rw[xC g,List.drop_eq_getElem_cons e]
  rw[bd e]at a
  cases a
  simp[et,k]
 refine .skip<|bz<|aG<|.region ?_
 refine .q (.inc (n:=i) (by omega)) ?_
 refine .mo rfl<|.nil ?_
 ·exact br (i+1) ⟨by omega,λj x o f=>by
   rcases Nat.lt_or_ge j i with hh|hh
   ·exact g j x hh f
   ·obtain rfl:j=i:=by omega
    rw[a]at f;cases f;simpa using d⟩ (by omega) kE.c.c.c.c rH
 refine .exit<|bk<|bw<|bq<|aG<|.sr<|.mo rfl<|.az rfl ?_
 refine .ret (aW rfl ?_)
 ·refine⟨?_,rfl⟩
  have:i=l.length:=by simp at b;omega
  rw[xC g,this];simp[et]
theorem wO(a:Int)(R:ao):Spec prog 536 [.int .i64 a] R [] λu H'=>u=.bool false/\H'=[]:=by
 refine Spec.body func536 rfl results536 ntmps536 rfl ?_
 refine .sr<|.ag rfl<|.z<|.mo rfl<|.mo rfl<|.q .cb<|.az rfl ?_
 refine .ret (aW rfl ?_)
 ·exact⟨by simp,rfl⟩
theorem z7(a b:Int)(R:ao):Spec prog 535 [.int .i64 a,.int .i64 b] R [] λu H'=>u=.int .i64 (fp a b)/\H'=[]:=by
 refine Spec.body func535 rfl results535 ntmps535 rfl ?_
 refine .sr<|.ag rfl<|.z<|.mo rfl ?_
 refine .aH (wO a _) (λv e=>?_)
 subst e
 refine .ag rfl<|.z<|.mo rfl ?_
 refine .aH (wO b _) (λv e=>?_)
 subst e
 refine .ag rfl<|.zs<|.sr<|.mo rfl<|.zn<|.bB<|.kn<|.seq<|.sr<|.mo rfl<|.zn<|.bB<|.kn<|.seq<|.sr<|.mo rfl<|.mo rfl<|.q .lss<|.zn ?_
 refine .cond rfl (λc=>?_) λc=>?_
 refine .sr<|.az rfl ?_
 refine .ret (aR (aW rfl ?_))
 ·refine⟨?_,rfl⟩
  simp at c
  try simp at d
  unfold fp
  congr 1
  split
  ·first|rfl|omega
  ·first|rfl|(exfalso;omega)|(split<;>first|rfl|omega)
 refine .kn<|.seq<|.sr<|.mo rfl<|.mo rfl<|.q .gtr<|.zn ?_
 refine .cond rfl (λd=>?_) λd=>?_
 refine .sr<|.az rfl ?_
 refine .ret (aR (aW rfl ?_))
 ·refine⟨?_,rfl⟩
  simp at c
  try simp at d
  unfold fp
  congr 1
  split
  ·first|rfl|omega
  ·first|rfl|(exfalso;omega)|(split<;>first|rfl|omega)
 refine .kn<|.sr<|.az rfl ?_
 refine .ret (aW rfl ?_)
 ·refine⟨?_,rfl⟩
  simp at c
  try simp at d
  unfold fp
  congr 1
  split
  ·first|rfl|omega
  ·first|rfl|(exfalso;omega)|(split<;>first|rfl|omega)
section
variable{κ β:Type} [DecidableEq κ]
def fx(k:κ)(A:List (κ×β)):List (κ×β):=A.filter λp=>decide (p.1≠k)
def dQ(k:κ)(x:β)(A:List (κ×β)):List (κ×β):=fx k A++[(k,x)]
theorem sE{k:κ}{A B:List (κ×β)}(h:A.Perm B):(fx k A).Perm (fx k B):=h.filter _
theorem qt{k:κ}{x:β}{A B:List (κ×β)}(h:A.Perm B):(dQ k x A).Perm (dQ k x B):=(sE h).append_right _
theorem kC{k:κ}{A:List (κ×β)}(h:k∉A.map (·.1)):fx k A=A:=by
 unfold fx
 rw[acK]
 intro p a
 simp only[ab5]
 exact λe=>h (e▸acU a)
theorem o7{k:κ}{x:β}{A:List (κ×β)}(h:k∉A.map (·.1)):fx k ((k,x)::A)=A:=by
 have:=kC h
 unfold fx at *
 rw[acr,ab3 (by simp)]
 exact this
theorem wU{k:κ}{x:β}{A B:List (κ×β)}(a:((A++(k,x)::B).map (·.1)).Nodup):fx k (A++(k,x)::B)=A++B:=by
 simp only[aca,acb,acE,ack,acm]at a
 obtain⟨_,⟨d,_⟩,e⟩:=a
 have b:fx k A=A:=kC λf=>e k f k (.inl rfl) rfl
 have c:fx k ((k,x)::B)=B:=o7 d
 unfold fx at *
 rw[acV,b,c]
theorem M6{k:κ}{x b:β}{A B:List (κ×β)}(e:((A++(k,x)::B).map (·.1)).Nodup):(A++(k,b)::B).Perm (dQ k b (A++(k,x)::B)):=by
 unfold dQ
 rw[wU e]
 have c:(A++(k,b)::B).Perm ((k,b)::(A++B)):=acW
 have d:((A++B)++[(k,b)]).Perm ((k,b)::(A++B)):=by simpa using(acW (a:=(k,b)) (l₁:=A++B) (l₂:=[]))
 exact c.trans d.symm
theorem qy{k:κ}:∀{M:List (κ×β)},(M.map (·.1)).Nodup->fT k M=fx k M
 |[],_=>rfl
 |(k',y)::r,hn=>by
  simp only[acb,ack]at hn
  simp only[fT]
  split
  ·rename_i a;subst a;exact(o7 hn.1).symm
  ·rename_i a
   rw[qy hn.2]
   simp[fx,Ne.symm a]
theorem Nr{k:κ}{A B:List (κ×β)}(h:A.Perm B)(b:(A.map (·.1)).Nodup):bO k A=bO k B:=by
 have c:(B.map (·.1)).Nodup:=(h.map (·.1)).nodup_iff.1 b
 cases h1:bO k A with
 |some x=>exact(jl c (h.mem_iff.1 (jW h1))).symm
 |none=>
  rw[jG]at h1
  refine(jG.2 λa=>h1 ?_).symm
  exact(h.map (·.1)).mem_iff.2 a
end
structure XE where
 b:Nat
 key:ByteArray
 at_:Int
def XE.cells(e:XE)(i:Nat):List Value:=[.string e.key,.int .i64 e.at_,.int .i64 i]
def XE.obj(e:XE)(i:Nat):Obj:=.cells (e.cells i).toArray 431 (0,0)
abbrev XE.ptr(e:XE):Value:=.pointer (some ⟨e.b,0,none⟩)
def jD(e:XE):List Value:=[e.ptr]
def fw(L:List XE):au:=L.zipIdx.map λp=>(p.1.b,p.1.obj p.2)
def rV(e f:XE):Int:=et [fp e.at_ f.at_,dy e.key f.key]
def jT(e f:XE):Bool:=decide (rV e f<0)
theorem nB(L:List XE)(j:Nat):(fw L)[j]? =L[j]?.map λe=>(e.b,e.obj j):=by
 simp[fw,List.getElem?_zipIdx]
 cases L[j]? <;>rfl
theorem vv(L:List XE):(fw L).length=L.length:=by simp[fw]
theorem nC{L:List XE}{i:Nat}{e:XE}(h:L[i]? =some e):(e.b,e.obj i)∈fw L:=by
 refine bD (i:=i) ?_
 rw[nB,h];rfl
theorem vq(L:List XE):(fw L).map (·.1)=L.map (·.b):=by
 apply acL
 intro j
 rw[acM,nB,acM]
 cases L[j]? <;>rfl
def TI(q:Nat)(vm:Value)(L:List XE)(T:au):Prop:=∃vt Tt Te,T=(q,.cells [vt,vm].toArray 437 (0,0))::(Tt++Te)/\OS 432 1 jD vt L Tt/\Te.Perm (fw L)/\L.length<=1000000000
theorem Ak(e f:XE)(i k:Nat)(R:ao)(c:R e.b (e.obj i))(d:R f.b (f.obj k)):Spec prog 531 [e.ptr,f.ptr] R [] λv H'=>v=.int .i64 (rV e f)/\H'=[]:=by
 have h:PC R (.pointer (some ⟨e.b,0,none⟩)) (e.cells i):=PC.of c
 have j:PC R (.pointer (some ⟨f.b,0,none⟩)) (f.cells k):=PC.of d
 refine Spec.body func531 rfl results531 ntmps531 rfl ?_
 refine .sr<|.ag rfl<|.zs<|.cq [] mixed ?_
 refine .tO 0 rfl .move<|.tO 1 rfl (.nilCheck rfl)<|.tO 2 rfl (.fieldAddr rfl)<|.tO 3 rfl (.bo rfl)<|.tO 4 rfl .move<|.tO 5 rfl (.nilCheck rfl)<|.tO 6 rfl (.fieldAddr rfl)<|.tO 7 rfl (.bo rfl)<|.tO 9 rfl .move<|.tO 10 rfl (.nilCheck rfl)<|.tO 11 rfl (.fieldAddr rfl)<|.tO 12 rfl (.bo rfl)<|.tO 13 rfl .move<|.tO 14 rfl (.nilCheck rfl)<|.tO 15 rfl (.fieldAddr rfl)<|.tO 16 rfl (.bo rfl) ?_
 refine .sT 8 rfl ?_
 refine .aH (z7 e.at_ f.at_ _) (λv a=>?_)
 subst a
 refine .nil (Next.sub ?_)
 refine .sT 17 rfl ?_
 refine .aH (jB e.key f.key _) (λv a=>?_)
 subst a
 refine .nil (Next.sub ?_)
 refine .sT 18 rfl ?_
 refine .oS [_,_] (λg=>?_)
 refine .nil (Next.sub ?_)
 refine .sT 19 rfl ?_
 refine .aH (qM _ [fp e.at_ f.at_,dy e.key f.key] _ (RS.lits rfl (by simp[lx]) (by simp[lx,ay]))) (λv a=>?_)
 subst a
 refine .nil (Next.sub ?_)
 refine .tO 20 rfl .assign ?_
 refine RA.nil (by kernel_rfl) ?_
 refine aG ?_
 refine .ret (aW rfl ?_)
 ·exact⟨rfl,rfl⟩
theorem P7(a:Value)(L:List XE)(R:ao)(h:RS R 1 jD a L):Spec prog 532 [a] R [] λv H'=>v=.int .i64 L.length/\H'=[]:=by
 refine Spec.body func532 rfl results532 ntmps532 rfl ?_
 refine .sr<|.ag rfl<|.z<|.mo rfl<|.q (.cv h) ?_
 refine .az rfl ?_
 refine .ret (aW rfl ?_)
 ·exact⟨rfl,rfl⟩
theorem P8(a:Value)(L:List XE)(R:ao)(h:RS R 1 jD a L)(i k:Nat)(e f:XE)(c:L[i]? =some e)(d:L[k]? =some f)(g:R e.b (e.obj i))(j:R f.b (f.obj k)):
  Spec prog 533 [a,.int .i64 i,.int .i64 k] R [] λv H'=>v=.bool (jT e f)/\H'=[]:=by
 refine Spec.body func533 rfl results533 ntmps533 rfl ?_
 refine .sr<|.ag rfl<|.zs ?_
 refine .cM 8 mixed (by kernel_rfl) ?_
 conv=>arg 6;dsimp only[List.take]
 refine .mo rfl<|.mo rfl ?_
 refine .cB i h c (λm=>?_)
 refine .lo rfl<|.mo rfl<|.mo rfl ?_
 refine .cB k h d (λn=>?_)
 refine .lo rfl<|.nil ?_
 refine .aH (Ak e f i k _ (.inl g) (.inl j)) (λv l=>?_)
 subst l
 refine .q .lss<|.az rfl ?_
 refine .ret (aW rfl ?_)
 ·exact⟨rfl,rfl⟩
theorem nD{L:List XE}(f:(L.map (·.b)).Nodup){i k:Nat}{x y:XE}(g:L[i]? =some x)(h:L[k]? =some y)(a:x.b=y.b):i=k:=by
 obtain⟨c,rfl⟩:=acn.1 g
 obtain⟨d,rfl⟩:=acn.1 h
 exact(List.getElem_inj (xs:=L.map λe:XE=>e.b) (i:=i) (j:=k) (h₀:=by simpa using c) (h₁:=by simpa using d) f).1 (by simpa using a)
theorem Ao{L:List XE}{n:au}(q:n.Perm (fw L))(m:(L.map (·.b)).Nodup){i k:Nat}{x y:XE}(c:L[i]? =some x)(a:L[k]? =some y):
  (eh (eh n y.b (y.obj i)) x.b (x.obj k)).Perm (fw (bY L i k)):=by
 have g:=(acn.1 c).1
 have l:=(acn.1 a).1
 refine(uf (uf q)).trans ?_
 have r:(bY L i k)[k]? =some x:=by rw[eg g l,ab2 rfl,c]
 have s:(bY L i k)[i]? =some y:=by
  rw[eg g l]
  split
  ·rename_i e;subst e;rw[c]at a;cases a;exact c
  ·rw[ab2 rfl,a]
 have t:eh (eh (fw L) y.b (y.obj i)) x.b (x.obj k)=bY (fw (bY L i k)) i k:=by
  apply acL
  intro j
  rw[ud,ud,nB,eg (by rw[vv,kl];exact g) (by rw[vv,kl];exact l)]
  simp only[nB]
  by_cases d:j=k
  ·subst d
   rw[ab2 rfl,s,a]
   simp only[Option.map_some,if_true,Option.some.injEq]
   split
   ·rename_i e
    have:=nD m a c e
    subst this
    rw[c]at a;cases a;rfl
   ·rfl
  ·rw[ab3 d]
   by_cases f:j=i
   ·subst f
    rw[ab2 rfl,r,c]
    have:x.b≠y.b:=λe=>d (nD m c a e)
    simp[this]
   ·rw[ab3 f,eg g l,ab3 d,ab3 f]
    cases he:L[j]? with
    |none=>rfl
    |some e=>
     have o:e.b≠y.b:=λh=>d (nD m he a h)
     have p:e.b≠x.b:=λh=>f (nD m he c h)
     simp[o,p]
 rw[t]
 exact pN
theorem Qg(m:Value)(L:List XE)(n f:au)(R:ao)(h:OS 432 1 jD m L n)(g:f.Perm (fw L))(i k:Nat)(hi:i<L.length)(j:k<L.length):
  Spec prog 534 [m,.int .i64 i,.int .i64 k] R [n,f] λv H'=>∃Tt' Te',H'=[Tt',Te']/\OS 432 1 jD m (bY L i k) Tt'/\Te'.Perm (fw (bY L i k)):=by
 refine Spec.nodup λr=>?_
 have q:(L.map (·.b)).Nodup:=by
  rw[<-vq, <-(g.map (·.1)).nodup_iff]
  simp only[acs,acy,ach,aca,acE]at r
  exact r.2.1
 obtain⟨x,c⟩:=dM hi
 obtain⟨y,a⟩:=dM j
 obtain⟨_,z⟩:∃u,(L.set k x)[i]? =some u:=⟨_,bd (by simpa using hi)⟩
 obtain⟨_,B⟩:∃u,(L.set i y)[k]? =some u:=⟨_,bd (by simpa using j)⟩
 have E:=h.ay
 refine Spec.body func534 rfl results534 ntmps534 rfl ?_
 refine .seq<|.cq [13,15] mixed ?_
 refine .tO 0 rfl .move<|.tO 1 rfl .move<|.tK 2 rfl .move<|.tK 3 rfl .move<|.tO 4 rfl .move<|.tO 5 rfl .move ?_
 refine RA.aU 6 rfl k h a rfl rfl rfl (by kernel_rfl) (λF=>?_)
 refine .tO 7 rfl (.bo rfl)<|.tO 8 rfl .move<|.tO 9 rfl .move ?_
 refine RA.aU 10 rfl i h c rfl rfl rfl (by kernel_rfl) (λG=>?_)
 refine .tO 11 rfl (.bo rfl) ?_
 refine RA.aU 12 rfl i h c rfl rfl rfl (by kernel_rfl) (λH=>?_)
 refine .sT 13 rfl ?_
 first
  |refine aB.dC i d z y (λo p=>?_)
  |refine aB.dC i h c y (λt p=>?_)
 refine .nil (Next.mod rfl ?_)
 refine RA.aU 14 rfl k h a rfl rfl rfl (by kernel_rfl) (λI=>?_)
 refine .sT 15 rfl ?_
 first
  |refine aB.dC k p B x (λo d=>?_)
  |refine aB.dC k h a x (λt d=>?_)
 refine .nil (Next.mod rfl ?_)
 refine RA.nil (by kernel_rfl) ?_
 have A:(bY L i k)[k]? =some x:=by rw[eg hi j,ab2 rfl,c]
 have C:(bY L i k)[i]? =some y:=by
  rw[eg hi j]
  split
  ·rename_i e;subst e;rw[c]at a;cases a;exact c
  ·rw[ab2 rfl,a]
 rw[<-dW c a]at d
 have l:=g.mem_iff.2 (nC c)
 have s:=g.mem_iff.2 (nC a)
 have M:PS f (.pointer (some ⟨x.b,0,none⟩)) (x.cells i):=PS.of l
 have N:PS f (.pointer (some ⟨y.b,0,none⟩)) (y.cells k):=PS.of s
 refine aG<|.cq [12,15] mixed ?_
 refine .tO 0 rfl .move<|.tO 1 rfl .move ?_
 refine RA.aU 2 rfl i d C rfl rfl rfl (by kernel_rfl) (λJ=>?_)
 refine .tO 3 rfl (.bo rfl)<|.tO 4 rfl .move<|.tO 5 rfl .move ?_
 refine RA.aU 6 rfl k d A rfl rfl rfl (by kernel_rfl) (λK=>?_)
 refine .tO 7 rfl (.bo rfl)<|.tO 8 rfl .move<|.tK 9 rfl .move<|.tO 10 rfl (.nilCheck rfl)<|.tO 11 rfl (.fieldAddr rfl) ?_
 refine .sT 12 rfl ?_
 refine .tP (vs:=y.cells k) (off:=2) s ?_
 rw[show Obj.cells (bT (y.cells k) 2 [iN i]).toArray 431 (0,0)=y.obj i from rfl]
 refine .nil (Next.mod rfl ?_)
 refine .tK 13 rfl (.pn rfl) ?_
 refine .tK 14 rfl (.dU rfl) ?_
 refine .sT 15 rfl ?_
 have D:(x.b,x.obj i)∈eh f y.b (y.obj i):=by
  by_cases e:x.b=y.b
  ·have w:=nD q c a e
   subst w
   rw[c]at a;cases a
   exact yL l
  ·exact Qi l e
 refine .tP (vs:=x.cells i) (off:=2) D ?_
 rw[show Obj.cells (bT (x.cells i) 2 [iN k]).toArray 431 (0,0)=x.obj k from rfl]
 refine .nil (Next.mod rfl ?_)
 refine RA.nil (by kernel_rfl) ?_
 refine dc _ .none rH ?_
 ·exact⟨o,_,rfl,d,Ao g q c a⟩
theorem oX{e f:XE}:jT e f=true↔e.at_<f.at_\/e.at_=f.at_/\cw e.key f.key=true:=by
 unfold jT rV
 rw[ab5,kh]
 unfold fp
 simp only[et]
 by_cases a:e.at_<f.at_
 ·simp[a]
 ·by_cases b:f.at_<e.at_
  ·have:¬e.at_=f.at_:=by omega
   simp[a,b,this]
  ·have:e.at_=f.at_:=by omega
   simp only[this,if_true,Int.lt_irrefl,if_false,false_or,true_and]
   split
   ·rename_i h;rw[h]
   ·rfl
theorem nz:SO jT:=by
 have f:∀x y z,jT x y=true->jT y z=true->jT x z=true:=λx y z h1 h2=>by
  rw[oX]at *
  rcases h1 with h1|⟨h1,a⟩<;>rcases h2 with h2|⟨h2,d⟩
  ·exact .inl (by omega)
  ·exact .inl (by omega)
  ·exact .inl (by omega)
  ·exact .inr ⟨by omega,kY a d⟩
 have e:∀x,jT x x=false:=λx=>by
  rw[acz];intro h
  rw[oX,ki]at h
  rcases h with h|⟨_,h⟩
  ·omega
  ·cases h
 refine⟨e,f,λx y z h1 h2=>?_⟩
 rw[acz]at *
 rw[ne_eq,oX]at *
 rintro(h|⟨h,a⟩)
 ·simp only[not_or]at h1 h2;omega
 ·simp only[not_or,not_and]at h1 h2
  have b:x.at_=y.at_:=by omega
  have c:y.at_=z.at_:=by omega
  have:=kJ.fJ x.key y.key z.key (by simpa using h1.2 b) (by simpa using h2.2 c)
  rw[this]at a;cases a
theorem Qd(q:Nat)(vm:Value)(L:List XE)(T:au)(h:TI q vm L T)(e:XE)(m:L.length<1000000000)(R:ao):
  Spec prog 538 [pT q,.iface 432 e.ptr] R [T++[(e.b,e.obj 0)]] λv H'=>∃T',H'=[T']/\TI q vm (L++[e]) T':=by
 obtain⟨k,g,c,rfl,a,i,_⟩:=h
 refine Spec.du (H':=[bl q [k,vm] 437,g,c,[(e.b,.cells (e.cells 0).toArray 431 (0,0))]]) (by simp[XE.obj]) ?_
 have n:=a.ay
 refine Spec.body func538 rfl results538 ntmps538 rfl ?_
 refine .sr<|.mo rfl<|.q (.uy) ?_
 refine .ag rfl<|.z<|.mo rfl<|.mo rfl<|.nc rfl<|.lo rfl<|.q (.kD a) ?_
 refine .nc rfl<|.fa rfl<|.ca rfl rfl<|.zn<|.region<|.mo rfl<|.mo rfl<|.nc rfl<|.lo rfl<|.mo rfl ?_
 refine .lq (λl=>?_)
 refine .append a (RS.lits (xs:=[e]) rfl (by simp[jD]) (by simp[jD,ay])) (by simp;omega) (λj f d=>?_)
 have o:=d.ay
 refine .nc rfl<|.ca rfl rfl<|.nil<|dc _ .none (.one [1,1,1,1] _) ?_
 ·refine⟨_,rfl,j,f,c++[(e.b,e.obj L.length)],by simp[take,bf];exact⟨rfl,rfl⟩,d,?_,by simp;omega⟩
  have:fw (L++[e])=fw L++[(e.b,e.obj L.length)]:=by simp[fw,List.zipIdx_append]
  rw[this]
  exact i.append_right _
def TJ(q:Nat)(vm:Value)(x:XE)(L:List XE)(T:au):Prop:=∃T1 i,T.Perm (T1++[(x.b,x.obj i)])/\TI q vm L T1
theorem Qc(q:Nat)(vm:Value)(L:List XE)(x:XE)(T:au)(h:TI q vm (L++[x]) T)(R:ao):
  Spec prog 537 [pT q] R [T] λv H'=>∃T',H'=[T']/\v=.iface 432 x.ptr/\TJ q vm x L T':=by
 obtain⟨j,c,g,rfl,a,d,i⟩:=h
 simp only[List.length_append,List.length_singleton]at i
 refine Spec.du (H':=[bl q [j,vm] 437,c,g]) (by simp) ?_
 have k:=a.ay
 refine Spec.body func537 rfl results537 ntmps537 rfl ?_
 refine .sr<|.ag rfl<|.z<|.mo rfl<|.nc rfl<|.lo rfl<|.ag rfl<|.z<|.mo rfl<|.mo rfl<|.q (.kD a) ?_
 refine .q (.i64 ((L.length:Nat):Int) .sub ⟨by simp,by omega,by omega⟩) ?_
 refine .aU L.length a (z:=x) (by simp) (λm=>?_)
 refine .lo rfl<|.ag rfl<|.z<|.mo rfl<|.mo rfl<|.mo rfl<|.q (.kD a) ?_
 refine .q (.i64 ((L.length:Nat):Int) .sub ⟨by simp,by omega,by omega⟩) ?_
 refine .pK 0 L.length a rfl ⟨_,rfl⟩ (by omega) (by simp) (λf e=>?_)
 have l:=e.ay
 refine .nc rfl<|.ca rfl rfl<|.z<|.mo rfl<|.q .makeInterface<|.az rfl ?_
 refine .ret (aO _ (.one (.tmp rfl)) (.one [0,0,0] _) ?_)
 ·refine⟨_,rfl,rfl,(q,.cells [f,vm].toArray 437 (0,0))::(c++fw L),L.length,?_,f,c,fw L,rfl,by simpa using e,.refl _,by omega⟩
  have:fw (L++[x])=fw L++[(x.b,x.obj L.length)]:=by simp[fw,List.zipIdx_append]
  rw[this]at d
  simp only[take,bf,acN,acs,acy,ach,acX,List.nil_append,acu]
  exact(d.append_left c).cons _
theorem pg:∀w,(typeInfo 439).run prog w=.ok t439 w:=typeInfo439
theorem tZ(q:Nat)(vm:Value)(R:ao):nb prog R 439 (pT q) jT (TI q vm) where
 bX L T h:=by obtain⟨a,c,b,rfl,e,d,g⟩:=h;exact g
 len L T h:=by
  obtain⟨a,c,b,rfl,e,d,g⟩:=h
  have l:RS (Rx R [(q,.cells [a,vm].toArray 437 (0,0))::(c++b)]) 1 jD a L:=e.rs λp j=>.inr (by simp[j])
  refine(fY.gg (r:=a) (f:=532) (iI.val pg (by kernel_rfl) inferInstance (by kernel_rfl) inferInstance (PC.of (vs:=[a,vm]) (E:=437) (fr:=(0,0)) (.inr (by simp)))) (P7 a L _ l)).mono λu s m=>?_
  obtain⟨rfl,rfl⟩:=m
  exact⟨rfl,a,c,b,rfl,e,d,g⟩
 less L T i k x y h hx hy:=by
  obtain⟨a,c,b,rfl,e,d,g⟩:=h
  have l:RS (Rx R [(q,.cells [a,vm].toArray 437 (0,0))::(c++b)]) 1 jD a L:=e.rs λp j=>.inr (by simp[j])
  have A:=d.mem_iff.2 (nC hx)
  have B:=d.mem_iff.2 (nC hy)
  refine(fY.gg (r:=a) (f:=533) (iI.val pg (by kernel_rfl) inferInstance (by kernel_rfl) inferInstance (PC.of (vs:=[a,vm]) (E:=437) (fr:=(0,0)) (.inr (by simp)))) (P8 a L _ l i k x y hx hy (.inr (by simp[A])) (.inr (by simp[B])))).mono λu s m=>?_
  obtain⟨rfl,rfl⟩:=m
  exact⟨rfl,a,c,b,rfl,e,d,g⟩
 swap L T i k h hi hk:=by
  obtain⟨a,c,b,rfl,e,d,g⟩:=h
  refine⟨534,a,iI.val pg (by kernel_rfl) inferInstance (by kernel_rfl) inferInstance (PC.of (vs:=[a,vm]) (E:=437) (fr:=(0,0)) (.inr (by simp))),inferInstance,?_⟩
  refine Spec.du (H':=[bl q [a,vm] 437,c,b]) (by simp) ?_
  refine Spec.flat ((Spec.pb [1,1] (Qg a L c b _ e d i k hi hk)).mono λv H' z=>?_)
  obtain⟨C,rfl,o,n,rfl,w,t⟩:=z
  refine⟨_,(q,.cells [a,vm].toArray 437 (0,0))::(o++n),rfl,?_,_,rfl,a,o,n,rfl,w,t,by rw[kl];exact g⟩
  simp only[rest,bf,List.flatten_append,acs,acy,ach]
  exact acF
theorem Qf(q:Nat)(vm:Value)(L:List XE)(T:au)(h:TI q vm L T)(e:XE)(hl:L.length<1000000000)(R:ao):fY Tryz.prog 439 (.pointer (some ⟨q,0,none⟩)) "Push" [.iface 432 e.ptr] R (T++[(e.b,e.obj 0)]) fun _ T'=>TI q vm (L++[e]) T':=
 ⟨538,_,iI.ptr pg (by kernel_rfl) inferInstance (by kernel_rfl),inferInstance,Qd q vm L T h e hl R⟩
theorem Qe(q:Nat)(vm:Value)(L:List XE)(x:XE)(T:au)(h:TI q vm (L++[x]) T)(R:ao):fY Tryz.prog 439 (.pointer (some ⟨q,0,none⟩)) "Pop" [] R T fun v T'=>v=.iface 432 x.ptr∧TJ q vm x L T':=
 ⟨537,_,iI.ptr pg (by kernel_rfl) inferInstance (by kernel_rfl),inferInstance,Qc q vm L x T h R⟩
abbrev Og(b:Nat):Value:=pT b
def XE.kb(e:XE):ByteArray×Nat:=(e.key,e.b)
def XE.ka(e:XE):ByteArray×Int:=(e.key,e.at_)
def QI(q:Nat)(A:List (ByteArray×Int))(T:au):Prop:=∃L vm M T1 Tm,T=T1++Tm/\TI q vm L T1/\MS (λs:ByteArray=>.string s) Og vm M Tm/\
 M.Perm (L.map XE.kb)/\eS jT L L.length/\(L.map XE.ka).Perm A
theorem QI.nodup{q:Nat}{A:List (ByteArray×Int)}{T:au}(h:QI q A T):(A.map (·.1)).Nodup:=by
 obtain⟨L,k,M,f,g,rfl,i,d,e,j,c⟩:=h
 have a:=(e.map (·.1)).nodup_iff.1 d.nd
 have b:=(c.map (·.1)).nodup_iff.1 (by rw[aci]at a⊢;exact a)
 exact b
theorem QI.len{q:Nat}{A:List (ByteArray×Int)}{T:au}(h:QI q A T):A.length<=1000000000:=by
 obtain⟨L,k,M,b,d,rfl,⟨l,e,c,_,_,_,i⟩,f,j,g,a⟩:=h
 have:=a.length_eq
 simp at this;omega
theorem QI.perm{q:Nat}{A B:List (ByteArray×Int)}{T:au}(h:QI q A T)(j:A.Perm B):QI q B T:=by
 obtain⟨L,k,M,a,b,c,d,e,f,g,i⟩:=h
 exact⟨L,k,M,a,b,c,d,e,f,g,i.trans j⟩
theorem xL(R:ao):Spec prog 299 [] R [] λv H'=>∃T,H'=[T]/\∃q,v=pT q/\QI q [] T:=by
 refine Spec.body func299 rfl results299 ntmps299 rfl ?_
 refine .sr<|.ag rfl<|.z ?_
 refine .makeMap (λa=>?_)
 refine .q .cC ?_
 refine .cc rfl (λb=>?_)
 refine .az rfl ?_
 refine .ret (aO _ (.one (.tmp rfl)) (.one [0,0] _) ?_)
 ·exact⟨_,rfl,_,rfl,[],_,[],bl b [sZ,.map (some a)] 437,_,rfl,⟨_,[],[],rfl,OS.nil,.refl _,by simp⟩,MS.nil,.refl _,λk d c=>by simp at c,.refl _⟩
theorem xM(q:Nat)(a:Value)(b:Nat)(R:ao) [pc:PC R (pT q) [a,.map (some b)]]:
  Spec prog 406 [pT q] R [] λv H'=>v=.bool true/\H'=[]:=by
 refine Spec.body func406 rfl results406 ntmps406 rfl ?_
 refine .sr<|.ag rfl<|.z<|.mo rfl<|.q (.jX rfl rfl) ?_
 refine .mo rfl<|.gt rfl ?_
 refine .mo rfl<|.gt rfl ?_
 refine .nc rfl<|.gt rfl ?_
 refine .fa rfl<|.gt rfl ?_
 refine .lo rfl<|.gt rfl ?_
 refine .q (.qA rfl rfl) ?_
 refine .q .dh<|.az rfl ?_
 refine .ret (aW rfl ?_)
 ·exact⟨rfl,rfl⟩
theorem Ok(q:Nat)(A:List (ByteArray×Int))(T:au)(h:QI q A T)(R:ao)(f:∀p∈T,R p.1 p.2):
  Spec prog 305 [pT q] R [] λv H'=>v=.int .i64 A.length/\H'=[]:=by
 obtain⟨L,l,M,m,o,rfl,⟨a,r,n,rfl,d,s,u⟩,i,e,t,g⟩:=h
 obtain⟨c,rfl⟩:∃b,l=.map (some b):=by obtain⟨b,es,clock,h1,_⟩:=i;exact⟨b,h1⟩
 have x:PC R (pT q) [a,.map (some c)]:=PC.of (E:=437) (fr:=(0,0)) (f (q,.cells [a,.map (some c)].toArray 437 (0,0)) (by simp))
 have j:RS R 1 jD a L:=d.rs λp e=>f p (by simp[e])
 have w:=d.ay
 refine Spec.body func305 rfl results305 ntmps305 rfl ?_
 refine .sr<|.ag rfl<|.zs<|.sr<|.mo rfl ?_
 refine .aH (xM q a c _) (λv k=>?_)
 subst k
 refine .q .not<|.zn<|.bB<|.kn<|.sr<|.mo rfl<|.nc rfl<|.fa rfl<|.lo rfl<|.q (.cv j) ?_
 refine .az rfl ?_
 refine .ret (aW rfl ?_)
 ·exact⟨by rw[<-g.length_eq];simp,rfl⟩
theorem zq{L:List XE}{M:List (ByteArray×Nat)}{A:List (ByteArray×Int)}(n:(M.map (·.1)).Nodup)(g:M.Perm (L.map XE.kb))(f:(L.map XE.ka).Perm A)(key:ByteArray):
  (bO key M=none/\bO key A=none/\∀e∈L,e.key≠key)\/∃(i:Nat) (e:XE),L[i]? =some e/\e.key=key/\bO key M=some e.b/\bO key A=some e.at_:=by
 have k:((L.map XE.kb).map (·.1)).Nodup:=(g.map (·.1)).nodup_iff.1 n
 have o:(A.map (·.1)).Nodup:=(f.map (·.1)).nodup_iff.1 (by rw[aci]at k⊢;exact k)
 cases hm:bO key M with
 |none=>
  have d:=jG.1 hm
  have h:∀e∈L,e.key≠key:=λe c a=>d (by
   rw[(g.map (·.1)).mem_iff,aci]
   exact ab6.2 ⟨e,c,a⟩)
  refine .inl ⟨rfl,jG.2 λj=>?_,h⟩
  rw[<-(f.map (·.1)).mem_iff,aci]at j
  obtain⟨e,c,a⟩:=ab6.1 j
  exact h e c a
 |some b=>
  have d:=g.mem_iff.1 (jW hm)
  obtain⟨e,c,a⟩:=ab6.1 d
  simp only[XE.kb,Prod.mk.injEq]at a
  obtain⟨i,l,m⟩:=acA.1 c
  refine .inr ⟨i,e,by rw[bd l,m],a.1,by rw[a.2],jl o (f.mem_iff.1 (ab6.2 ⟨e,c,?_⟩))⟩
  simp[XE.ka,a.1]
set_option maxRecDepth 4000
theorem TI.set{q:Nat}{vm:Value}{L:List XE}{T:au}(h:TI q vm L T)(k:(T.map (·.1)).Nodup){i:Nat}{e e':XE}(hi:L[i]? =some e)(m:e'.b=e.b):TI q vm (L.set i e') (eh T e.b (e'.obj i)):=by
 obtain⟨l,c,f,rfl,t,g,v⟩:=h
 have w:=g.mem_iff.2 (nC hi)
 have C:=k
 simp only[acb,aca,ack,acE,aco]at k
 obtain⟨o,B,r,s⟩:=k
 have n:e.b∈f.map (·.1):=acU w
 have z:q≠e.b:=λd=>o (.inr (d▸n))
 have A:eh c e.b (e'.obj i)=c:=ue λp y d=>s p.1 (acU y) e.b n d
 have x:(L.map (·.b)).Nodup:=by rw[<-vq, <-(g.map (·.1)).nodup_iff];exact r
 refine⟨l,c,eh f e.b (e'.obj i),?_,t.congr ?_,?_,by simpa using v⟩
 ·have:eh ((q,Obj.cells [l,vm].toArray 437 (0,0))::(c++f)) e.b (e'.obj i)=(q,Obj.cells [l,vm].toArray 437 (0,0))::(eh c e.b (e'.obj i)++eh f e.b (e'.obj i)):=by simp[eh,z]
  rw[this,A]
 ·apply acL
  intro j
  rw[acM,acM,List.getElem?_set]
  by_cases a:i=j
  ·subst a
   have:i<L.length:=(acn.1 hi).1
   rw[ab2 rfl,ab2 this,hi]
   simp[jD,XE.ptr,m]
  ·simp[a]
 ·refine(uf g).trans ?_
  have:eh (fw L) e.b (e'.obj i)=fw (L.set i e'):=by
   apply acL
   intro j
   rw[ud,nB,nB,List.getElem?_set]
   by_cases a:i=j
   ·subst a
    have:i<L.length:=(acn.1 hi).1
    rw[ab2 rfl,ab2 this,hi]
    simp[m]
   ·simp only[a,if_false]
    cases hj:L[j]? with
    |none=>rfl
    |some u=>
     have:u.b≠e.b:=λd=>a (nD x hj hi d).symm
     simp[this]
  rw[this]
theorem TI.ps{q:Nat}{vm:Value}{L:List XE}{T:au}(h:TI q vm L T):∃vt,One vt/\PS T (pT q) [vt,vm]:=by
 obtain⟨vt,c,b,rfl,a,d,e⟩:=h
 exact⟨vt,a.ay,PS.of (E:=437) (fr:=(0,0)) (by simp)⟩
theorem TI.mem{q:Nat}{vm:Value}{L:List XE}{T:au}(h:TI q vm L T){i:Nat}{e:XE}(hi:L[i]? =some e):(e.b,e.obj i)∈T:=by
 obtain⟨j,d,c,rfl,f,a,g⟩:=h
 have:=a.mem_iff.2 (nC hi)
 simp[this]
theorem O8{L:List XE}{i:Nat}{e:XE}(hi:L[i]? =some e):∃L1 L2,L=L1++e::L2/\∀e',L.set i e'=L1++e'::L2:=by
 obtain⟨h,rfl⟩:=acn.1 hi
 refine⟨L.take i,L.drop (i+1),?_,λe'=>?_⟩
 ·rw[List.getElem_cons_drop,List.take_append_drop]
 ·rw[List.set_eq_take_append_cons_drop,ab2 h]
theorem xN(q:Nat)(A:List (ByteArray×Int))(T:au)(h:QI q A T)(key:ByteArray)(at_:Int)(hl:A.length<1000000000)(R:ao):
  Spec prog 317 [pT q,.string key,.int .i64 at_] R [T] λv H'=>∃T',H'=[T']/\v=.tuple #[]/\QI q (dQ key at_ A) T':=by
 have a0:=h.nodup
 obtain⟨L,vm,M,a,t,rfl,n,g,D,I,f⟩:=h
 obtain⟨m,rfl⟩:∃b,vm=.map (some b):=by obtain⟨b,es,clock,h1,_⟩:=g;exact⟨b,h1⟩
 obtain⟨vt,i1,ps⟩:=n.ps
 have H:=zq g.nd D f key
 have a4:L.length=A.length:=by simpa using f.length_eq
 refine Spec.du (H':=[a,t]) (by simp) ?_
 refine Spec.body func317 rfl results317 ntmps317 rfl ?_
 refine .seq<|.sr<|.mo rfl ?_
 refine .aH (xM q vt m _) (λv l=>?_)
 subst l
 refine .q .not<|.zn<|.bB<|.kn<|.seq<|.sr<|.mo rfl<|.nc rfl<|.fa rfl<|.lo rfl<|.mo rfl<|.q (.sO g.rx rfl (show _=some (Value.string key)from rfl)) ?_
 refine .mo rfl<|.q .extract<|.q .extract<|.ag rfl<|.ag rfl<|.z<|.mo rfl<|.zn ?_
 refine .cond rfl (λd=>?_) λd=>?_
 obtain⟨i,e,r,C,Z,ha⟩:∃(i:Nat) (e:XE),L[i]? =some e/\e.key=key/\bO key M=some e.b/\bO key A=some e.at_:=by
  rcases H with⟨h3,_⟩|h3
  ·rw[h3]at d;simp at d
  ·exact h3
 have E:=n.mem r
 have pe:PS a (.pointer (some ⟨e.b,0,none⟩)) (e.cells i):=PS.of E
 obtain⟨e',p⟩:∃e':XE,e'=⟨e.b,e.key,at_⟩:=⟨_,rfl⟩
 rw[Z]
 simp only[Option.map_some,Option.getD_some]
 refine .sr<|.mo rfl<|.mo rfl<|.nc rfl<|.fa rfl ?_
 refine .nodup λK=>?_
 have a1:(a.map (·.1)).Nodup:=by
  simp only[acs,aca,acE]at K
  exact K.1
 refine .tP (vs:=e.cells i) (off:=1) E ?_
 rw[show Obj.cells (bT (e.cells i) 1 [.int .i64 at_]).toArray 431 (0,0)=e'.obj i from by rw[p];rfl]
 have x:=n.set a1 r (e':=e') (by rw[p])
 have a3:PS (eh a e.b (e'.obj i)) (.pointer (some ⟨e.b,0,none⟩)) (e'.cells i):=PS.of (yL E)
 generalize eh a e.b (e'.obj i)=T1' at x a3⊢
 obtain⟨a7,a5,a6⟩:=x.ps
 clear pe ps
 have W:i<L.length:=(acn.1 r).1
 have V:jO jT (L.set i e') (L.set i e').length i:=by
  rw[List.length_set]
  exact I.hole nz (Nat.le_refl _) λk C Y=>by rw[List.getElem?_set_ne (Ne.symm Y)]
 refine .zs ?_
 refine .cM 8 mixed (by kernel_rfl) ?_
 conv=>arg 6;dsimp only[List.take]
 refine .mo rfl<|.nc rfl<|.fa rfl<|.q .makeInterface<|.mo rfl<|.nc rfl<|.fa rfl<|.lo rfl<|.nil ?_
 refine .aT (L0 (tZ q (.map (some m)) _) nz _ _ x i (by simpa using W) V) (λv c l=>?_)
 obtain⟨rfl,s,y,j,B⟩:=l
 refine .zn ?_
 refine .ret (aR (aO _ .none (bu.merge [0,0] _) ?_))
 ·obtain⟨L1,L3,Q,a2⟩:=O8 r
  have O:=a2 e'
  have X:e'.kb=e.kb:=by rw[p];rfl
  refine⟨c++t,by simp[take,rest,bf],rfl,s,_,M,c,t,rfl,y,g,?_,B,?_⟩
  ·refine D.trans ?_
   have:(L.set i e').map XE.kb=L.map XE.kb:=by rw[O,Q];simp[X]
   rw[<-this]
   exact(j.map _).symm
  ·refine((j.map _).trans ?_).trans (qt f)
   have J:((L.map XE.ka).map (·.1)).Nodup:=(f.map (·.1)).nodup_iff.2 a0
   rw[O,Q]at *
   simp only[aca,acb]at J⊢
   have S:e'.ka=(key,at_):=by rw[p];simp[XE.ka,C]
   have G:e.ka=(key,e.at_):=by simp[XE.ka,C]
   rw[S,G]
   exact M6 (by rw[<-G];simpa using J)
 have N:bO key M=none/\bO key A=none/\∀e∈L,e.key≠key:=by
  rcases H with h3|⟨i,e,_,_,h3,_⟩
  ·exact h3
  ·rw[h3]at d;simp at d
 refine .kn<|.sr<|.mo rfl<|.mo rfl ?_
 refine .q .cC ?_
 refine .cc rfl (λF=>?_)
 refine .ag rfl<|.z<|.mo rfl<|.nc rfl<|.fa rfl<|.lo rfl<|.mo rfl<|.mo rfl ?_
 refine .update (u:=F) g rfl (show _=some (Value.string key)from rfl) rfl (λw U _=>?_)
 refine .zn<|.region<|.mo rfl<|.nc rfl<|.fa rfl<|.q .makeInterface<|.mo rfl<|.q .makeInterface ?_
 obtain⟨e,o⟩:∃e:XE,e=⟨F,key,at_⟩:=⟨_,rfl⟩
 refine .sub (H':=[a++[(e.b,e.obj 0)],w]) (bu.cu (by
  rw[o]
  simp only[acs,acy,ach,acu,acX,List.nil_append]
  exact acW.symm)) ?_
 refine .aT (Oh (tZ q (.map (some m)) _) nz L _ (.iface 432 e.ptr) e (Qf q (.map (some m)) L a n e (by omega) _) I) (λv c l=>?_) (hxs:=by rw[o];rfl)
 obtain⟨rfl,s,y,j,B⟩:=l
 refine .nil<|dc _ .none (bu.merge [0,0] _) ?_
 ·refine⟨c++w,by simp[take,rest,bf],rfl,s,_,_,c,w,rfl,y,U,?_,B,?_⟩
  ·rw[lG (jG.1 N.1)]
   refine(D.append_right _).trans ?_
   have:=(j.map XE.kb).symm
   rw[aca]at this
   rw[o]at this
   exact this
  ·refine(j.map _).trans ?_
   unfold dQ
   rw[kC (jG.1 N.2.1),aca,o]
   exact f.append_right _
theorem Ou{L a:List XE}{x:XE}{M:List (ByteArray×Nat)}{A:List (ByteArray×Int)}(f:(M.map (·.1)).Nodup)(i:M.Perm (L.map XE.kb))(h:(L.map XE.ka).Perm A)(e:L.Perm (x::a)):
  (fT x.key M).Perm (a.map XE.kb)/\(a.map XE.ka).Perm (fx x.key A):=by
 have d:M.Perm ((x.key,x.b)::a.map XE.kb):=i.trans (e.map _)
 have g:A.Perm ((x.key,x.at_)::a.map XE.ka):=h.symm.trans (e.map _)
 have c:=(d.map (·.1)).nodup_iff.1 f
 simp only[acb,ack]at c
 have j:x.key∉(a.map XE.ka).map (·.1):=by rw[aci]at c⊢;exact c.1
 refine⟨?_,?_⟩
 ·rw[qy f]
  have:=sE (k:=x.key) d
  rwa [o7 c.1]at this
 ·have:=sE (k:=x.key) g
  rw[o7 j]at this
  exact this.symm
def o6(p r:ByteArray×Int):Bool:=decide (p.2<r.2)||decide (p.2=r.2)&&cw p.1 r.1
theorem Al{e f:XE}:jT e f=o6 e.ka f.ka:=by
 rw[show o6 e.ka f.ka=(decide (e.at_<f.at_)||decide (e.at_=f.at_)&&cw e.key f.key)from rfl,ab9,oX]
 simp only[acw,acj,ab5]
theorem TI.read{q:Nat}{vm:Value}{L:List XE}{T:au}(h:TI q vm L T):∃vt,One vt/\PS T (pT q) [vt,vm]/\RS (sg T) 1 jD vt L/\∀(i:Nat) (e:XE),L[i]? =some e->PS T (.pointer (some ⟨e.b,0,none⟩)) (e.cells i):=by
 have d:=λ(i:Nat) (e:XE) (a:L[i]? =some e)=>h.mem a
 obtain⟨vt,j,g,rfl,c,k,l⟩:=h
 exact⟨vt,c.ay,PS.of (E:=437) (fr:=(0,0)) (by simp),c.rs λp f=>by simp[sg,f],λi e a=>PS.of (d i e a)⟩
structure pV(A:List (ByteArray×Int))(now:Int)(B A':List (ByteArray×Int)):Prop where
 pm:A.Perm (B++A')
 ord:B.Pairwise λp r=>o6 r p=false
 le:∀p∈B,p.2<=now
 front:∀p∈B,∀r∈A',o6 r p=false
theorem pV.filter{A B a:List (ByteArray×Int)}{now:Int}(h:pV A now B a)(f:∀p∈a,now<p.2):a.Perm (A.filter λp=>decide (now<p.2)):=by
 have b:=h.pm.filter (λp=>decide (now<p.2))
 rw[acV]at b
 have d:B.filter (λp=>decide (now<p.2))=[]:=by
  rw[List.filter_eq_nil_iff]
  intro p c
  have:=h.le p c
  simp;omega
 have e:a.filter (λp=>decide (now<p.2))=a:=by
  rw[acK]
  intro p c
  simpa using f p c
 rw[d,e]at b
 exact b.symm
theorem xK(q:Nat)(A:List (ByteArray×Int))(T:au)(h:QI q A T)(now:Int)(R:ao):
  Spec prog 223 [pT q,.int .i64 now] R [T] λv H'=>∃T' To B A',H'=[T',To]/\OS 9 1 bL v (B.map (·.1)) To/\QI q A' T'/\pV A now B A'/\∀p∈A',now<p.2:=by
 refine Spec.du (H':=[T,[]]) (by simp) ?_
 refine Spec.body func223 rfl results223 ntmps223 rfl ?_
 refine .sr<|.ag rfl<|.z<|.ag rfl<|.zs<|.block ?_
 refine .loop (X:=List (ByteArray×Int)×List (ByteArray×Int)×Value×au×au) (λy=>QI q y.1 y.2.2.2.1/\OS 9 1 bL y.2.2.1 (y.2.1.map (·.1)) y.2.2.2.2/\pV A now y.2.1 y.1) (λy=>[(0,pT q),(1,.int .i64 now),(5,y.2.2.1)]) (λy=>[y.2.2.2.1,y.2.2.2.2]) (λy=>y.1.length) (A,[],sZ,T,[]) ⟨h,OS.nil,⟨.refl _,by simp,by simp,by simp⟩⟩ kE.c.c.c rH ?_
 rintro⟨g,B,v,Q,To⟩ ⟨u,o,i⟩
 simp only at u o i⊢
 have F:=u
 have b6:=u.len
 have a4:=i.pm.length_eq
 have b4:=h.len
 obtain⟨L,O,M,j,m,Y,W,V,hp,I,n⟩:=u
 obtain⟨vt,i1,ps,hs,pe⟩:=W.read
 have i2:=o.ay
 have b5:g.length=L.length:=by simpa using n.length_eq.symm
 have b2:bu [Q,To] [j,m,To]:=bu.cu (by rw[Y];simp)
 refine .seq<|.sr<|.mo rfl ?_
 refine .aH (Ok q g _ F _ (λp hp=>.inr (by simp[hp]))) (λv N=>?_)
 subst N
 refine .q .gtr<|.mo rfl ?_
 refine .split (t:=10) rfl (λd=>?_) (λd=>?_)
 obtain⟨e,l⟩:∃e,L[0]? =some e:=⟨_,bd (by simp at d;omega)⟩
 have b8:=pe 0 e l
 have px:PS j (eA vt (0*1)) (jD e):=⟨hs.pc l⟩
 refine .sub b2 ?_
 refine .gT d<|.mo rfl<|.gT d<|.nc rfl<|.gT d<|.fa rfl<|.gT d<|.lo rfl<|.gT d<|.q (.cB 0 hs l rfl rfl rfl) ?_
 refine .gT d<|.lo rfl<|.gT d ?_
 refine .nc rfl<|.gT d<|.fa rfl<|.gT d<|.lo rfl<|.gT d<|.mo rfl<|.gT d<|.q .leq<|.q (.bA d) ?_
 refine .zn ?_
 refine .cond rfl (λD=>?_) λD=>?_
 refine .kn<|.block<|.sr<|.mo rfl<|.nc rfl<|.fa rfl<|.q .makeInterface ?_
 refine .aT (Oc (tZ q O _) nz L j W e l I (λx=>.iface 432 x.ptr) (TJ q O e) (λL' T' h' _=>Qe q _ L' e T' h' _)) (λv j N=>?_)
 obtain⟨rfl,L2,⟨s,C,b0,Z⟩,a1,a7⟩:=N
 obtain⟨c1,b7,c0⟩:=Z.ps
 have b9:PS [(e.b,e.obj C)] (.pointer (some ⟨e.b,0,none⟩)) (e.cells C):=PS.of (E:=431) (fr:=(0,0)) (by simp[XE.obj])
 refine .sub (H':=[s,m,To,[(e.b,e.obj C)]]) (bu.cu (by
  simp only[acs,acy,ach]
  refine(b0.append_right _).trans ?_
  simpa[acu]using(acF (l₁:=[(e.b,e.obj C)]) (l₂:=m++To)).append_left s)) ?_
 refine .q (.uy) ?_
 refine .ag rfl<|.zs ?_
 refine .cM 8 mixed (by kernel_rfl) ?_
 conv=>arg 6;dsimp only[List.take]
 refine .mo rfl<|.nc rfl<|.fa rfl<|.lo rfl<|.mo rfl ?_
 refine .nc rfl<|.fa rfl<|.lo rfl<|.nil ?_
 obtain⟨g1,U⟩:=Ou V.nd hp n a1
 refine .delete V rfl (show _=some (Value.string e.key)from rfl) (λS a5 _=>?_)
 refine .zn<|.region<|.mo rfl<|.mo rfl<|.nc rfl<|.fa rfl<|.lo rfl ?_
 refine .lq (λb3=>?_)
 refine .append o (RS.lits (xs:=[e.key]) rfl (by simp[bL]) (by simp[bL,ay])) (by simp at a4⊢;omega) (λv3 a3 a6=>?_)
 refine .ag rfl<|.nil<|bz ?_
 ·have a0:e.at_<=now:=by simpa using D
  have a9:∀r∈g,o6 r e.ka=false:=λr b1=>by
   obtain⟨f,G,rfl⟩:=ab6.1 (n.mem_iff.2 b1)
   obtain⟨k,J,H⟩:=acA.1 G
   rw[<-Al]
   exact I.least nz l k f (by rw[bd J,H])
  have K:g.Perm (e.ka::fx e.key g):=n.symm.trans ((a1.map _).trans (U.cons _))
  have a8:e.ka∈g:=K.mem_iff.2 (by simp)
  refine br (fx e.key g,B++[e.ka],v3,s++S,a3) ⟨⟨L2,O,_,s,S,rfl,Z,a5,g1,a7,U⟩,by rw[aca];exact a6,⟨?_,?_,?_,?_⟩⟩ ?_ kE.c.c.c ?_
  ·refine i.pm.trans ?_
   simp only[acu]
   exact K.append_left B
  ·rw[List.pairwise_append]
   exact⟨i.ord,by simp,λp hp r w=>by simp at w;subst w;exact i.front p hp _ a8⟩
  ·intro p hp
   rcases aco.1 hp with hp|hp
   ·exact i.le p hp
   ·simp at hp;subst hp;exact a0
  ·intro p hp r w
   have a2:r∈g:=(acp.1 w).1
   rcases aco.1 hp with hp|hp
   ·exact i.front p hp r a2
   ·simp at hp;subst hp;exact a9 r a2
  ·have:=K.length_eq
   simp at this⊢;omega
  ·exact(bG [1,1,1]).trans (bu.cu (by simp[take,bf]))
 refine .exit<|bk<|bw<|bq<|aG<|.sr<|.mo rfl<|.az rfl ?_
 refine .ret (aO _ (.one (.tmp rfl)) (bu.cu (H':=[j++m,To]) (by simp)) ?_)
 ·refine⟨j++m,To,B,g,rfl,o,Y▸F,i,λp hp=>?_⟩
  have a0:now<e.at_:=by simpa using D
  obtain⟨f,G,rfl⟩:=ab6.1 (n.mem_iff.2 hp)
  obtain⟨k,J,H⟩:=acA.1 G
  have h3:=I.least nz l k f (by rw[bd J,H])
  rw[acz,ne_eq,oX]at h3
  have h4:e.at_<=f.at_:=by omega
  show now<f.at_
  omega
 refine .gF d<|.gF d<|.gF d<|.gF d<|.gF d<|.gF d<|.gF d<|.gF d<|.gF d<|.gF d<|.gF d<|.q (.bg d) ?_
 refine .zn<|.bB<|.exit<|bk<|bw<|bq<|aG<|.sr<|.mo rfl<|.az rfl ?_
 refine .ret (aO _ (.one (.tmp rfl)) rH ?_)
 ·have hz:g=[]:=by
   rcases g with _|⟨a,r⟩
   ·rfl
   ·simp at d
  exact⟨Q,To,B,g,rfl,o,F,i,by rw[hz];simp⟩
def short(s:ByteArray)(n:Nat):ByteArray:=if n<s.size then s.extract 0 n else s
theorem gZ(s:ByteArray)(n:Nat)(R:ao):Spec prog 99 [.string s,.int .i64 n] R [] λv H'=>v=.string (short s n)/\H'=[]:=by
 refine Spec.body func99 rfl results99 ntmps99 rfl ?_
 refine .sr<|.ag rfl<|.zs<|.sr<|.mo rfl<|.q .lE<|.mo rfl<|.q .gtr<|.zn ?_
 refine .cond rfl (λa=>?_) λa=>?_
 refine .sr<|.mo rfl<|.mo rfl ?_
 have b:n<s.size:=by simp at a;omega
 refine .q (.Ph (s:=s) 0 n rfl ⟨_,rfl⟩ (by omega) (by omega)) ?_
 refine .az rfl ?_
 refine .ret (aR (aW rfl ?_))
 ·exact⟨by unfold short;rw[ab2 (by simp at a;omega)],rfl⟩
 refine .kn<|.sr<|.mo rfl<|.az rfl ?_
 refine .ret (aW rfl ?_)
 ·exact⟨by unfold short;rw[ab3 (by simp at a;omega)],rfl⟩
theorem od(v:Value)(xs:List ByteArray)(R:ao)(h:RS R 1 bL v xs)(i:xs.length<=1000000):
  Spec prog 172 [v] R [] λv' H'=>∃T,H'=[T]/\OS 9 1 bL v' xs T:=by
 obtain⟨b,d,rfl⟩:=h.val
 have f:∀H,RS (Rx R H) 1 bL (.slice b xs.length d) xs:=λH=>h.rx
 refine Spec.du (H':=[[]]) (by simp) ?_
 refine Spec.body func172 rfl results172 ntmps172 rfl ?_
 refine .sr<|.ag rfl<|.zs<|.sr<|.mo rfl<|.q (.rY rfl rfl) ?_
 refine .zn ?_
 refine .cond rfl (λa=>?_) λa=>?_
 refine .sr<|.az rfl ?_
 refine .ret (aR (aO _ (.one (.tmp rfl)) (.one [0] _) ?_))
 ·obtain rfl:b=none:=by simpa using a
  have:=h.Ny
  subst this
  exact⟨[],rfl,OS.nil⟩
 refine .kn<|.sr ?_
 refine .uE (λg=>?_)
 refine .mo rfl ?_
 refine .append (OS.empty (enc:=bL) (sz:=1)) (f _) (by simp;omega) (λv' c e=>?_)
 refine .az rfl ?_
 refine .ret (aO _ (.one (.tmp rfl)) (.one [0] _) ?_)
 ·exact⟨c,by simp[take],by simpa using e⟩
theorem RS.mg{α:Type}{R:ao}{sz:Nat}{enc:α->List Value}:RS R sz enc (sZ) ([]:List α):=⟨by simp,by simp,none,0,rfl,by simp,by simp,.inl rfl⟩
def texts(l:List ByteArray)(n k:Nat):List ByteArray:=(l.take n).map λs=>short s k
theorem tU(v:Value)(l:List ByteArray)(n k:Nat)(C:n<=1000000)(R:ao)(h:RS R 1 bL v l):
  Spec prog 190 [v,.int .i64 n,.int .i64 k] R [] λv' H'=>∃T,H'=[T]/\OS 9 1 bL v' (texts l n k) T:=by
 have B:=h.le
 refine Spec.du (H':=[[]]) (by simp) ?_
 refine Spec.body func190 rfl results190 ntmps190 rfl ?_
 refine .sr<|.ag rfl<|.z<|.ag rfl<|.zs<|.sr<|.az rfl<|.block ?_
 refine .loop (X:=Nat×Value×au) (λy=>(y.1<=l.length/\y.1<=n)/\OS 9 1 bL y.2.1 (texts l y.1 k) y.2.2) (λy=>[(0,v),(1,iN n),(2,iN k),(7,y.2.1),(8,iN y.1)]) (λy=>[y.2.2]) (λy=>l.length-y.1) (0,sZ,[]) ⟨⟨by omega,by omega⟩,OS.nil⟩ kE.c.c.c.c.c rH ?_
 rintro⟨i,w,T⟩ ⟨⟨m,o⟩,b⟩
 simp only at m o b⊢
 have E:=b.ay
 refine .seq<|.sr<|.mo rfl<|.mo rfl<|.q (.cv h) ?_
 refine .q .lss<|.mo rfl ?_
 refine .split (t:=13) rfl (λa=>?_) (λa=>?_)
 refine .gT a<|.mo rfl<|.gT a<|.mo rfl<|.gT a<|.q .lss<|.q (.bA a) ?_
 refine .zn ?_
 refine .cond rfl (λd=>?_) λd=>?_
 have p:i<l.length/\i<n:=by simp at a d;omega
 obtain⟨z,g⟩:∃z,l[i]? =some z:=⟨_,bd p.1⟩
 have D:(texts l i k).length<=i:=by simp[texts];omega
 have r:texts l (i+1) k=texts l i k++[short z k]:=by unfold texts;rw[acG,g];simp
 refine .kn<|.seq<|.block<|.region<|.mo rfl<|.mo rfl<|.mo rfl ?_
 refine .cB i h g (λF=>?_)
 refine .lo rfl<|.mo rfl ?_
 refine .aH (gZ z k _) (λu s=>?_)
 subst s
 refine .lq (λA=>?_)
 refine .append b (RS.lits (xs:=[short z k]) rfl (by simp[bL]) (by simp[bL,ay])) (by simp;omega) (λx j f=>?_)
 rw[<-r]at f
 refine .ag rfl<|.nil<|bz<|aG<|.region<|.mo rfl ?_
 refine .q (.inc (n:=i) (by omega)) ?_
 refine .ag rfl<|.nil ?_
 ·exact br (i+1,x,j) ⟨⟨by simp only;omega,by simp only;omega⟩,f⟩ (by simp only;omega) kE.c.c.c.c.c (bG [1])
 refine .exit<|bk<|bw<|bq<|aG<|.sr<|.mo rfl<|.az rfl ?_
 refine .ret (aO _ (.one (.tmp rfl)) rH ?_)
 ·refine⟨_,rfl,?_⟩
  have:i=n\/i=l.length:=by
   first
    |(simp at a d;omega)
    |(simp at a;omega)
  rcases this with e|e
  ·rw[<-e];exact b
  ·have:texts l n k=texts l i k:=by unfold texts;rw[e,acH,acY (by omega)]
   rw[this];exact b
 refine .gF a<|.gF a<|.gF a<|.q (.bg a) ?_
 refine .zn<|.bB<|.exit<|bk<|bw<|bq<|aG<|.sr<|.mo rfl<|.az rfl ?_
 refine .ret (aO _ (.one (.tmp rfl)) rH ?_)
 ·refine⟨_,rfl,?_⟩
  have:i=n\/i=l.length:=by
   first
    |(simp at a d;omega)
    |(simp at a;omega)
  rcases this with e|e
  ·rw[<-e];exact b
  ·have:texts l n k=texts l i k:=by unfold texts;rw[e,acH,acY (by omega)]
   rw[this];exact b
def eN(T:au):ao:=λb o=>(b,o)∈T/\∃c E,o=.cells c E (0,0)
theorem OS.eN{α:Type}{E sz:Nat}{enc:α->List Value}{v:Value}{xs:List α}{T:au}(h:OS E sz enc v xs T):RS (Go.Proofs.YtocjmmbldeljnaaGreatDoor.eN T) sz enc v xs:=
 ⟨h.len,h.one,by
  rcases h.h with⟨rfl,rfl,rfl⟩|⟨b,a,c,d,rfl,rfl,e,f,i,g⟩
  ·exact⟨none,0,rfl,Nat.le_refl _,Nat.zero_le _,.inl rfl⟩
  ·exact⟨some ⟨b,a,none⟩,d,rfl,e,f,.inr ⟨b,a,c,E,(0,0),rfl,⟨by simp,c,E,rfl⟩,g⟩⟩⟩
theorem mw{A B:au}{b:Nat}{o:Obj}(h:eN A b o):eN (A++B) b o:=⟨acO B h.1,h.2⟩
theorem oe{A B:au}{b:Nat}{o:Obj}(h:eN B b o):eN (A++B) b o:=⟨List.mem_append_right A h.1,h.2⟩
section
variable{κ β γ:Type}
def dr(f:β->γ)(A:List (κ×β)):List (κ×γ):=A.map λp=>(p.1,f p.2)
theorem mc{f:β->γ}{A:List (κ×β)}:(dr f A).map (·.1)=A.map (·.1):=by rw[dr,aci];rfl
theorem sI{f:β->γ}{A B:List (κ×β)}(h:A.Perm B):(dr f A).Perm (dr f B):=h.map _
theorem sH{f:β->γ}{A:List (κ×β)}:(dr f A).length=A.length:=by simp[dr]
theorem o8{f:β->γ}{A:List (κ×β)}{p:κ×β}(h:p∈A):(p.1,f p.2)∈dr f A:=ab6.2 ⟨p,h,rfl⟩
theorem xg{f:β->γ}{A:List (κ×β)}{p:κ×γ}(h:p∈dr f A):∃q∈A,p=(q.1,f q.2):=let ⟨q,h1,h2⟩:=ab6.1 h;⟨q,h1,h2.symm⟩
variable [DecidableEq κ]
theorem MP{f:β->γ}{A:List (κ×β)}{k:κ}:dr f (fx k A)=fx k (dr f A):=by unfold dr fx;rw[List.filter_map];rfl
theorem o9{f:β->γ}{A:List (κ×β)}{k:κ}{x:β}:dr f (dQ k x A)=dQ k (f x) (dr f A):=by
 unfold dQ;rw[<-MP];simp[dr]
theorem wX{f:β->γ}{k:κ}:∀{A:List (κ×β)},bO k (dr f A)=(bO k A).map f
 |[]=>rfl
 |(k',x)::A=>by
  have a:=wX (f:=f) (k:=k) (A:=A)
  simp only[dr,acb,bO]at a⊢
  split
  ·rfl
  ·exact a
theorem nO{k:κ}{x:β}:∀{M:List (κ×β)},(M.map (·.1)).Nodup->(dx k x M).Perm (dQ k x M)
 |[],_=>by simp[dx,dQ,fx]
 |(k',x')::M,hn=>by
  rw[acb,ack]at hn
  simp only[dx]
  split
  ·rename_i h
   subst h
   unfold dQ
   rw[o7 hn.1]
   exact acF (l₁:=[(k,x)])
  ·rename_i h
   have a:=(nO (k:=k) (x:=x) hn.2).cons (k',x')
   refine a.trans (List.Perm.of_eq ?_)
   unfold dQ fx
   have:decide ((k',x').1≠k)=true:=acq λe=>h e.symm
   rw[acr,ab2 this]
   rfl
theorem pi{k:κ}{x:β}{M:List (κ×β)}(a:(M.map (·.1)).Nodup){p:κ×β}(h:p∈dx k x M):p∈M\/p=(k,x):=by
 have:=(nO a).mem_iff.1 h
 rcases aco.1 this with h|h
 ·exact .inl (acp.1 h).1
 ·exact .inr (by simpa using h)
end
theorem filter_one{k:ByteArray}:∀{l:List ByteArray},l.Nodup->k∈l->l.Perm (k::l.filter λk'=>decide (k'≠k))
 |[],_,h=>by cases h
 |x::l,hn,h=>by
  have b:=ack.1 hn
  by_cases a:x=k
  ·subst a
   have:l.filter (λk'=>decide (k'≠x))=l:=acK.2 λy f=>by
    have:y≠x:=λe=>b.1 (e▸f)
    simp[this]
   rw[acr]
   simp only[ne_eq,not_true_eq_false,decide_false,acZ,if_false]
   have c:l.filter (λk'=> !decide (k'=x))=l:=by simpa using this
   simp only[decide_not,c]
   exact .refl _
  ·have d:k∈l:=by
    rcases acm.1 h with e|h
    ·exact absurd e.symm a
    ·exact h
   have:=(filter_one b.2 d).cons x
   rw[acr,ab2 (by simp[a])]
   exact this.trans (List.Perm.swap k x _)
structure Tok where
 text:ByteArray
 kind:Int
 jg:ByteArray
 user:ByteArray
 scopes:List ByteArray
 family:Int
 dP:Int
 rev:Int
 used:Bool
abbrev TP:Type:=Value×Tok
def dL(p:TP):List Value:=[.string p.2.text,.int .i64 p.2.kind,.string p.2.jg,.string p.2.user,p.1,.int .i64 p.2.family,.int .i64 p.2.dP,.int .u64 p.2.rev,.bool p.2.used]
def jQ(R:ao)(p:TP):Prop:=RS R 1 bL p.1 p.2.scopes
theorem jQ.mono{R R':ao}{p:TP}(h:jQ R p)(a:∀b o,R b o->R' b o):jQ R' p:=RS.mono h a
theorem jQ.bU{R:ao}{p:TP}(h:jQ R p):∀u∈dL p,ay u=true:=by
 have b:=h.ay.h
 intro u a
 simp only[dL,acm,acI,or_false]at a
 rcases a with rfl|rfl|rfl|rfl|rfl|rfl|rfl|rfl|rfl<;>first|rfl|assumption
def Tok.hZ(t:Tok):Prop:=t.scopes.length<=1000000
def Tok.zero:Tok:=⟨⟨#[]⟩,0,⟨#[]⟩,⟨#[]⟩,[],0,0,0,false⟩
def tz:TP:=(sZ,Tok.zero)
theorem yE(w:Value)(t:Tok)(R:ao)(h:jQ R (w,t))(c:t.hZ):Spec prog 180 [.agg (dL (w,t)).toArray] R [] λv H'=>∃T,H'=[T]/\∃w',v=.agg (dL (w',t)).toArray/\jQ (eN T) (w',t):=by
 have k:bI (dL (w,t)):=⟨h.bU⟩
 have i:One w:=h.ay
 have d:RS R 1 bL w t.scopes:=h
 refine Spec.body func180 rfl results180 ntmps180 rfl ?_
 refine .sr ?_
 refine .cc rfl (λf=>?_)
 refine .cn (λg=>?_)
 refine .z<|.fa rfl<|.lo rfl ?_
 refine .bM (od w t.scopes _ d.rx c) (λe b a=>?_)
 have j:=a.ay
 refine .fa rfl<|.ca rfl rfl<|.z<|.q (.bj rfl)<|.bZ rfl rfl<|.zn ?_
 refine .ret (aO _ (.one (.ej rfl rfl)) (.one [0] _) ?_)
 ·exact⟨b,by simp[take],e,rfl,a.eN⟩
def VJ(g:Nat)(A:List (ByteArray×Tok))(last:Int)(Td T0:au):Prop:=∃vm M q Tm Tq,T0=(g,.cells [vm,pT q,.int .i64 last].toArray 287 (0,0))::(Tm++Tq)/\
 MS (λs:ByteArray=>.string s) (λp:TP=>.agg (dL p).toArray) vm M Tm/\(∀p∈M,p.1=p.2.2.text/\jQ (eN Td) p.2/\p.2.2.hZ)/\(dr (λp:TP=>p.2) M).Perm A/\QI q (dr (λt:Tok=>t.dP) A) Tq
def VI(g:Nat)(A:List (ByteArray×Tok))(last:Int)(T:au):Prop:=∃Td T0,T=T0++Td/\VJ g A last Td T0
theorem Qo{M:List (ByteArray×TP)}{A:List (ByteArray×Tok)}(b:(M.map (·.1)).Nodup)(a:(dr (λp:TP=>p.2) M).Perm A):(A.map (·.1)).Nodup:=((a.map (·.1)).nodup_iff).1 (by rw[mc];exact b)
theorem VI.keys{g:Nat}{A:List (ByteArray×Tok)}{last:Int}{T:au}(h:VI g A last T):∀p∈A,p.1=p.2.text:=by
 obtain⟨e,_,rfl,l,M,q,f,i,rfl,j,b,a,k⟩:=h
 intro p c
 obtain⟨x,d,rfl⟩:=xg (a.mem_iff.2 c)
 exact(b x d).1
theorem VI.nd{g:Nat}{A:List (ByteArray×Tok)}{last:Int}{T:au}(h:VI g A last T):(A.map (·.1)).Nodup:=by
 obtain⟨c,_,rfl,j,M,q,d,e,rfl,b,f,a,i⟩:=h
 exact Qo b.nd a
theorem yO(R:ao):Spec prog 202 [] R [] λv H'=>∃T,H'=[T]/\∃g,v=pT g/\VI g [] 0 T:=by
 refine Spec.body func202 rfl results202 ntmps202 rfl ?_
 refine .sr<|.ag rfl<|.z ?_
 refine .makeMap (λa=>?_)
 refine .bM (xL _) (λu b e=>?_)
 obtain⟨q,rfl,d⟩:=e
 refine .q .cC ?_
 refine .cc rfl (λc=>?_)
 refine .az rfl ?_
 refine .ret (aO _ (.one (.tmp rfl)) ((bG [0,1,0]).trans (bu.cu (H':=[(c,.cells [.map (some a),pT q,.int .i64 0].toArray 287 (0,0))::([(a,.map #[] 0)]++b)++[]]) (by simp[take,bf];exact .refl _))) ?_)
 ·exact⟨_,rfl,_,rfl,[],_,rfl,.map (some a),[],q,_,b,rfl,MS.nil,by simp,.refl _,d⟩
theorem ug(g b:Nat)(x y:Value)(R:ao) [pc:PC R (pT g) [.map (some b),x,y]]:Spec prog 179 [pT g] R [] λv H'=>v=.bool true/\H'=[]:=by
 refine Spec.body func179 rfl results179 ntmps179 rfl ?_
 refine .sr<|.ag rfl<|.z<|.mo rfl<|.q (.jX rfl rfl) ?_
 refine .mo rfl<|.gt rfl ?_
 refine .mo rfl<|.gt rfl ?_
 refine .nc rfl<|.gt rfl ?_
 refine .fa rfl<|.gt rfl ?_
 refine .lo rfl<|.gt rfl ?_
 refine .q (.qA rfl rfl) ?_
 refine .q .dh<|.az rfl ?_
 refine .ret (aW rfl ?_)
 ·exact⟨rfl,rfl⟩
theorem Qp(g:Nat)(A:List (ByteArray×Tok))(last:Int)(T:au)(h:VI g A last T)(R:ao)(d:∀p∈T,R p.1 p.2):
  Spec prog 82 [pT g] R [] λv H'=>v=.int .i64 last/\H'=[]:=by
 obtain⟨i,_,rfl,f,M,q,j,k,rfl,c,m,l,n⟩:=h
 obtain⟨a,rfl⟩:∃b,f=.map (some b):=by obtain⟨b,es,clock,h1,_⟩:=c;exact⟨b,h1⟩
 have o:PC R (pT g) [.map (some a),pT q,.int .i64 last]:=PC.of (E:=287) (fr:=(0,0)) (d (g,.cells [.map (some a),pT q,.int .i64 last].toArray 287 (0,0)) (by simp))
 refine Spec.body func82 rfl results82 ntmps82 rfl ?_
 refine .sr<|.ag rfl<|.zs<|.sr<|.mo rfl ?_
 refine .aH (ug g a _ _ _) (λv e=>?_)
 subst e
 refine .q .not<|.zn<|.bB<|.kn<|.sr<|.mo rfl<|.nc rfl<|.fa rfl<|.lo rfl<|.az rfl ?_
 refine .ret (aW rfl ?_)
 ·exact⟨rfl,rfl⟩
def ja(t:Tok)(last:Int):Bool:=(t.kind==1||t.kind==2)&&decide (1<=t.family)&&decide (t.family<=last)
theorem yP(g:Nat)(x y:Value)(last:Int)(w:Value)(t:Tok)(R:ao)(ho:One w) [pc:PC R (pT g) [x,y,.int .i64 last]]:
  Spec prog 301 [pT g,.agg (dL (w,t)).toArray] R [] λv H'=>v=.bool (ja t last)/\H'=[]:=by
 have i:bI (dL (w,t)):=⟨by
  have f:=ho.h
  intro u d
  simp only[dL,acm,acI,or_false]at d
  rcases d with rfl|rfl|rfl|rfl|rfl|rfl|rfl|rfl|rfl<;>first|rfl|assumption⟩
 refine Spec.body func301 rfl results301 ntmps301 rfl ?_
 refine .sr ?_
 refine .cc rfl (λe=>?_)
 refine .ag rfl<|.zs ?_
 refine .kG mixed (by kernel_rfl) ?_
 refine .fa rfl<|.lo rfl<|.q .cG<|.mo rfl ?_
 refine .split (t:=8) rfl (λb=>?_) (λb=>?_)
 refine .gF b<|.gF b<|.gF b<|.q (.bA b) ?_
 refine .mo rfl<|.gt rfl ?_
 refine .fa rfl<|.gt rfl ?_
 refine .lo rfl<|.gt rfl ?_
 refine .q .geq<|.q .dh<|.mo rfl ?_
 refine .split (t:=18) rfl (λa=>?_) (λa=>?_)
 refine .gT a<|.fa rfl<|.gT a<|.lo rfl<|.gT a<|.mo rfl<|.gT a ?_
 refine .nc rfl<|.gT a<|.fa rfl<|.gT a<|.lo rfl<|.gT a<|.q .leq<|.q (.bA a) ?_
 refine .az rfl ?_
 refine .ret (aW rfl ?_)
 ·refine⟨acv _ ?_,rfl⟩
  unfold ja
  simp_all<;>omega
 refine .gF a<|.gF a<|.gF a<|.gF a<|.gF a<|.gF a<|.gF a<|.q (.bg a) ?_
 refine .az rfl ?_
 refine .ret (aW rfl ?_)
 ·refine⟨acv _ ?_,rfl⟩
  unfold ja
  simp_all<;>omega
 refine .gT b<|.fa rfl<|.gT b<|.lo rfl<|.gT b<|.q .cG<|.q (.bg b) ?_
 refine .mo rfl ?_
 refine .split (t:=13) rfl (λc=>?_) (λc=>?_)
 refine .gT c<|.fa rfl<|.gT c<|.lo rfl<|.gT c<|.q .geq<|.q (.bA c) ?_
 refine .mo rfl ?_
 refine .split (t:=18) rfl (λa=>?_) (λa=>?_)
 refine .gT a<|.fa rfl<|.gT a<|.lo rfl<|.gT a<|.mo rfl<|.gT a ?_
 refine .nc rfl<|.gT a<|.fa rfl<|.gT a<|.lo rfl<|.gT a<|.q .leq<|.q (.bA a) ?_
 refine .az rfl ?_
 refine .ret (aW rfl ?_)
 ·refine⟨acv _ ?_,rfl⟩
  unfold ja
  simp_all<;>omega
 refine .gF a<|.gF a<|.gF a<|.gF a<|.gF a<|.gF a<|.gF a<|.q (.bg a) ?_
 refine .az rfl ?_
 refine .ret (aW rfl ?_)
 ·refine⟨acv _ ?_,rfl⟩
  unfold ja
  simp_all<;>omega
 refine .gF c<|.gF c<|.gF c<|.q (.bg c) ?_
 refine .mo rfl<|.gX<|.gX<|.gX<|.gX<|.gX<|.gX<|.gX<|.q .cd<|.az rfl ?_
 refine .ret (aW rfl ?_)
 ·refine⟨acv _ ?_,rfl⟩
  unfold ja
  simp_all<;>omega
theorem rl(g:Nat)(A:List (ByteArray×Tok))(last:Int)(T:au)(h:VI g A last T)(w:Value)(t:Tok)(R:ao)(r:jQ R (w,t))(n:t.hZ)(J:A.length<1000000000):
  Spec prog 302 [pT g,.agg (dL (w,t)).toArray] R [T] λv H'=>∃T',H'=[T']/\v=.tuple #[]/\VI g (dQ t.text t A) last T':=by
 obtain⟨d,_,rfl,H,M,q,x,j,rfl,c,z,y,C⟩:=h
 obtain⟨l,rfl⟩:∃b,H=.map (some b):=by obtain⟨b,es,clock,h1,_⟩:=c;exact⟨b,h1⟩
 have L:bI (dL (w,t)):=⟨r.bU⟩
 refine Spec.du (H':=[bl g [.map (some l),pT q,.int .i64 last] 287,x,j,d]) (by simp) ?_
 refine Spec.body func302 rfl results302 ntmps302 rfl ?_
 refine .sr ?_
 refine .cc rfl (λI=>?_)
 refine .zs<|.cq [8] mixed ?_
 refine .tO 0 rfl .move<|.tO 1 rfl (.nilCheck rfl)<|.tO 2 rfl (.fieldAddr rfl)<|.tO 3 rfl (.bo rfl)<|.tO 4 rfl (.fieldAddr rfl)<|.tO 5 rfl (.bo rfl)<|.tO 6 rfl (.bj rfl) ?_
 refine .sT 7 rfl ?_
 refine .bM (yE w t _ (r.mono λb o a=>.inl a) n) (λv f e=>?_)
 obtain⟨s,rfl,m⟩:=e
 have K:bI (dL (s,t)):=⟨m.bU⟩
 refine .nil (Next.sub ?_)
 refine .sT 8 rfl ?_
 refine .update (u:=((s,t):TP)) c rfl (show _=some (Value.string t.text)from rfl) rfl (λi B _=>?_)
 refine .nil (Next.mod rfl ?_)
 refine RA.nil (by kernel_rfl) ?_
 refine aG ?_
 refine .cM 8 mixed (by kernel_rfl) ?_
 conv=>arg 6;dsimp only[List.take]
 refine .mo rfl<|.nc rfl<|.fa rfl<|.lo rfl<|.fa rfl<|.lo rfl<|.fa rfl<|.lo rfl<|.nil ?_
 refine .aT (xN q _ j C t.text t.dP (by rw[sH];omega) _) (λv k e=>?_)
 obtain⟨rfl,D⟩:=e
 refine .nil<|dc _ .none (.one [2,2,2,2,0] _) ?_
 ·refine⟨((g,.cells [.map (some l),pT q,.int .i64 last].toArray 287 (0,0))::(i++k))++(d++f),by simp[take,bf],rfl,d++f,_,rfl,_,_,q,i,k,rfl,B,λp hp=>?_,?_,by rw[o9];exact D⟩
  ·rcases pi c.nd hp with hp|rfl
   ·obtain⟨E,F,G⟩:=z p hp
    exact⟨E,F.mono λb o a=>mw a,G⟩
   ·exact⟨rfl,m.mono λb o a=>oe a,n⟩
  ·exact(sI (nO c.nd)).trans (by rw[o9];exact qt y)
structure cZ where
 text:ByteArray
 jg:ByteArray
 user:ByteArray
 uri:ByteArray
 scopes:List ByteArray
 uP:ByteArray
 dP:Int
 family:Int
 used:Bool
abbrev GP:Type:=Value×cZ
def dZ(p:GP):List Value:=[.string p.2.text,.string p.2.jg,.string p.2.user,.string p.2.uri,p.1,.string p.2.uP,.int .i64 p.2.dP,.int .i64 p.2.family,.bool p.2.used]
def jM(R:ao)(p:GP):Prop:=RS R 1 bL p.1 p.2.scopes
theorem jM.mono{R R':ao}{p:GP}(h:jM R p)(a:∀b o,R b o->R' b o):jM R' p:=RS.mono h a
theorem jM.bU{R:ao}{p:GP}(h:jM R p):∀u∈dZ p,ay u=true:=by
 have b:=h.ay.h
 intro u a
 simp only[dZ,acm,acI,or_false]at a
 rcases a with rfl|rfl|rfl|rfl|rfl|rfl|rfl|rfl|rfl<;>first|rfl|assumption
def cZ.hZ(t:cZ):Prop:=t.scopes.length<=1000000
def cZ.zero:cZ:=⟨⟨#[]⟩,⟨#[]⟩,⟨#[]⟩,⟨#[]⟩,[],⟨#[]⟩,0,0,false⟩
theorem wB(w:Value)(t:cZ)(R:ao)(h:jM R (w,t))(c:t.hZ):Spec prog 175 [.agg (dZ (w,t)).toArray] R [] λv H'=>∃T,H'=[T]/\∃w',v=.agg (dZ (w',t)).toArray/\jM (eN T) (w',t):=by
 have k:bI (dZ (w,t)):=⟨h.bU⟩
 have i:One w:=h.ay
 have d:RS R 1 bL w t.scopes:=h
 refine Spec.body func175 rfl results175 ntmps175 rfl ?_
 refine .sr ?_
 refine .cc rfl (λf=>?_)
 refine .cn (λg=>?_)
 refine .z<|.fa rfl<|.lo rfl ?_
 refine .bM (od w t.scopes _ d.rx c) (λe b a=>?_)
 have j:=a.ay
 refine .fa rfl<|.ca rfl rfl<|.z<|.q (.bj rfl)<|.bZ rfl rfl<|.zn ?_
 refine .ret (aO _ (.one (.ej rfl rfl)) (.one [0] _) ?_)
 ·exact⟨b,by simp[take],e,rfl,a.eN⟩
abbrev dl:Type:=ByteArray×ByteArray
def jU(k:dl):List Value:=[.string k.1,.string k.2]
theorem Qw(k:dl):dw [.s,.s] (jU k):=⟨ab4,ab4,ab4⟩
theorem Qv(k r:dl):ek (jU k) (jU r)=decide (k=r):=by
 obtain⟨a,b⟩:=k
 obtain⟨c,d⟩:=r
 simp only[jU,ek,ls,Prod.mk.injEq]
 rw[ab9];simp
instance Rc(k:dl):bI (jU k):=⟨by simp[jU,ay]⟩
instance Rb:eJ prog 277 (λk:dl=>.agg (jU k).toArray):=eJ.agg vK underlying277 rfl Qw Qv
abbrev WS:Type:=Value×List ByteArray
def GJ(g:Nat)(C:List (dl×List ByteArray))(A:List (ByteArray×cZ))(Td T0:au):Prop:=∃vc MC vm M q Tc Tm Tq,T0=(g,.cells [vc,vm,pT q].toArray 275 (0,0))::(Tc++(Tm++Tq))/\
 (MS (λk:dl=>.agg (jU k).toArray) (λp:WS=>p.1) vc MC Tc/\(∀p∈MC,RS (eN Td) 1 bL p.2.1 p.2.2)/\(dr (λp:WS=>p.2) MC).Perm C)/\
 (MS (λs:ByteArray=>.string s) (λp:GP=>.agg (dZ p).toArray) vm M Tm/\(∀p∈M,p.1=p.2.2.text/\jM (eN Td) p.2/\p.2.2.hZ)/\(dr (λp:GP=>p.2) M).Perm A/\QI q (dr (λt:cZ=>t.dP) A) Tq)
def GI(g:Nat)(C:List (dl×List ByteArray))(A:List (ByteArray×cZ))(T:au):Prop:=∃Td T0,T=T0++Td/\GJ g C A Td T0
theorem Mp{M:List (ByteArray×GP)}{A:List (ByteArray×cZ)}(b:(M.map (·.1)).Nodup)(a:(dr (λp:GP=>p.2) M).Perm A):(A.map (·.1)).Nodup:=((a.map (·.1)).nodup_iff).1 (by rw[mc];exact b)
theorem GI.keys{g:Nat}{C:List (dl×List ByteArray)}{A:List (ByteArray×cZ)}{T:au}(h:GI g C A T):∀p∈A,p.1=p.2.text:=by
 obtain⟨i,_,rfl,s,e,t,M,q,f,j,k,rfl,⟨o,m,l⟩,n,b,a,r⟩:=h
 intro p c
 obtain⟨x,d,rfl⟩:=xg (a.mem_iff.2 c)
 exact(b x d).1
theorem GI.nd{g:Nat}{C:List (dl×List ByteArray)}{A:List (ByteArray×cZ)}{T:au}(h:GI g C A T):(A.map (·.1)).Nodup:=by
 obtain⟨e,_,rfl,o,c,p,M,q,d,f,i,rfl,⟨m,l,j⟩,b,k,a,n⟩:=h
 exact Mp b.nd a
theorem GI.Nw{g:Nat}{C:List (dl×List ByteArray)}{A:List (ByteArray×cZ)}{T:au}(h:GI g C A T):(C.map (·.1)).Nodup:=by
 obtain⟨e,_,rfl,o,c,p,M,q,d,f,i,rfl,⟨b,l,a⟩,m,k,j,n⟩:=h
 exact((a.map (·.1)).nodup_iff).1 (by rw[mc];exact b.nd)
theorem wF(R:ao):Spec prog 201 [] R [] λv H'=>∃T,H'=[T]/\∃g,v=pT g/\GI g [] [] T:=by
 refine Spec.body func201 rfl results201 ntmps201 rfl ?_
 refine .sr<|.ag rfl<|.z ?_
 refine .makeMap (λa=>?_)
 refine .makeMap (λb=>?_)
 refine .bM (xL _) (λu c f=>?_)
 obtain⟨q,rfl,e⟩:=f
 refine .q .cC ?_
 refine .cc rfl (λd=>?_)
 refine .az rfl ?_
 refine .ret (aO _ (.one (.tmp rfl)) ((bG [0,2,1,0]).trans (bu.cu (H':=[(d,.cells [.map (some a),.map (some b),pT q].toArray 275 (0,0))::([(a,.map #[] 0)]++([(b,.map #[] 0)]++c))++[]]) (by simp[take,bf];exact .refl _))) ?_)
 ·exact⟨_,rfl,_,rfl,[],_,rfl,.map (some a),[],.map (some b),[],q,_,_,c,rfl,⟨MS.nil,by simp,.refl _⟩,MS.nil,by simp,.refl _,e⟩
theorem qk(g b:Nat)(x y:Value)(R:ao) [pc:PC R (pT g) [x,.map (some b),y]]:Spec prog 171 [pT g] R [] λv H'=>v=.bool true/\H'=[]:=by
 refine Spec.body func171 rfl results171 ntmps171 rfl ?_
 refine .sr<|.ag rfl<|.z<|.mo rfl<|.q (.jX rfl rfl) ?_
 refine .mo rfl<|.gt rfl ?_
 refine .mo rfl<|.gt rfl ?_
 refine .nc rfl<|.gt rfl ?_
 refine .fa rfl<|.gt rfl ?_
 refine .lo rfl<|.gt rfl ?_
 refine .q (.qA rfl rfl) ?_
 refine .q .dh<|.az rfl ?_
 refine .ret (aW rfl ?_)
 ·exact⟨rfl,rfl⟩
theorem wG(g:Nat)(C:List (dl×List ByteArray))(A:List (ByteArray×cZ))(T:au)(h:GI g C A T)(w:Value)(t:cZ)(R:ao)(z:jM R (w,t))(y:t.hZ)(X:A.length<1000000000):
  Spec prog 242 [pT g,.agg (dZ (w,t)).toArray] R [T] λv H'=>∃T',H'=[T']/\v=.tuple #[]/\GI g C (dQ t.text t A) T':=by
 obtain⟨e,_,rfl,j,D,V,M,q,d,E,m,rfl,⟨s,K,I⟩,c,J,H,N⟩:=h
 obtain⟨r,rfl⟩:∃b,V=.map (some b):=by obtain⟨b,G,F,f,_⟩:=c;exact⟨b,f⟩
 have io:bI (dZ (w,t)):=⟨z.bU⟩
 have Z:One j:=⟨by obtain⟨b,G,F,f,_⟩:=s;subst f;rfl⟩
 refine Spec.du (H':=[bl g [j,.map (some r),pT q] 275,d,E,m,e]) (by simp) ?_
 refine Spec.body func242 rfl results242 ntmps242 rfl ?_
 refine .sr ?_
 refine .cc rfl (λW=>?_)
 refine .zs<|.cq [8] mixed ?_
 refine .tO 0 rfl .move<|.tO 1 rfl (.nilCheck rfl)<|.tO 2 rfl (.fieldAddr rfl)<|.tO 3 rfl (.bo rfl)<|.tO 4 rfl (.fieldAddr rfl)<|.tO 5 rfl (.bo rfl)<|.tO 6 rfl (.bj rfl) ?_
 refine .sT 7 rfl ?_
 refine .bM (wB w t _ (z.mono λb o a=>.inl a) y) (λv k i=>?_)
 obtain⟨B,rfl,x⟩:=i
 have Y:bI (dZ (B,t)):=⟨x.bU⟩
 refine .nil (Next.sub ?_)
 refine .sT 8 rfl ?_
 refine .update (u:=((B,t):GP)) c rfl (show _=some (Value.string t.text)from rfl) rfl (λl L _=>?_)
 refine .nil (Next.mod rfl ?_)
 refine RA.nil (by kernel_rfl) ?_
 refine aG ?_
 refine .cM 8 mixed (by kernel_rfl) ?_
 conv=>arg 6;dsimp only[List.take]
 refine .mo rfl<|.nc rfl<|.fa rfl<|.lo rfl<|.fa rfl<|.lo rfl<|.fa rfl<|.lo rfl<|.nil ?_
 refine .aT (xN q _ m N t.text t.dP (by rw[sH];omega) _) (λv n i=>?_)
 obtain⟨rfl,O⟩:=i
 refine .nil<|dc _ .none (.one [2,2,2,2,2,0] _) ?_
 ·refine⟨((g,.cells [j,.map (some r),pT q].toArray 275 (0,0))::(d++(l++n)))++(e++k),by simp[take,bf],rfl,e++k,_,rfl,_,D,_,_,q,d,l,n,rfl,⟨s,λp hp=>(K p hp).mono λb o a=>mw a,I⟩,L,λp hp=>?_,?_,by rw[o9];exact O⟩
  ·rcases pi c.nd hp with hp|rfl
   ·obtain⟨Q,S,U⟩:=J p hp
    exact⟨Q,S.mono λb o a=>mw a,U⟩
   ·exact⟨rfl,x.mono λb o a=>oe a,y⟩
  ·exact(sI (nO c.nd)).trans (by rw[o9];exact qt H)
def cZ.fresh(t:cZ):cZ:=⟨t.text,t.jg,t.user,t.uri,t.scopes,t.uP,t.dP,t.family,false⟩
theorem Nq{α:Type}{l:List α}{i:Nat}{x:α}(h:l[i]? =some x)(y:α):y∈l.take (i+1)↔y∈l.take i\/y=x:=by
 rw[acG,h];simp
theorem xt{α:Type}{l:List α}{i:Nat}{x:α}(h:l[i]? =some x):(l.take (i+1)).Nodup↔(l.take i).Nodup/\x∉l.take i:=by
 rw[acG,h,acE]
 simp only[Option.toList_some,ack,acI,not_false_eq_true,List.nodup_nil,and_self,true_and,ac0]
 constructor
 ·rintro⟨c,d⟩
  exact⟨c,λj=>d x j x rfl rfl⟩
 ·rintro⟨c,d⟩
  exact⟨c,λa f b g=>by rw[g];exact λe=>d (e▸f)⟩
theorem Pe(v:Value)(l:List ByteArray)(s:ByteArray)(R:ao)(h:RS R 1 bL v l):
  Spec prog 313 [v,.string s] R [] λu H'=>(∃k:Int,u=.int .i64 k/\(0<=k↔s∈l))/\H'=[]:=by
 have m:=h.le
 refine Spec.body func313 rfl results313 ntmps313 rfl ?_
 refine .sr<|.ag rfl<|.zs<|.sr<|.mo rfl<|.q (.cv h) ?_
 refine .mo rfl<|.zn<|.block ?_
 refine .loop (X:=Nat) (λi=>i<=l.length/\s∉l.take i) (λi=>[(0,v),(1,.string s),(7,.int .i64 l.length),(8,iN i)]) (λ_=>[]) (λi=>l.length-i) 0 ⟨by omega,by simp⟩ kE.c.c.c.c rH ?_
 rintro i ⟨j,e⟩
 refine .sr<|.q .lss<|.zs ?_
 refine .cond rfl (λb=>?_) λb=>?_
 have g:i<l.length:=by simp at b;omega
 obtain⟨z,f⟩:=dM g
 refine .kn<|.seq<|.block<|.sr<|.mo rfl<|.ag rfl<|.z<|.mo rfl<|.mo rfl<|.mo rfl ?_
 refine .cB i h f (λo=>?_)
 refine .lo rfl<|.q .lz<|.zn ?_
 refine .cond rfl (λa=>?_) λa=>?_
 refine .sr<|.mo rfl<|.az rfl ?_
 refine .ret (bi (aR (cK (bi (aR (aW rfl ?_))))))
 ·have d:s=z:=by simpa using a
  exact⟨⟨_,rfl,by rw[d];simp[bD f]⟩,rfl⟩
 refine .skip<|bz<|aG<|.region ?_
 refine .q (.inc (n:=i) (by omega)) ?_
 refine .mo rfl<|.nil ?_
 ·exact br (i+1) ⟨by omega,by rw[Nq f];simp at a;simp[e,a]⟩ (by omega) kE.c.c.c.c rH
 refine .exit<|bk<|bw<|bq<|aG<|.sr<|.az rfl ?_
 refine .ret (aW rfl ?_)
 ·have d:i=l.length:=by simp at b;omega
  rw[d,acH]at e
  exact⟨⟨_,rfl,by simp[e]⟩,rfl⟩
theorem O4(v:Value)(l:List ByteArray)(s:ByteArray)(R:ao)(h:RS R 1 bL v l):
  Spec prog 235 [v,.string s] R [] λu H'=>u=.bool (decide (s∈l))/\H'=[]:=by
 refine Spec.body func235 rfl results235 ntmps235 rfl ?_
 refine .sr<|.ag rfl<|.z<|.mo rfl<|.mo rfl ?_
 refine .aH (Pe v l s _ h.rx) (λu b=>?_)
 obtain⟨k,rfl,a⟩:=b
 refine .q .geq<|.az rfl ?_
 refine .ret (aW rfl ?_)
 ·exact⟨by simp only[a],rfl⟩
theorem ve(v:Value)(l:List ByteArray)(R:ao)(h:RS R 1 bL v l):
  Spec prog 232 [v] R [] λu H'=>u=.bool (decide l.Nodup)/\H'=[]:=by
 have s:=h.le
 refine Spec.body func232 rfl results232 ntmps232 rfl ?_
 refine .sr<|.ag rfl<|.zs<|.sr<|.mo rfl<|.q (.cv h) ?_
 refine .mo rfl<|.zn<|.block ?_
 refine .loop (X:=Nat) (λi=>i<=l.length/\(l.take i).Nodup) (λi=>[(0,v),(5,v),(6,.int .i64 l.length),(7,iN i)]) (λ_=>[]) (λi=>l.length-i) 0 ⟨by omega,by simp⟩ kE.c.c.c.c rH ?_
 rintro i ⟨r,d⟩
 refine .sr<|.q .lss<|.zs ?_
 refine .cond rfl (λa=>?_) λa=>?_
 have k:i<l.length:=by simp at a;omega
 obtain⟨z,e⟩:=dM k
 refine .kn<|.seq<|.block<|.sr<|.mo rfl ?_
 refine .cB i h e (λt=>?_)
 refine .lo rfl<|.ag rfl<|.ag rfl<|.z<|.mo rfl<|.mo rfl ?_
 refine .ld 0 i h rfl ⟨_,rfl⟩ (by omega) (by omega) (λp f=>?_)
 rw[List.drop_zero,Nat.sub_zero]at f
 refine .mo rfl ?_
 refine .aH (O4 p _ z _ f.rx) (λu m=>?_)
 subst m
 refine .zn ?_
 refine .cond rfl (λb=>?_) λb=>?_
 refine .sr<|.az rfl ?_
 refine .ret (bi (aR (cK (bi (aR (aW rfl ?_))))))
 ·have o:z∈l.take i:=by simpa using b
  exact⟨by rw[acB (λg:l.Nodup=>((xt e).1 (g.sublist (acP _ _))).2 o)],rfl⟩
 refine .skip<|bz<|aG<|.region ?_
 refine .q (.inc (n:=i) (by omega)) ?_
 refine .mo rfl<|.nil ?_
 ·exact br (i+1) ⟨by omega,(xt e).2 ⟨d,by simpa using b⟩⟩ (by omega) kE.c.c.c.c rH
 refine .exit<|bk<|bw<|bq<|aG<|.sr<|.az rfl ?_
 refine .ret (aW rfl ?_)
 ·have j:i=l.length:=by simp at a;omega
  rw[j,acH]at d
  exact⟨by rw[acq d],rfl⟩
theorem Pd(f:FuncId)(caps:List Value) [e:ap prog f](p:ByteArray->Bool)(v:Value)(l:List ByteArray)(R:ao)(h:RS R 1 bL v l)(w:∀s∈l,∀R',(∀b o,R b o->R' b o)->Spec prog f (.string s::caps) R' [] λu H'=>u=.bool (p s)/\H'=[]):
  Spec prog 322 [v,.func (.func f) #[] caps.toArray] R [] λu H'=>(∃k:Int,u=.int .i64 k/\(decide (0<=k)=l.any p))/\H'=[]:=by
 have C:=h.le
 refine Spec.body func322 rfl results322 ntmps322 rfl ?_
 refine .sr<|.ag rfl<|.zs<|.sr<|.mo rfl<|.q (.cv h) ?_
 refine .mo rfl<|.zn<|.block ?_
 refine .loop (X:=Nat) (λi=>i<=l.length/\(l.take i).any p=false) (λi=>[(0,v),(1,.func (.func f) #[] caps.toArray),(7,.int .i64 l.length),(8,iN i)]) (λ_=>[]) (λi=>l.length-i) 0 ⟨by omega,by simp⟩ kE.c.c.c.c rH ?_
 rintro i ⟨B,g⟩
 refine .sr<|.q .lss<|.zs ?_
 refine .cond rfl (λa=>?_) λa=>?_
 have x:i<l.length:=by simp at a;omega
 obtain⟨z,j⟩:=dM x
 have m:=bD j
 have y:(l.take (i+1)).any p=((l.take i).any p||p z):=by rw[acG,j,List.any_append];simp
 refine .kn<|.seq<|.block<|.sr<|.mo rfl<|.ag rfl<|.z<|.mo rfl<|.mo rfl<|.mo rfl ?_
 refine .cB i h j (λD=>?_)
 refine .lo rfl ?_
 refine .gP (first:=[]) (captured:=caps) (vs:=[.string z]) (w z m _ λb o r=>.inl r) (λu A=>?_)
 subst A
 refine .zn ?_
 refine .cond rfl (λd=>?_) λd=>?_
 refine .sr<|.mo rfl<|.az rfl ?_
 refine .ret (bi (aR (cK (bi (aR (aW rfl ?_))))))
 ·refine⟨⟨_,rfl,?_⟩,rfl⟩
  rw[ac1.2 ⟨z,m,d⟩];simp
 refine .skip<|bz<|aG<|.region ?_
 refine .q (.inc (n:=i) (by omega)) ?_
 refine .mo rfl<|.nil ?_
 ·exact br (i+1) ⟨by omega,by rw[y,g,d];rfl⟩ (by omega) kE.c.c.c.c rH
 refine .exit<|bk<|bw<|bq<|aG<|.sr<|.az rfl ?_
 refine .ret (aW rfl ?_)
 ·have t:i=l.length:=by simp at a;omega
  rw[t,acH]at g
  exact⟨⟨_,rfl,by rw[g];rfl⟩,rfl⟩
theorem O3(f:FuncId)(caps:List Value) [e:ap prog f](p:ByteArray->Bool)(v:Value)(l:List ByteArray)(R:ao)(h:RS R 1 bL v l)(d:∀s∈l,∀R',(∀b o,R b o->R' b o)->Spec prog f (.string s::caps) R' [] λu H'=>u=.bool (p s)/\H'=[]):
  Spec prog 250 [v,.func (.func f) #[] caps.toArray] R [] λu H'=>u=.bool (l.any p)/\H'=[]:=by
 refine Spec.body func250 rfl results250 ntmps250 rfl ?_
 refine .sr<|.ag rfl<|.z<|.mo rfl<|.mo rfl ?_
 refine .aH (Pd f caps p v l _ h.rx λs i R' a=>d s i R' λb o c=>a b o (.inl c)) (λu j=>?_)
 obtain⟨k,rfl,g⟩:=j
 refine .q .geq<|.az rfl ?_
 refine .ret (aW rfl ?_)
 ·exact⟨by simp only[g],rfl⟩
theorem zB(f:FuncId) [e:ap prog f](q:ByteArray->Bool)(s:ByteArray)(b:Nat)(R:ao)(d:PC R (pT b) [.func (.func f) #[] #[]])(a:∀R',Spec prog f [.string s] R' [] λu H'=>u=.bool (q s)/\H'=[]):
  Spec prog 312 [.string s,pT b] R [] λu H'=>u=.bool (!q s)/\H'=[]:=by
 refine Spec.body func312 rfl results312 ntmps312 rfl ?_
 refine .sr<|.ag rfl<|.z<|.lo rfl<|.mo rfl ?_
 refine .gP (first:=[]) (captured:=[]) (vs:=[.string s]) (a _) (λu c=>?_)
 subst c
 refine .q .not<|.az rfl ?_
 refine .ret (aW rfl ?_)
 ·exact⟨rfl,rfl⟩
theorem uK(f:FuncId) [e:ap prog f](q:ByteArray->Bool)(v:Value)(l:List ByteArray)(R:ao)(h:RS R 1 bL v l)(c:∀s∈l,∀R',Spec prog f [.string s] R' [] λu H'=>u=.bool (q s)/\H'=[]):
  Spec prog 233 [v,.func (.func f) #[] #[]] R [] λu H'=>u=.bool (l.all q)/\H'=[]:=by
 refine Spec.body func233 rfl results233 ntmps233 rfl ?_
 refine .sr ?_
 refine .zy rfl (λa=>?_)
 refine .ag rfl<|.z<|.mo rfl<|.q .makeFunc ?_
 refine .aH (O3 312 [pT a] (λs=> !q s) v l _ h.rx λs d R' b=>zB f q s a R' (PC.of (E:=224) (fr:=(0,0)) (b _ _ (.inr (by simp)))) (c s d)) (λu g=>?_)
 subst g
 refine .q .not<|.az rfl ?_
 refine .ret (aW rfl ?_)
 ·exact⟨by congr 1;rw[List.all_eq_not_any_not],rfl⟩
def gu(s:ByteArray)(p:Int->Bool):Bool:=s.data.toList.all λc=>p (c.toNat:Int)
theorem uz{s:ByteArray}{p:Int->Bool}(h:∀j (hj:j<s.size),p (s[j]'hj).toNat=true):gu s p=true:=by
 unfold gu
 rw[List.all_eq_true]
 intro c a
 obtain⟨j,hj,rfl⟩:=acA.1 a
 exact h j (by simpa using hj)
theorem mF{s:ByteArray}{p:Int->Bool}{j:Nat}(a:j<s.size)(h:p (s[j]'a).toNat=false):gu s p=false:=by
 unfold gu
 rw[List.all_eq_false]
 refine⟨s[j],?_,by rw[h];simp⟩
 have:s[j]=s.data.toList[j]'(by simpa using a):=by simp[ByteArray.getElem_eq_getElem_data]
 rw[this]
 exact List.getElem_mem _
def oJ(z:Int):Bool:=decide (97<=z)&&decide (z<=122)
def oI(z:Int):Bool:=(decide (48<=z)&&decide (z<=57))||z==95
def lk(z:Int):Bool:=oJ z||oI z||(decide (65<=z)&&decide (z<=90))||z==46||z==45
def pS(z:Int):Bool:=oJ z||oI z
def fe(s:ByteArray):Bool:=gu s lk&&decide (1<=s.size)&&decide (s.size<=32)
def eQ(s:ByteArray):Bool:=decide (s=⟨#[117,115,101,114]⟩)||decide (s=⟨#[116,104,105,115]⟩)||decide (s=⟨#[110,97,109,101,115,112,97,99,101]⟩)||decide (s=⟨#[114,101,108,97,116,105,111,110]⟩)||decide (s=⟨#[115,99,111,112,101]⟩)
def isWord(s:ByteArray):Bool:= !eQ s&&(gu s pS&&decide (1<=s.size)&&decide (s.size<=32))&&(if h:0<s.size then oJ (s[0]'h).toNat else false)
theorem tJ(z:Int)(R:ao):Spec prog 229 [.int .u8 z] R [] λv H'=>v=.bool (oJ z)/\H'=[]:=by
 refine Spec.body func229 rfl results229 ntmps229 rfl ?_
 refine .sr<|.ag rfl<|.z<|.mo rfl<|.q .geq<|.mo rfl ?_
 refine .split (t:=5) rfl (λa=>?_) (λa=>?_)
 refine .gT a<|.mo rfl<|.gT a<|.q .leq<|.q (.bA a) ?_
 refine .az rfl ?_
 refine .ret (aW rfl ?_)
 ·exact⟨by simp_all[oJ]<;>omega,rfl⟩
 refine .gF a<|.gF a<|.q (.bg a) ?_
 refine .az rfl ?_
 refine .ret (aW rfl ?_)
 ·exact⟨by simp_all[oJ]<;>omega,rfl⟩
theorem vZ(z:Int)(R:ao):Spec prog 230 [.int .u8 z] R [] λv H'=>v=.bool (oI z)/\H'=[]:=by
 refine Spec.body func230 rfl results230 ntmps230 rfl ?_
 refine .sr<|.ag rfl<|.z<|.mo rfl<|.q .geq<|.mo rfl ?_
 refine .split (t:=5) rfl (λa=>?_) (λa=>?_)
 refine .gT a<|.mo rfl<|.gT a<|.q .leq<|.q (.bA a) ?_
 refine .mo rfl ?_
 refine .split (t:=9) rfl (λb=>?_) (λb=>?_)
 refine .gF b<|.gF b<|.q (.bA b) ?_
 refine .az rfl ?_
 refine .ret (aW rfl ?_)
 ·exact⟨by simp_all[oI]<;>omega,rfl⟩
 refine .gT b<|.mo rfl<|.gT b<|.q .cG<|.q (.bg b) ?_
 refine .az rfl ?_
 refine .ret (aW rfl ?_)
 ·exact⟨by simp_all[oI]<;>omega,rfl⟩
 refine .gF a<|.gF a<|.q (.bg a) ?_
 refine .mo rfl<|.gt rfl ?_
 refine .mo rfl<|.gt rfl ?_
 refine .q .cG<|.q .cd<|.az rfl ?_
 refine .ret (aW rfl ?_)
 ·exact⟨by simp_all[oI]<;>omega,rfl⟩
theorem MA(z:Int)(R:ao):Spec prog 228 [.int .u8 z] R [] λv H'=>v=.bool (lk z)/\H'=[]:=by
 refine Spec.body func228 rfl results228 ntmps228 rfl ?_
 refine .sr<|.ag rfl<|.z<|.mo rfl ?_
 refine .aH (tJ z _) (λv f=>?_)
 subst f
 refine .mo rfl ?_
 refine .split (t:=5) rfl (λd=>?_) (λd=>?_)
 refine .gF d<|.gF d<|.q (.bA d) ?_
 refine .mo rfl<|.gX<|.gX<|.gX<|.bN rfl ?_
 refine .bN rfl ?_
 refine .gX<|.q .dh<|.mo rfl<|.gX<|.gX<|.q .dh<|.mo rfl<|.gX<|.gX<|.q .dh<|.az rfl ?_
 refine .ret (aW rfl ?_)
 ·exact⟨by simp_all[lk]<;>omega,rfl⟩
 refine .gT d<|.mo rfl<|.gT d ?_
 refine .aH (vZ z _) (λv f=>?_)
 subst f
 refine .q (.bg d) ?_
 refine .mo rfl ?_
 refine .split (t:=9) rfl (λb=>?_) (λb=>?_)
 refine .gF b<|.gF b<|.gF b<|.bN rfl ?_
 refine .bN rfl ?_
 refine .gF b<|.q (.bA b) ?_
 refine .mo rfl<|.gX<|.gX<|.q .dh<|.mo rfl<|.gX<|.gX<|.q .dh<|.az rfl ?_
 refine .ret (aW rfl ?_)
 ·exact⟨by simp_all[lk]<;>omega,rfl⟩
 refine .gT b<|.mo rfl<|.gT b<|.q .geq<|.gT b<|.mo rfl ?_
 refine .split (t:=12) rfl (λe=>?_) (λe=>?_)
 refine .gT e<|.mo rfl<|.gT e<|.q .leq<|.gT b<|.q (.bA e) ?_
 refine .q (.bg b) ?_
 refine .mo rfl ?_
 refine .split (t:=17) rfl (λc=>?_) (λc=>?_)
 refine .gF c<|.gF c<|.q (.bA c) ?_
 refine .mo rfl<|.gX<|.gX<|.q .dh<|.az rfl ?_
 refine .ret (aW rfl ?_)
 ·exact⟨by simp_all[lk]<;>omega,rfl⟩
 refine .gT c<|.mo rfl<|.gT c<|.q .cG<|.q (.bg c) ?_
 refine .mo rfl ?_
 refine .split (t:=21) rfl (λa=>?_) (λa=>?_)
 refine .gF a<|.gF a<|.q (.bA a) ?_
 refine .az rfl ?_
 refine .ret (aW rfl ?_)
 ·exact⟨by simp_all[lk]<;>omega,rfl⟩
 refine .gT a<|.mo rfl<|.gT a<|.q .cG<|.q (.bg a) ?_
 refine .az rfl ?_
 refine .ret (aW rfl ?_)
 ·exact⟨by simp_all[lk]<;>omega,rfl⟩
 refine .gF e<|.gF e<|.gT b<|.q (.bg e) ?_
 refine .q (.bg b) ?_
 refine .mo rfl<|.gt rfl ?_
 refine .mo rfl<|.gt rfl ?_
 refine .q .cG<|.q .cd<|.mo rfl ?_
 refine .split (t:=21) rfl (λa=>?_) (λa=>?_)
 refine .gF a<|.gF a<|.q (.bA a) ?_
 refine .az rfl ?_
 refine .ret (aW rfl ?_)
 ·exact⟨by simp_all[lk]<;>omega,rfl⟩
 refine .gT a<|.mo rfl<|.gT a<|.q .cG<|.q (.bg a) ?_
 refine .az rfl ?_
 refine .ret (aW rfl ?_)
 ·exact⟨by simp_all[lk]<;>omega,rfl⟩
theorem QB(z:Int)(R:ao):Spec prog 325 [.int .u8 z] R [] λv H'=>v=.bool (pS z)/\H'=[]:=by
 refine Spec.body func325 rfl results325 ntmps325 rfl ?_
 refine .sr<|.ag rfl<|.z<|.mo rfl ?_
 refine .aH (tJ z _) (λv b=>?_)
 subst b
 refine .mo rfl ?_
 refine .split (t:=5) rfl (λa=>?_) (λa=>?_)
 refine .gF a<|.gF a<|.q (.bA a) ?_
 refine .az rfl ?_
 refine .ret (aW rfl ?_)
 ·exact⟨by simp_all[pS]<;>omega,rfl⟩
 refine .gT a<|.mo rfl<|.gT a ?_
 refine .aH (vZ z _) (λv b=>?_)
 subst b
 refine .q (.bg a) ?_
 refine .az rfl ?_
 refine .ret (aW rfl ?_)
 ·exact⟨by simp_all[pS]<;>omega,rfl⟩
theorem uq(s:ByteArray)(f:FuncId) [e:ap prog f](p:Int->Bool)(m:∀z R,Spec prog f [.int .u8 z] R [] λv H'=>v=.bool (p z)/\H'=[])(w:s.size<=9223372036854775807)(R:ao):
  Spec prog 227 [.string s,.func (.func f) #[] #[]] R [] λv H'=>v=.bool (gu s p&&decide (1<=s.size)&&decide (s.size<=32))/\H'=[]:=by
 refine Spec.body func227 rfl results227 ntmps227 rfl ?_
 refine .sr<|.ag rfl<|.zs<|.sr<|.mo rfl<|.q .lE<|.mo rfl<|.zn<|.block ?_
 refine .loop (X:=Nat) (λi=>i<=s.size/\∀j (b:j<s.size),j<i->p (s[j]'b).toNat=true) (λi=>[(0,.string s),(1,.func (.func f) #[] #[]),(7,iN s.size),(8,iN i)]) (λ_=>[]) (λi=>s.size-i) 0 ⟨by omega,by omega⟩ kE.c.c.c.c rH ?_
 rintro i ⟨r,l⟩
 refine .sr<|.q .lss<|.zs ?_
 refine .cond rfl (λd=>?_) λd=>?_
 have h:i<s.size:=by simp at d;omega
 refine .kn<|.seq<|.block<|.sr<|.mo rfl<|.ag rfl<|.z<|.mo rfl<|.mo rfl<|.mo rfl<|.q (.qm i h) ?_
 refine .gP (first:=[]) (captured:=[]) (vs:=[.int .u8 (s[i]'h).toNat]) (m _ _) (λv o=>?_)
 subst o
 refine .q .not<|.zn ?_
 refine .cond rfl (λg=>?_) λg=>?_
 refine .sr<|.az rfl ?_
 refine .ret (bi (aR (cK (bi (aR (aW rfl ?_))))))
 ·have:=mF h (p:=p) (by simpa using g)
  exact⟨by simp[this],rfl⟩
 refine .skip<|bz<|aG<|.region ?_
 refine .q (.inc (n:=i) (by omega)) ?_
 refine .mo rfl<|.nil ?_
 ·exact br (i+1) ⟨by omega,λj b u=>by
   rcases Nat.lt_or_ge j i with hh|hh
   ·exact l j b hh
   ·obtain rfl:j=i:=by omega
    simpa using g⟩ (by omega) kE.c.c.c.c rH
 have k:gu s p=true:=uz λj b=>l j b (by simp at d;omega)
 refine .exit<|bk<|bw<|bq<|aG<|.sr<|.mo rfl<|.q .lE<|.q .geq<|.mo rfl ?_
 refine .split (t:=21) rfl (λa=>?_) (λa=>?_)
 refine .gT a<|.mo rfl<|.gT a<|.q .lE<|.gT a<|.q .leq<|.q (.bA a) ?_
 refine .az rfl ?_
 refine .ret (aW rfl ?_)
 ·exact⟨by rw[Value.bool.injEq,ab9];simp[k]at *;omega,rfl⟩
 refine .gF a<|.gF a<|.gF a<|.q (.bg a) ?_
 refine .az rfl ?_
 refine .ret (aW rfl ?_)
 ·exact⟨by rw[Value.bool.injEq,ab9];simp[k]at *;omega,rfl⟩
theorem sA(s:ByteArray)(a:s.size<=9223372036854775807)(R:ao):Spec prog 131 [.string s] R [] λv H'=>v=.bool (fe s)/\H'=[]:=by
 refine Spec.body func131 rfl results131 ntmps131 rfl ?_
 refine .sr<|.ag rfl<|.z<|.mo rfl ?_
 refine .aH (uq s 228 lk MA a _) (λv b=>?_)
 subst b
 refine .az rfl ?_
 refine .ret (aW rfl ?_)
 ·exact⟨rfl,rfl⟩
theorem rq(s:ByteArray)(j:s.size<=9223372036854775807)(R:ao):Spec prog 258 [.string s] R [] λv H'=>v=.bool (isWord s)/\H'=[]:=by
 refine Spec.body func258 rfl results258 ntmps258 rfl ?_
 refine .sr<|.ag rfl<|.zs<|.sr<|.mo rfl<|.zn<|.block<|.seq<|.sr<|.q .lz<|.az rfl ?_
 refine bF.cut (X:=Unit) (λ_=>True) (λ_=>[(0,.string s),(4,.bool (eQ s))]) (λ_=>[]) ?_ ?_
 refine .cond rfl (λa=>?_) λa=>?_
 refine .skip ?_
 ·refine aN () ab4 ?_ rH
  first
   |(simp only[eQ,a,b,e,f,ab7];exact kE.c.c)
   |(simp only[eQ,a,b,e,f,ab7,ab8];exact kE.c.c)
   |(simp only[eQ,a,b,e,ab7,ab8];exact kE.c.c)
   |(simp only[eQ,a,b,ab7,ab8];exact kE.c.c)
   |(simp only[eQ,a,ab8];exact kE.c.c)
 refine .sr<|.q .lz<|.az rfl ?_
 refine .cond rfl (λb=>?_) λb=>?_
 refine .skip ?_
 ·refine aN () ab4 ?_ rH
  first
   |(simp only[eQ,a,b,e,f,ab7];exact kE.c.c)
   |(simp only[eQ,a,b,e,f,ab7,ab8];exact kE.c.c)
   |(simp only[eQ,a,b,e,ab7,ab8];exact kE.c.c)
   |(simp only[eQ,a,b,ab7,ab8];exact kE.c.c)
   |(simp only[eQ,a,ab8];exact kE.c.c)
 refine .sr<|.q .lz<|.az rfl ?_
 refine .cond rfl (λe=>?_) λe=>?_
 refine .skip ?_
 ·refine aN () ab4 ?_ rH
  first
   |(simp only[eQ,a,b,e,f,ab7];exact kE.c.c)
   |(simp only[eQ,a,b,e,f,ab7,ab8];exact kE.c.c)
   |(simp only[eQ,a,b,e,ab7,ab8];exact kE.c.c)
   |(simp only[eQ,a,b,ab7,ab8];exact kE.c.c)
   |(simp only[eQ,a,ab8];exact kE.c.c)
 refine .sr<|.q .lz<|.az rfl ?_
 refine .cond rfl (λf=>?_) λf=>?_
 refine .skip ?_
 ·refine aN () ab4 ?_ rH
  first
   |(simp only[eQ,a,b,e,f,ab7];exact kE.c.c)
   |(simp only[eQ,a,b,e,f,ab7,ab8];exact kE.c.c)
   |(simp only[eQ,a,b,e,ab7,ab8];exact kE.c.c)
   |(simp only[eQ,a,b,ab7,ab8];exact kE.c.c)
   |(simp only[eQ,a,ab8];exact kE.c.c)
 refine .region<|.q .lz<|.ag rfl<|.nil ?_
 ·refine aN () ab4 ?_ rH
  first
   |(simp only[eQ,a,b,e,f,ab7];exact kE.c.c)
   |(simp only[eQ,a,b,e,f,ab7,ab8];exact kE.c.c)
   |(simp only[eQ,a,b,e,ab7,ab8];exact kE.c.c)
   |(simp only[eQ,a,b,ab7,ab8];exact kE.c.c)
   |(simp only[eQ,a,ab8];exact kE.c.c)
 intro x k
 refine aG ?_
 refine .cond rfl (λg=>?_) λg=>?_
 refine .sr<|.az rfl ?_
 refine .ret (bi (aR (aW rfl ?_)))
 ·refine⟨?_,rfl⟩
  first
   |(simp[isWord,g];done)
   |(rw[isWord,g,d,dif_pos h,Bool.not_false,acd,acd])
   |(rw[isWord,d,Bool.and_false,acQ])
 refine .skip<|bz<|aG<|.sr<|.mo rfl ?_
 refine .aH (uq s 325 pS QB j _) (λv i=>?_)
 subst i
 refine .mo rfl ?_
 refine .split (t:=12) rfl (λd=>?_) (λd=>?_)
 refine .gT d<|.mo rfl<|.gT d ?_
 have h:0<s.size:=by simp at d;omega
 refine .q (.qm 0 h) ?_
 refine .gT d ?_
 refine .aH (tJ _ _) (λv i=>?_)
 subst i
 refine .q (.bA d) ?_
 refine .az rfl ?_
 refine .ret (aW rfl ?_)
 ·refine⟨?_,rfl⟩
  first
   |(simp[isWord,g];done)
   |(rw[isWord,g,d,dif_pos h,Bool.not_false,acd,acd])
   |(rw[isWord,d,Bool.and_false,acQ])
 refine .gF d<|.gF d<|.gF d<|.q (.bg d) ?_
 refine .az rfl ?_
 refine .ret (aW rfl ?_)
 ·refine⟨?_,rfl⟩
  first
   |(simp[isWord,g];done)
   |(rw[isWord,g,d,dif_pos h,Bool.not_false,acd,acd])
   |(rw[isWord,d,Bool.and_false,acQ])
def jt(z:Int):Bool:=decide (33<=z)&&decide (z<=126)
def mB(z:Int):Bool:=z !=35
def nM:ByteArray:=⟨#[104,116,116,112,115,58,47,47]⟩
def ec(s:ByteArray):Bool:=decide (9<=s.size)&&decide (s.size<=200)&&gu s jt&&gu s mB&&decide (s.extract 0 8=nM)
def eX(s:ByteArray):Bool:=decide (s=⟨#[]⟩)||(decide (8<=s.size)&&decide (s.size<=64)&&gu s jt)
structure bP where
 id:ByteArray
 cL:ByteArray
 cg:List ByteArray
 scopes:List ByteArray
def bP.check(c:bP):Int:=
 if fe c.id=false then 9 else if eX c.cL=false then 4
 else if c.cg.length<1\/8<c.cg.length\/¬c.cg.Nodup\/c.cg.all ec=false then 4
 else if 16<c.scopes.length\/¬c.scopes.Nodup\/c.scopes.all isWord=false then 4 else 0
def bP.fits(c:bP):Prop:=c.id.size<=9223372036854775807/\c.cL.size<=9223372036854775807/\(∀s∈c.cg,s.size<=9223372036854775807)/\∀s∈c.scopes,s.size<=9223372036854775807
theorem wN:∀(l:List UInt8),decide (0<=Lib.indexByte l 35)= !(l.all λc=>mB (c.toNat:Int))
 |[]=>rfl
 |b::l=>by
  have h:=wN l
  have i:=Lib.indexByte_ge l 35
  unfold Lib.indexByte
  rw[List.all_cons]
  by_cases a:b=35
  ·subst a;simp[mB]
  ·have f:(b==35)=false:=by simpa using a
   have g:mB (b.toNat:Int)=true:=by
    have:b.toNat≠35:=λe=>a (UInt8.toNat_inj.1 e)
    simp[mB];omega
   rw[f,g,acd, <-h]
   simp only[acZ,if_false]
   by_cases d:Lib.indexByte l 35= -1
   ·simp[d]
   ·have:(Lib.indexByte l 35== -1)=false:=by simpa using d
    rw[this]
    simp only[acZ,if_false]
    rw[ab9];simp;omega
theorem My(s:ByteArray)(R:ao):Spec prog 409 [.string s,.string ⟨#[35]⟩] R [] λv H'=>v=.bool (!gu s mB)/\H'=[]:=
 (Spec.qE (PP s 35) R).mono λv H' ⟨a,b⟩=>⟨by rw[a,wN];rfl,b⟩
theorem Oe(s:ByteArray)(R:ao)(h:8<=s.size):Spec prog 410 [.string s,.string nM] R [] λv H'=>v=.bool (decide (s.extract 0 8=nM))/\H'=[]:=
 (Spec.qE (PR s nM) R).mono λv H' ⟨a,b⟩=>⟨by
  rw[a, <-Lib.hasPrefix_raw,p6,show nM.size=8 from rfl,acq h,acd],b⟩
theorem yh(s:ByteArray)(m:s.size<=9223372036854775807)(R:ao):Spec prog 408 [.string s] R [] λv H'=>v=.bool (gu s jt)/\H'=[]:=by
 refine Spec.body func408 rfl results408 ntmps408 rfl ?_
 refine .sr<|.ag rfl<|.zs<|.sr<|.mo rfl<|.q .lE<|.mo rfl<|.zn<|.block ?_
 refine .loop (X:=Nat) (λi=>i<=s.size/\∀j (f:j<s.size),j<i->jt (s[j]'f).toNat=true) (λi=>[(0,.string s),(5,iN s.size),(6,iN i)]) (λ_=>[]) (λi=>s.size-i) 0 ⟨by omega,by omega⟩ kE.c.c.c rH ?_
 rintro i ⟨k,b⟩
 refine .sr<|.q .lss<|.zs ?_
 refine .cond rfl (λg=>?_) λg=>?_
 have d:i<s.size:=by simp at g;omega
 refine .kn<|.seq<|.block<|.sr<|.mo rfl<|.ag rfl<|.z<|.mo rfl<|.mo rfl<|.q (.qm i d) ?_
 refine .q .lss<|.mo rfl ?_
 refine .split (t:=13) rfl (λa=>?_) (λa=>?_)
 refine .gF a<|.gF a<|.gF a<|.gF a<|.q (.bA a) ?_
 refine .zn<|.cW<|.sr<|.az rfl ?_
 refine .ret (bi (aR (cK (bi (aR (aW rfl ?_))))))
 ·refine⟨?_,rfl⟩
  first
   |rw[h]
   |rw[mF d (by clear b;simp at a;simp[jt];omega)]
   |rw[mF d (by clear b;simp at e;simp[jt];omega)]
 refine .gT a<|.mo rfl<|.gT a<|.mo rfl<|.gT a<|.q (.qm i d) ?_
 refine .gT a<|.q .gtr<|.q (.bg a) ?_
 refine .zn ?_
 refine .cond rfl (λe=>?_) λe=>?_
 refine .sr<|.az rfl ?_
 refine .ret (bi (aR (cK (bi (aR (aW rfl ?_))))))
 ·refine⟨?_,rfl⟩
  first
   |rw[h]
   |rw[mF d (by clear b;simp at a;simp[jt];omega)]
   |rw[mF d (by clear b;simp at e;simp[jt];omega)]
 refine .skip<|bz<|aG<|.region ?_
 refine .q (.inc (n:=i) (by omega)) ?_
 refine .mo rfl<|.nil ?_
 ·exact br (i+1) ⟨by omega,λj f l=>by
   rcases Nat.lt_or_ge j i with hh|hh
   ·exact b j f hh
   ·obtain rfl:j=i:=by omega
    clear b
    simp at a e;simp[jt];omega⟩ (by omega) kE.c.c.c rH
 have h:gu s jt=true:=uz λj f=>b j f (by simp at g;omega)
 refine .exit<|bk<|bw<|bq<|aG<|.sr<|.az rfl ?_
 refine .ret (aW rfl ?_)
 ·refine⟨?_,rfl⟩
  first
   |rw[h]
   |rw[mF d (by clear b;simp at a;simp[jt];omega)]
   |rw[mF d (by clear b;simp at e;simp[jt];omega)]
theorem kT{s:ByteArray}(h:s.size<9\/200<s.size):ec s=false:=by
 unfold ec
 rcases h with h|h
 ·rw[acB (show ¬9<=s.size by omega)];simp
 ·rw[acB (show ¬s.size<=200 by omega)];simp
theorem o5{s:ByteArray}(h:gu s jt=false):ec s=false:=by
 unfold ec;rw[h];simp
theorem o3{s:ByteArray}(h:gu s mB=false):ec s=false:=by
 unfold ec;rw[h];simp
theorem o4{s:ByteArray}(a:9<=s.size)(b:s.size<=200)(c:gu s jt=true)(d:gu s mB=true):ec s=decide (s.extract 0 8=nM):=by
 unfold ec;rw[acq a,acq b,c,d];simp
theorem zl(s:ByteArray)(g:s.size<=9223372036854775807)(R:ao):Spec prog 308 [.string s] R [] λv H'=>v=.bool (ec s)/\H'=[]:=by
 refine Spec.body func308 rfl results308 ntmps308 rfl ?_
 refine .sr<|.ag rfl<|.z<|.mo rfl<|.q .lE<|.q .geq<|.mo rfl ?_
 refine .split (t:=6) rfl (λa=>?_) (λa=>?_)
 refine .gT a<|.mo rfl<|.gT a<|.q .lE<|.gT a<|.q .leq<|.q (.bA a) ?_
 refine .mo rfl ?_
 refine .split (t:=11) rfl (λd=>?_) (λd=>?_)
 refine .gT d<|.mo rfl<|.gT d ?_
 refine .aH (yh s g _) (λv e=>?_)
 subst e
 refine .q (.bA d) ?_
 refine .mo rfl ?_
 refine .split (t:=15) rfl (λb=>?_) (λb=>?_)
 refine .gT b<|.mo rfl<|.gT b ?_
 refine .aH (My s _) (λv e=>?_)
 subst e
 refine .gT b<|.q .not<|.q (.bA b) ?_
 refine .mo rfl ?_
 refine .split (t:=20) rfl (λc=>?_) (λc=>?_)
 refine .gT c<|.mo rfl<|.gT c ?_
 have f:8<=s.size:=by simp at a;omega
 refine .aH (Oe s _ f) (λv e=>?_)
 subst e
 refine .q (.bA c) ?_
 refine .az rfl ?_
 refine .ret (aW rfl ?_)
 ·refine⟨?_,rfl⟩
  first
   |rw[kT (by simp at a;omega)]
   |rw[kT (by simp at d;omega)]
   |rw[o5 b]
   |rw[o3 (by simpa using c)]
   |rw[o4 (by simp at a;omega) (by simp at d;omega) b (by simpa using c)]
 refine .gF c<|.gF c<|.q (.bg c) ?_
 refine .az rfl ?_
 refine .ret (aW rfl ?_)
 ·refine⟨?_,rfl⟩
  first
   |rw[kT (by simp at a;omega)]
   |rw[kT (by simp at d;omega)]
   |rw[o5 b]
   |rw[o3 (by simpa using c)]
   |rw[o4 (by simp at a;omega) (by simp at d;omega) b (by simpa using c)]
 refine .gF b<|.gF b<|.gF b<|.q (.bg b) ?_
 refine .mo rfl<|.gX<|.gX<|.q .cd<|.az rfl ?_
 refine .ret (aW rfl ?_)
 ·refine⟨?_,rfl⟩
  first
   |rw[kT (by simp at a;omega)]
   |rw[kT (by simp at d;omega)]
   |rw[o5 b]
   |rw[o3 (by simpa using c)]
   |rw[o4 (by simp at a;omega) (by simp at d;omega) b (by simpa using c)]
 refine .gF d<|.gF d<|.q (.bg d) ?_
 refine .mo rfl<|.gX<|.gX<|.gX<|.q .cd<|.mo rfl<|.gX<|.gX<|.q .cd<|.az rfl ?_
 refine .ret (aW rfl ?_)
 ·refine⟨?_,rfl⟩
  first
   |rw[kT (by simp at a;omega)]
   |rw[kT (by simp at d;omega)]
   |rw[o5 b]
   |rw[o3 (by simpa using c)]
   |rw[o4 (by simp at a;omega) (by simp at d;omega) b (by simpa using c)]
 refine .gF a<|.gF a<|.gF a<|.q (.bg a) ?_
 refine .mo rfl<|.gX<|.gX<|.q .cd<|.mo rfl<|.gX<|.gX<|.gX<|.q .cd<|.mo rfl<|.gX<|.gX<|.q .cd<|.az rfl ?_
 refine .ret (aW rfl ?_)
 ·refine⟨?_,rfl⟩
  first
   |rw[kT (by simp at a;omega)]
   |rw[kT (by simp at d;omega)]
   |rw[o5 b]
   |rw[o3 (by simpa using c)]
   |rw[o4 (by simp at a;omega) (by simp at d;omega) b (by simpa using c)]
theorem O5(s:ByteArray)(d:s.size<=9223372036854775807)(R:ao):Spec prog 307 [.string s] R [] λv H'=>v=.bool (eX s)/\H'=[]:=by
 refine Spec.body func307 rfl results307 ntmps307 rfl ?_
 refine .sr<|.ag rfl<|.z<|.mo rfl<|.q .lz<|.mo rfl ?_
 refine .split (t:=5) rfl (λa=>?_) (λa=>?_)
 refine .gF a<|.gF a<|.gF a<|.gF a<|.bN rfl ?_
 refine .bN rfl ?_
 refine .bN rfl ?_
 refine .gF a<|.gF a<|.bN rfl ?_
 refine .bN rfl ?_
 refine .gF a<|.q (.bA a) ?_
 refine .az rfl ?_
 refine .ret (aW rfl ?_)
 ·refine⟨?_,rfl⟩
  unfold eX
  rw[Value.bool.injEq,ab9]
  simp at *
  simp[*]
  try omega
 refine .gT a<|.mo rfl<|.gT a<|.q .lE<|.gT a<|.q .geq<|.gT a<|.mo rfl ?_
 refine .split (t:=9) rfl (λb=>?_) (λb=>?_)
 refine .gT b<|.mo rfl<|.gT b<|.q .lE<|.gT b<|.q .leq<|.gT a<|.q (.bA b) ?_
 refine .gT a<|.mo rfl ?_
 refine .split (t:=14) rfl (λc=>?_) (λc=>?_)
 refine .gT c<|.mo rfl<|.gT c ?_
 refine .aH (yh s d _) (λv e=>?_)
 subst e
 refine .gT a<|.q (.bA c) ?_
 refine .q (.bg a) ?_
 refine .az rfl ?_
 refine .ret (aW rfl ?_)
 ·refine⟨?_,rfl⟩
  unfold eX
  rw[Value.bool.injEq,ab9]
  simp at *
  simp[*]
  try omega
 refine .gF c<|.gF c<|.gT a<|.q (.bg c) ?_
 refine .q (.bg a) ?_
 refine .az rfl ?_
 refine .ret (aW rfl ?_)
 ·refine⟨?_,rfl⟩
  unfold eX
  rw[Value.bool.injEq,ab9]
  simp at *
  simp[*]
  try omega
 refine .gF b<|.gF b<|.gF b<|.gT a<|.q (.bg b) ?_
 refine .gT a<|.mo rfl<|.gX<|.gX<|.gT a<|.q .cd<|.q (.bg a) ?_
 refine .az rfl ?_
 refine .ret (aW rfl ?_)
 ·refine⟨?_,rfl⟩
  unfold eX
  rw[Value.bool.injEq,ab9]
  simp at *
  simp[*]
  try omega
structure CR where
 id:ByteArray
 cL:ByteArray
 vu:Value
 vs:Value
def CR.cells(r:CR):List Value:=[.string r.id,.string r.cL,r.vu,r.vs]
structure eG(R:ao)(r:CR)(c:bP):Prop where
 id:r.id=c.id
 cL:r.cL=c.cL
 u:RS R 1 bL r.vu c.cg
 s:RS R 1 bL r.vs c.scopes
theorem eG.mono{R R':ao}{r:CR}{c:bP}(h:eG R r c)(a:∀b o,R b o->R' b o):eG R' r c:=⟨h.id,h.cL,h.u.mono a,h.s.mono a⟩
theorem eG.bU{R:ao}{r:CR}{c:bP}(h:eG R r c):∀u∈r.cells,ay u=true:=by
 have a:=h.u.ay.h
 have b:=h.s.ay.h
 simp[CR.cells,a,b]
 exact⟨rfl,rfl⟩
theorem zS(r:CR)(c:bP)(R:ao)(h:eG R r c)(L:c.fits):Spec prog 224 [.agg r.cells.toArray] R [] λv H'=>v=.int .i64 c.check/\H'=[]:=by
  obtain⟨Q,S,C,B⟩:=r
  obtain⟨z,A,o,p⟩:=h
  simp only at z A o p
  subst z;subst A
  obtain⟨D,E,F,G⟩:=L
  have N:=o.ay
  have O:=p.ay
  refine Spec.body func224 rfl results224 ntmps224 rfl ?_
  refine .sr ?_
  refine .cc rfl (λM=>?_)
  refine .ag rfl<|.zs<|.block<|.sr<|.fa rfl<|.lo rfl ?_
  refine .aH (sA c.id D _) (λv m=>?_)
  subst m
  refine .q .not<|.az rfl ?_
  refine .cond rfl (λH=>?_) λH=>?_
  refine .sr<|.az rfl ?_
  refine .ret (bi (aR (aW rfl ?_)))
  ·refine⟨?_,rfl⟩
   congr 1
   unfold bP.check
   simp only[ace,acf,ab5,acg]at *
   have d:fe c.id=true->¬fe c.id=false:=λh=>by rw[h];simp
   have f:eX c.cL=true->¬eX c.cL=false:=λh=>by rw[h];simp
   first
     |rw[ab2 (by assumption)]
     |rw[ab3 (d (by assumption)),ab2 (by assumption)]
     |(rw[ab3 (d (by assumption)),ab3 (f (by assumption))]
       have n:∀{a b:Prop},a->b->(a/\b):=λx y=>⟨x,y⟩
       first
         |rw[ab2 (.inl (by omega))]
         |rw[ab2 (.inr (.inl (by omega)))]
         |rw[ab2 (.inr (.inr (.inl (by assumption))))]
         |rw[ab2 (.inr (.inr (.inr (by assumption))))]
         |(have e:¬(c.cg.length<1\/8<c.cg.length\/¬c.cg.Nodup\/c.cg.all ec=false):=by
              rintro(h|h|h|h)
              ·omega
              ·omega
              ·exact h (by assumption)
              ·rw[show c.cg.all ec=true by assumption]at h;cases h
           rw[ab3 e]
           first
             |rw[ab2 (.inl (by omega))]
             |rw[ab2 (.inr (.inl (by assumption)))]
             |rw[ab2 (.inr (.inr (by assumption)))]
             |(rw[ab3]
               rintro(h|h|h)
               ·omega
               ·exact h (by assumption)
               ·rw[show c.scopes.all isWord=true by assumption]at h;cases h)))
  refine .sr<|.fa rfl<|.lo rfl ?_
  refine .aH (O5 c.cL E _) (λv m=>?_)
  subst m
  refine .q .not<|.az rfl ?_
  refine .cond rfl (λI=>?_) λI=>?_
  refine .sr<|.az rfl ?_
  refine .ret (bi (aR (aW rfl ?_)))
  ·refine⟨?_,rfl⟩
   congr 1
   unfold bP.check
   simp only[ace,acf,ab5,acg]at *
   have d:fe c.id=true->¬fe c.id=false:=λh=>by rw[h];simp
   have f:eX c.cL=true->¬eX c.cL=false:=λh=>by rw[h];simp
   first
     |rw[ab2 (by assumption)]
     |rw[ab3 (d (by assumption)),ab2 (by assumption)]
     |(rw[ab3 (d (by assumption)),ab3 (f (by assumption))]
       have n:∀{a b:Prop},a->b->(a/\b):=λx y=>⟨x,y⟩
       first
         |rw[ab2 (.inl (by omega))]
         |rw[ab2 (.inr (.inl (by omega)))]
         |rw[ab2 (.inr (.inr (.inl (by assumption))))]
         |rw[ab2 (.inr (.inr (.inr (by assumption))))]
         |(have e:¬(c.cg.length<1\/8<c.cg.length\/¬c.cg.Nodup\/c.cg.all ec=false):=by
              rintro(h|h|h|h)
              ·omega
              ·omega
              ·exact h (by assumption)
              ·rw[show c.cg.all ec=true by assumption]at h;cases h
           rw[ab3 e]
           first
             |rw[ab2 (.inl (by omega))]
             |rw[ab2 (.inr (.inl (by assumption)))]
             |rw[ab2 (.inr (.inr (by assumption)))]
             |(rw[ab3]
               rintro(h|h|h)
               ·omega
               ·exact h (by assumption)
               ·rw[show c.scopes.all isWord=true by assumption]at h;cases h)))
  refine .sr<|.fa rfl<|.lo rfl<|.q (.cv o) ?_
  refine .q .lss<|.mo rfl ?_
  refine .split (t:=18) rfl (λj=>?_) (λj=>?_)
  refine .gF j<|.gF j<|.gF j<|.gF j<|.q (.bA j) ?_
  refine .mo rfl<|.gX<|.gX<|.gX<|.gX<|.q .dh<|.mo rfl<|.gX<|.gX<|.gX<|.gX<|.q .dh<|.az rfl<|.cW<|.sr<|.az rfl ?_
  refine .ret (bi (aR (aW rfl ?_)))
  ·refine⟨?_,rfl⟩
   congr 1
   unfold bP.check
   simp only[ace,acf,ab5,acg]at *
   have d:fe c.id=true->¬fe c.id=false:=λh=>by rw[h];simp
   have f:eX c.cL=true->¬eX c.cL=false:=λh=>by rw[h];simp
   first
     |rw[ab2 (by assumption)]
     |rw[ab3 (d (by assumption)),ab2 (by assumption)]
     |(rw[ab3 (d (by assumption)),ab3 (f (by assumption))]
       have n:∀{a b:Prop},a->b->(a/\b):=λx y=>⟨x,y⟩
       first
         |rw[ab2 (.inl (by omega))]
         |rw[ab2 (.inr (.inl (by omega)))]
         |rw[ab2 (.inr (.inr (.inl (by assumption))))]
         |rw[ab2 (.inr (.inr (.inr (by assumption))))]
         |(have e:¬(c.cg.length<1\/8<c.cg.length\/¬c.cg.Nodup\/c.cg.all ec=false):=by
              rintro(h|h|h|h)
              ·omega
              ·omega
              ·exact h (by assumption)
              ·rw[show c.cg.all ec=true by assumption]at h;cases h
           rw[ab3 e]
           first
             |rw[ab2 (.inl (by omega))]
             |rw[ab2 (.inr (.inl (by assumption)))]
             |rw[ab2 (.inr (.inr (by assumption)))]
             |(rw[ab3]
               rintro(h|h|h)
               ·omega
               ·exact h (by assumption)
               ·rw[show c.scopes.all isWord=true by assumption]at h;cases h)))
  refine .gT j<|.fa rfl<|.gT j<|.lo rfl<|.gT j<|.q (.cv o) ?_
  refine .gT j<|.q .gtr<|.q (.bg j) ?_
  refine .mo rfl ?_
  refine .split (t:=24) rfl (λg=>?_) (λg=>?_)
  refine .gF g<|.gF g<|.gF g<|.gF g<|.q (.bA g) ?_
  refine .mo rfl<|.gX<|.gX<|.gX<|.gX<|.q .dh<|.az rfl<|.cW<|.sr<|.az rfl ?_
  refine .ret (bi (aR (aW rfl ?_)))
  ·refine⟨?_,rfl⟩
   congr 1
   unfold bP.check
   simp only[ace,acf,ab5,acg]at *
   have d:fe c.id=true->¬fe c.id=false:=λh=>by rw[h];simp
   have f:eX c.cL=true->¬eX c.cL=false:=λh=>by rw[h];simp
   first
     |rw[ab2 (by assumption)]
     |rw[ab3 (d (by assumption)),ab2 (by assumption)]
     |(rw[ab3 (d (by assumption)),ab3 (f (by assumption))]
       have n:∀{a b:Prop},a->b->(a/\b):=λx y=>⟨x,y⟩
       first
         |rw[ab2 (.inl (by omega))]
         |rw[ab2 (.inr (.inl (by omega)))]
         |rw[ab2 (.inr (.inr (.inl (by assumption))))]
         |rw[ab2 (.inr (.inr (.inr (by assumption))))]
         |(have e:¬(c.cg.length<1\/8<c.cg.length\/¬c.cg.Nodup\/c.cg.all ec=false):=by
              rintro(h|h|h|h)
              ·omega
              ·omega
              ·exact h (by assumption)
              ·rw[show c.cg.all ec=true by assumption]at h;cases h
           rw[ab3 e]
           first
             |rw[ab2 (.inl (by omega))]
             |rw[ab2 (.inr (.inl (by assumption)))]
             |rw[ab2 (.inr (.inr (by assumption)))]
             |(rw[ab3]
               rintro(h|h|h)
               ·omega
               ·exact h (by assumption)
               ·rw[show c.scopes.all isWord=true by assumption]at h;cases h)))
  refine .gT g<|.fa rfl<|.gT g<|.lo rfl<|.gT g ?_
  refine .aH (ve C c.cg _ o.rx) (λv m=>?_)
  subst m
  refine .gT g<|.q .not<|.q (.bg g) ?_
  refine .mo rfl ?_
  refine .split (t:=30) rfl (λi=>?_) (λi=>?_)
  refine .gF i<|.gF i<|.gF i<|.gF i<|.q (.bA i) ?_
  refine .az rfl<|.cW<|.sr<|.az rfl ?_
  refine .ret (bi (aR (aW rfl ?_)))
  ·refine⟨?_,rfl⟩
   congr 1
   unfold bP.check
   simp only[ace,acf,ab5,acg]at *
   have d:fe c.id=true->¬fe c.id=false:=λh=>by rw[h];simp
   have f:eX c.cL=true->¬eX c.cL=false:=λh=>by rw[h];simp
   first
     |rw[ab2 (by assumption)]
     |rw[ab3 (d (by assumption)),ab2 (by assumption)]
     |(rw[ab3 (d (by assumption)),ab3 (f (by assumption))]
       have n:∀{a b:Prop},a->b->(a/\b):=λx y=>⟨x,y⟩
       first
         |rw[ab2 (.inl (by omega))]
         |rw[ab2 (.inr (.inl (by omega)))]
         |rw[ab2 (.inr (.inr (.inl (by assumption))))]
         |rw[ab2 (.inr (.inr (.inr (by assumption))))]
         |(have e:¬(c.cg.length<1\/8<c.cg.length\/¬c.cg.Nodup\/c.cg.all ec=false):=by
              rintro(h|h|h|h)
              ·omega
              ·omega
              ·exact h (by assumption)
              ·rw[show c.cg.all ec=true by assumption]at h;cases h
           rw[ab3 e]
           first
             |rw[ab2 (.inl (by omega))]
             |rw[ab2 (.inr (.inl (by assumption)))]
             |rw[ab2 (.inr (.inr (by assumption)))]
             |(rw[ab3]
               rintro(h|h|h)
               ·omega
               ·exact h (by assumption)
               ·rw[show c.scopes.all isWord=true by assumption]at h;cases h)))
  refine .gT i<|.fa rfl<|.gT i<|.lo rfl<|.gT i ?_
  refine .aH (uK 308 ec C c.cg _ o.rx λs w u=>zl s (F s w) u) (λv m=>?_)
  subst m
  refine .gT i<|.q .not<|.q (.bg i) ?_
  refine .az rfl ?_
  refine .cond rfl (λJ=>?_) λJ=>?_
  refine .sr<|.az rfl ?_
  refine .ret (bi (aR (aW rfl ?_)))
  ·refine⟨?_,rfl⟩
   congr 1
   unfold bP.check
   simp only[ace,acf,ab5,acg]at *
   have d:fe c.id=true->¬fe c.id=false:=λh=>by rw[h];simp
   have f:eX c.cL=true->¬eX c.cL=false:=λh=>by rw[h];simp
   first
     |rw[ab2 (by assumption)]
     |rw[ab3 (d (by assumption)),ab2 (by assumption)]
     |(rw[ab3 (d (by assumption)),ab3 (f (by assumption))]
       have n:∀{a b:Prop},a->b->(a/\b):=λx y=>⟨x,y⟩
       first
         |rw[ab2 (.inl (by omega))]
         |rw[ab2 (.inr (.inl (by omega)))]
         |rw[ab2 (.inr (.inr (.inl (by assumption))))]
         |rw[ab2 (.inr (.inr (.inr (by assumption))))]
         |(have e:¬(c.cg.length<1\/8<c.cg.length\/¬c.cg.Nodup\/c.cg.all ec=false):=by
              rintro(h|h|h|h)
              ·omega
              ·omega
              ·exact h (by assumption)
              ·rw[show c.cg.all ec=true by assumption]at h;cases h
           rw[ab3 e]
           first
             |rw[ab2 (.inl (by omega))]
             |rw[ab2 (.inr (.inl (by assumption)))]
             |rw[ab2 (.inr (.inr (by assumption)))]
             |(rw[ab3]
               rintro(h|h|h)
               ·omega
               ·exact h (by assumption)
               ·rw[show c.scopes.all isWord=true by assumption]at h;cases h)))
  refine .sr<|.fa rfl<|.lo rfl<|.q (.cv p) ?_
  refine .q .gtr<|.mo rfl ?_
  refine .split (t:=41) rfl (λl=>?_) (λl=>?_)
  refine .gF l<|.gF l<|.gF l<|.gF l<|.q (.bA l) ?_
  refine .mo rfl<|.gX<|.gX<|.gX<|.gX<|.q .dh<|.az rfl<|.cW<|.sr<|.az rfl ?_
  refine .ret (bi (aR (aW rfl ?_)))
  ·refine⟨?_,rfl⟩
   congr 1
   unfold bP.check
   simp only[ace,acf,ab5,acg]at *
   have d:fe c.id=true->¬fe c.id=false:=λh=>by rw[h];simp
   have f:eX c.cL=true->¬eX c.cL=false:=λh=>by rw[h];simp
   first
     |rw[ab2 (by assumption)]
     |rw[ab3 (d (by assumption)),ab2 (by assumption)]
     |(rw[ab3 (d (by assumption)),ab3 (f (by assumption))]
       have n:∀{a b:Prop},a->b->(a/\b):=λx y=>⟨x,y⟩
       first
         |rw[ab2 (.inl (by omega))]
         |rw[ab2 (.inr (.inl (by omega)))]
         |rw[ab2 (.inr (.inr (.inl (by assumption))))]
         |rw[ab2 (.inr (.inr (.inr (by assumption))))]
         |(have e:¬(c.cg.length<1\/8<c.cg.length\/¬c.cg.Nodup\/c.cg.all ec=false):=by
              rintro(h|h|h|h)
              ·omega
              ·omega
              ·exact h (by assumption)
              ·rw[show c.cg.all ec=true by assumption]at h;cases h
           rw[ab3 e]
           first
             |rw[ab2 (.inl (by omega))]
             |rw[ab2 (.inr (.inl (by assumption)))]
             |rw[ab2 (.inr (.inr (by assumption)))]
             |(rw[ab3]
               rintro(h|h|h)
               ·omega
               ·exact h (by assumption)
               ·rw[show c.scopes.all isWord=true by assumption]at h;cases h)))
  refine .gT l<|.fa rfl<|.gT l<|.lo rfl<|.gT l ?_
  refine .aH (ve B c.scopes _ p.rx) (λv m=>?_)
  subst m
  refine .gT l<|.q .not<|.q (.bg l) ?_
  refine .mo rfl ?_
  refine .split (t:=47) rfl (λk=>?_) (λk=>?_)
  refine .gF k<|.gF k<|.gF k<|.gF k<|.q (.bA k) ?_
  refine .az rfl<|.cW<|.sr<|.az rfl ?_
  refine .ret (bi (aR (aW rfl ?_)))
  ·refine⟨?_,rfl⟩
   congr 1
   unfold bP.check
   simp only[ace,acf,ab5,acg]at *
   have d:fe c.id=true->¬fe c.id=false:=λh=>by rw[h];simp
   have f:eX c.cL=true->¬eX c.cL=false:=λh=>by rw[h];simp
   first
     |rw[ab2 (by assumption)]
     |rw[ab3 (d (by assumption)),ab2 (by assumption)]
     |(rw[ab3 (d (by assumption)),ab3 (f (by assumption))]
       have n:∀{a b:Prop},a->b->(a/\b):=λx y=>⟨x,y⟩
       first
         |rw[ab2 (.inl (by omega))]
         |rw[ab2 (.inr (.inl (by omega)))]
         |rw[ab2 (.inr (.inr (.inl (by assumption))))]
         |rw[ab2 (.inr (.inr (.inr (by assumption))))]
         |(have e:¬(c.cg.length<1\/8<c.cg.length\/¬c.cg.Nodup\/c.cg.all ec=false):=by
              rintro(h|h|h|h)
              ·omega
              ·omega
              ·exact h (by assumption)
              ·rw[show c.cg.all ec=true by assumption]at h;cases h
           rw[ab3 e]
           first
             |rw[ab2 (.inl (by omega))]
             |rw[ab2 (.inr (.inl (by assumption)))]
             |rw[ab2 (.inr (.inr (by assumption)))]
             |(rw[ab3]
               rintro(h|h|h)
               ·omega
               ·exact h (by assumption)
               ·rw[show c.scopes.all isWord=true by assumption]at h;cases h)))
  refine .gT k<|.fa rfl<|.gT k<|.lo rfl<|.gT k ?_
  refine .aH (uK 258 isWord B c.scopes _ p.rx λs w u=>rq s (G s w) u) (λv m=>?_)
  subst m
  refine .gT k<|.q .not<|.q (.bg k) ?_
  refine .az rfl ?_
  refine .cond rfl (λK=>?_) λK=>?_
  refine .sr<|.az rfl ?_
  refine .ret (bi (aR (aW rfl ?_)))
  ·refine⟨?_,rfl⟩
   congr 1
   unfold bP.check
   simp only[ace,acf,ab5,acg]at *
   have d:fe c.id=true->¬fe c.id=false:=λh=>by rw[h];simp
   have f:eX c.cL=true->¬eX c.cL=false:=λh=>by rw[h];simp
   first
     |rw[ab2 (by assumption)]
     |rw[ab3 (d (by assumption)),ab2 (by assumption)]
     |(rw[ab3 (d (by assumption)),ab3 (f (by assumption))]
       have n:∀{a b:Prop},a->b->(a/\b):=λx y=>⟨x,y⟩
       first
         |rw[ab2 (.inl (by omega))]
         |rw[ab2 (.inr (.inl (by omega)))]
         |rw[ab2 (.inr (.inr (.inl (by assumption))))]
         |rw[ab2 (.inr (.inr (.inr (by assumption))))]
         |(have e:¬(c.cg.length<1\/8<c.cg.length\/¬c.cg.Nodup\/c.cg.all ec=false):=by
              rintro(h|h|h|h)
              ·omega
              ·omega
              ·exact h (by assumption)
              ·rw[show c.cg.all ec=true by assumption]at h;cases h
           rw[ab3 e]
           first
             |rw[ab2 (.inl (by omega))]
             |rw[ab2 (.inr (.inl (by assumption)))]
             |rw[ab2 (.inr (.inr (by assumption)))]
             |(rw[ab3]
               rintro(h|h|h)
               ·omega
               ·exact h (by assumption)
               ·rw[show c.scopes.all isWord=true by assumption]at h;cases h)))
  refine .skip<|bz<|aG<|.sr<|.az rfl ?_
  refine .ret (aW rfl ?_)
  ·refine⟨?_,rfl⟩
   congr 1
   unfold bP.check
   simp only[ace,acf,ab5,acg]at *
   have d:fe c.id=true->¬fe c.id=false:=λh=>by rw[h];simp
   have f:eX c.cL=true->¬eX c.cL=false:=λh=>by rw[h];simp
   first
     |rw[ab2 (by assumption)]
     |rw[ab3 (d (by assumption)),ab2 (by assumption)]
     |(rw[ab3 (d (by assumption)),ab3 (f (by assumption))]
       have n:∀{a b:Prop},a->b->(a/\b):=λx y=>⟨x,y⟩
       first
         |rw[ab2 (.inl (by omega))]
         |rw[ab2 (.inr (.inl (by omega)))]
         |rw[ab2 (.inr (.inr (.inl (by assumption))))]
         |rw[ab2 (.inr (.inr (.inr (by assumption))))]
         |(have e:¬(c.cg.length<1\/8<c.cg.length\/¬c.cg.Nodup\/c.cg.all ec=false):=by
              rintro(h|h|h|h)
              ·omega
              ·omega
              ·exact h (by assumption)
              ·rw[show c.cg.all ec=true by assumption]at h;cases h
           rw[ab3 e]
           first
             |rw[ab2 (.inl (by omega))]
             |rw[ab2 (.inr (.inl (by assumption)))]
             |rw[ab2 (.inr (.inr (by assumption)))]
             |(rw[ab3]
               rintro(h|h|h)
               ·omega
               ·exact h (by assumption)
               ·rw[show c.scopes.all isWord=true by assumption]at h;cases h)))
def bP.hZ(c:bP):Prop:=c.cg.length<=1000000/\c.scopes.length<=1000000
def bP.zero:bP:=⟨⟨#[]⟩,⟨#[]⟩,[],[]⟩
def CR.zero:CR:=⟨⟨#[]⟩,⟨#[]⟩,sZ,sZ⟩
theorem eG.zero(R:ao):eG R CR.zero bP.zero:=⟨rfl,rfl,RS.mg,RS.mg⟩
theorem uX(r:CR)(c:bP)(R:ao)(h:eG R r c)(i:c.hZ):Spec prog 165 [.agg r.cells.toArray] R [] λv H'=>∃T,H'=[T]/\∃r',v=.agg r'.cells.toArray/\eG (sg T) r' c:=by
 have y:bI r.cells:=⟨h.bU⟩
 obtain⟨z,A,o,n⟩:=r
 obtain⟨d,e,b,a⟩:=h
 simp only at d e b a
 subst d;subst e
 have t:=b.ay
 have u:=a.ay
 refine Spec.body func165 rfl results165 ntmps165 rfl ?_
 refine .sr ?_
 refine .cc rfl (λp=>?_)
 refine .cn (λs=>?_)
 refine .zs<|.cq [7,9] mixed ?_
 refine .tO 0 rfl (.fieldAddr rfl)<|.tO 1 rfl (.bo rfl)<|.tO 3 rfl (.fieldAddr rfl)<|.tO 4 rfl (.bo rfl) ?_
 refine .sT 2 rfl ?_
 refine .bM (od o c.cg _ b.rx i.1) (λl j f=>?_)
 have w:=f.ay
 refine .nil (Next.sub ?_)
 refine .tO 6 rfl (.fieldAddr rfl) ?_
 refine .sT 5 rfl ?_
 refine .bM (od n c.scopes _ a.rx i.2) (λm k g=>?_)
 have x:=g.ay
 refine .nil (Next.sub ?_)
 refine .sT 7 rfl ?_
 refine .ca rfl rfl ?_
 refine .nil (Next.mod rfl ?_)
 refine .tK 8 rfl (.dU rfl) ?_
 refine .sT 9 rfl ?_
 refine .ca rfl rfl ?_
 refine .nil (Next.mod rfl ?_)
 refine RA.nil (by kernel_rfl) ?_
 refine aG<|.sr<|.q (.bj rfl)<|.bZ rfl rfl<|.zn ?_
 refine .ret (aO _ (.one (.ej rfl rfl)) (.one [0,0] _) ?_)
 ·exact⟨k++j,by simp[take,bf],⟨c.id,c.cL,l,m⟩,rfl,rfl,rfl,f.sg.right,g.sg.left⟩
def RI(g:Nat)(A:List bP)(T:au):Prop:=∃vm M Tm Ti,T=(g,.cells [vm].toArray 264 (0,0))::(Tm++Ti)/\MS (λs:ByteArray=>.string s) (λp:CR×bP=>.agg p.1.cells.toArray) vm M Tm/\
 (∀p∈M,p.1=p.2.2.id/\eG (sg Ti) p.2.1 p.2.2/\p.2.2.hZ)/\(M.map (·.2.2)).Perm A
def lX(id:ByteArray)(A:List bP):Option bP:=A.find? λc=>decide (c.id=id)
theorem Ow{M:List (ByteArray×(CR×bP))}{h:au}{A:List bP}(v:(M.map (·.1)).Nodup)(g:∀p∈M,p.1=p.2.2.id/\eG (sg h) p.2.1 p.2.2/\p.2.2.hZ)(f:(M.map (·.2.2)).Perm A)(id:ByteArray):
  (bO id M=none/\lX id A=none/\∀c∈A,c.id≠id)\/∃r c,bO id M=some (r,c)/\lX id A=some c/\c.id=id/\eG (sg h) r c/\c.hZ/\c∈A:=by
 have w:(A.map (·.id)).Nodup:=by
  refine((f.map (·.id)).nodup_iff).1 ?_
  rw[aci]
  have:M.map ((λc:bP=>c.id)∘λp:ByteArray×(CR×bP)=>p.2.2)=M.map (·.1):=ac2 λp e=>(g p e).1.symm
  rw[this];exact v
 cases hm:bO id M with
 |none=>
  have d:=jG.1 hm
  have b:∀c∈A,c.id≠id:=λc a s=>by
   obtain⟨p,e,rfl⟩:=ab6.1 (f.mem_iff.2 a)
   exact d (ab6.2 ⟨p,e,(g p e).1.trans s⟩)
  exact .inl ⟨rfl,List.find?_eq_none.2 λc a=>by simpa using b c a,b⟩
 |some q=>
  obtain⟨r,c⟩:=q
  have d:=jW hm
  obtain⟨b,l,m⟩:=g _ d
  have a:c∈A:=f.mem_iff.1 (ab6.2 ⟨_,d,rfl⟩)
  refine .inr ⟨r,c,rfl,?_,b.symm,l,m,a⟩
  cases hf:lX id A with
  |none=>exact absurd b.symm (by have:=List.find?_eq_none.1 hf c a;simpa using this)
  |some c'=>
   have n:=List.mem_of_find?_eq_some hf
   have o:c'.id=id:=by simpa using List.find?_some hf
   obtain⟨i,t,rfl⟩:=acA.1 n
   obtain⟨j,u,k⟩:=acA.1 a
   have:i=j:=(List.getElem_inj (xs:=A.map λc:bP=>c.id) (i:=i) (j:=j) (h₀:=by simpa using t) (h₁:=by simpa using u) w).1 (by simp[o,k];exact b)
   subst this
   rw[k]
theorem uS(R:ao):Spec prog 200 [] R [] λv H'=>∃T,H'=[T]/\∃g,v=pT g/\RI g [] T:=by
 refine Spec.body func200 rfl results200 ntmps200 rfl ?_
 refine .sr<|.ag rfl<|.z ?_
 refine .makeMap (λa=>?_)
 refine .q .cC ?_
 refine .cc rfl (λb=>?_)
 refine .az rfl ?_
 refine .ret (aO _ (.one (.tmp rfl)) (.one [0,0] _) ?_)
 ·exact⟨_,rfl,_,rfl,.map (some a),[],_,[],by simp[take,bf];rfl,MS.nil,by simp,.refl _⟩
theorem uV(g b:Nat)(R:ao) [pc:PC R (pT g) [.map (some b)]]:Spec prog 164 [pT g] R [] λv H'=>v=.bool true/\H'=[]:=by
 refine Spec.body func164 rfl results164 ntmps164 rfl ?_
 refine .sr<|.ag rfl<|.z<|.mo rfl<|.q (.jX rfl rfl) ?_
 refine .mo rfl<|.gt rfl ?_
 refine .mo rfl<|.gt rfl ?_
 refine .nc rfl<|.gt rfl ?_
 refine .fa rfl<|.gt rfl ?_
 refine .lo rfl<|.gt rfl ?_
 refine .q (.qA rfl rfl) ?_
 refine .q .dh<|.az rfl ?_
 refine .ret (aW rfl ?_)
 ·exact⟨rfl,rfl⟩
def gO(A:List bP)(c:bP):Int×List bP:=if c.check≠0 then(c.check,A)else if(lX c.id A).isSome then(10,A)else if 64<=A.length then(8,A)else(0,A++[c])
theorem uH(g:Nat)(A:List bP)(T:au)(h:RI g A T)(r:CR)(c:bP)(R:ao)(t:eG R r c)(K:c.fits)(H:c.hZ):
  Spec prog 128 [pT g,.agg r.cells.toArray] R [T] λv H'=>∃T',H'=[T']/\v=.int .i64 (gO A c).1/\RI g (gO A c).2 T':=by
 have y:=h
 obtain⟨V,M,n,i,rfl,l,E,x⟩:=h
 obtain⟨j,rfl⟩:∃b,V=.map (some b):=by obtain⟨b,es,clock,k,_⟩:=l;exact⟨b,k⟩
 have L:=Ow l.nd E x c.id
 have Y:M.length=A.length:=by simpa using x.length_eq
 obtain⟨w,N,Z,G⟩:∃w:CR,((bO c.id M).map λp:CR×bP=>Value.agg p.1.cells.toArray).getD (.agg CR.zero.cells.toArray)=.agg w.cells.toArray/\bI w.cells/\(bO c.id M).isSome=(lX c.id A).isSome:=by
  rcases L with⟨k,a,_⟩|⟨r,c,k,a,_,d,s,_⟩
  ·rw[k,a];exact⟨CR.zero,rfl,⟨(eG.zero (λ_ _=>False)).bU⟩,rfl⟩
  ·rw[k,a];exact⟨r,rfl,⟨d.bU⟩,rfl⟩
 have io:bI r.cells:=⟨t.bU⟩
 have B:=t.id
 refine Spec.du (H':=[bl g [.map (some j)] 264,n,i]) (by simp) ?_
 refine Spec.body func128 rfl results128 ntmps128 rfl ?_
 refine .sr ?_
 refine .cc rfl (λW=>?_)
 refine .ag rfl<|.zs<|.sr<|.mo rfl ?_
 refine .aH (uV g j _) (λv m=>?_)
 subst m
 refine .q .not<|.zn<|.bB<|.kn<|.seq<|.sr<|.q (.bj rfl) ?_
 refine .aH (zS r c _ (t.mono λb o f=>.inl f) K) (λv m=>?_)
 subst m
 refine .ag rfl<|.z<|.mo rfl<|.q .cb<|.zn ?_
 refine .cond rfl (λa=>?_) λa=>?_
 refine .sr<|.mo rfl<|.az rfl ?_
 refine .ret (aR (aO _ (.one (.tmp rfl)) (.one [1,1,1] _) ?_))
 ·refine⟨(g,.cells [.map (some j)].toArray 264 (0,0))::(n++i),by simp[take,bf],?_⟩
  have e:gO A c=(c.check,A):=by unfold gO;rw[ab2 (by simpa using a)]
  rw[e];exact⟨rfl,y⟩
 refine .kn<|.seq<|.seq<|.cq [11] mixed ?_
 refine .tO 0 rfl .move<|.tO 1 rfl (.nilCheck rfl)<|.tO 2 rfl (.fieldAddr rfl)<|.tO 3 rfl (.bo rfl)<|.tO 4 rfl (.fieldAddr rfl)<|.tO 5 rfl (.bo rfl) ?_
 refine .eF 6 rfl (aI.cast (v':=.tuple [.agg w.cells.toArray,.bool (lX c.id A).isSome].toArray) (.sO l.rx rfl (show _=some (Value.string r.id)from rfl)) (by rw[B, <-G, <-N];rfl)) (by kernel_rfl) ?_
 refine .tO 7 rfl .move<|.tO 8 rfl .extract<|.tK 9 rfl .extract ?_
 refine .sT 10 rfl ?_
 refine .cn (λX=>?_)
 refine .nil (Next.sub ?_)
 refine .sT 11 rfl ?_
 refine .bZ rfl rfl ?_
 refine .nil (Next.mod rfl ?_)
 refine .tK 12 rfl .assign ?_
 refine RA.nil (by kernel_rfl) ?_
 refine aG<|.sr<|.mo rfl<|.zn ?_
 refine .cond rfl (λd=>?_) λd=>?_
 refine .sr<|.az rfl ?_
 refine .ret (aR (aO _ (.one (.tmp rfl)) (.one [2,2,2] _) ?_))
 ·refine⟨(g,.cells [.map (some j)].toArray 264 (0,0))::(n++i),by simp[take,bf],?_⟩
  have e:gO A c=(10,A):=by unfold gO;rw[ab3 (by simpa using a),ab2 d]
  rw[e];exact⟨rfl,y⟩
 refine .kn<|.seq<|.sr<|.mo rfl<|.nc rfl<|.fa rfl<|.lo rfl<|.q (.Nc l.rx rfl) ?_
 refine .q .geq<|.zn ?_
 refine .cond rfl (λs=>?_) λs=>?_
 refine .sr<|.az rfl ?_
 refine .ret (aR (aO _ (.one (.tmp rfl)) (.one [2,2,2] _) ?_))
 ·refine⟨(g,.cells [.map (some j)].toArray 264 (0,0))::(n++i),by simp[take,bf],?_⟩
  have e:gO A c=(8,A):=by unfold gO;rw[ab3 (by simpa using a),ab3 (by rw[d];simp),ab2 (by have:=bp s;omega)]
  rw[e];exact⟨rfl,y⟩
 refine .kn<|.seq<|.cq [8] mixed ?_
 refine .tO 0 rfl .move<|.tO 1 rfl (.nilCheck rfl)<|.tO 2 rfl (.fieldAddr rfl)<|.tO 3 rfl (.bo rfl)<|.tO 4 rfl (.fieldAddr rfl)<|.tO 5 rfl (.bo rfl)<|.tO 6 rfl (.bj rfl) ?_
 refine .sT 7 rfl ?_
 refine .bM (uX r c _ (t.mono λb o f=>.inl f) H) (λv C m=>?_)
 obtain⟨U,rfl,J⟩:=m
 refine .nil (Next.sub ?_)
 refine .sT 8 rfl ?_
 refine .update (u:=(U,c)) l rfl (show _=some (Value.string r.id)from rfl) rfl (λD I _=>?_)
 refine .nil (Next.mod rfl ?_)
 refine RA.nil (by kernel_rfl) ?_
 refine aG<|.sr<|.az rfl ?_
 refine .ret (aO _ (.one (.tmp rfl)) (.one [3,3,3,0] _) ?_)
 ·refine⟨(g,.cells [.map (some j)].toArray 264 (0,0))::(D++(i++C)),by simp[take,bf],?_⟩
  have e:gO A c=(0,A++[c]):=by unfold gO;rw[ab3 (by simpa using a),ab3 (by rw[d];simp),ab3 (by have:=ba s;omega)]
  rw[e]
  have F:bO c.id M=none:=by
   rw[<-Option.not_isSome_iff_eq_none,G,d];simp
  refine⟨rfl,_,_,D,i++C,rfl,I,?_,?_⟩
  ·rw[B,lG (jG.1 F)]
   intro p hp
   rcases aco.1 hp with hp|hp
   ·obtain⟨O,Q,S⟩:=E p hp
    exact⟨O,Q.mono λb o f=>acO _ f,S⟩
   ·simp only[ac0]at hp
    subst hp
    exact⟨rfl,J.mono λb o f=>List.mem_append_right _ f,H⟩
  ·rw[B,lG (jG.1 F),aca]
   exact x.append_right _
def bP.short(c:bP):bP:=⟨Go.Proofs.YtocjmmbldeljnaaGreatDoor.short c.id 40,Go.Proofs.YtocjmmbldeljnaaGreatDoor.short c.cL 70,texts c.cg 10 210,texts c.scopes 18 40⟩
theorem Ac(r:CR)(c:bP)(R:ao)(h:eG R r c):Spec prog 189 [.agg r.cells.toArray] R [] λv H'=>∃T,H'=[T]/\∃r',v=.agg r'.cells.toArray/\eG (sg T) r' c.short:=by
 have q:bI r.cells:=⟨h.bU⟩
 obtain⟨y,z,l,k⟩:=r
 obtain⟨d,e,a,b⟩:=h
 simp only at d e a b
 subst d;subst e
 have o:=a.ay
 have p:=b.ay
 refine Spec.body func189 rfl results189 ntmps189 rfl ?_
 refine .sr ?_
 refine .cc rfl (λm=>?_)
 refine .cn (λn=>?_)
 refine .zs<|.cq [13] mixed ?_
 refine .tO 0 rfl (.fieldAddr rfl)<|.tO 1 rfl (.bo rfl)<|.tO 3 rfl (.fieldAddr rfl)<|.tO 4 rfl (.bo rfl)<|.tO 6 rfl (.fieldAddr rfl)<|.tO 7 rfl (.bo rfl)<|.tO 9 rfl (.fieldAddr rfl)<|.tO 10 rfl (.bo rfl) ?_
 refine .sT 2 rfl ?_
 refine .aH (gZ c.id 40 _) (λu a=>?_)
 subst a
 refine .nil (Next.sub ?_)
 refine .sT 5 rfl ?_
 refine .aH (gZ c.cL 70 _) (λu a=>?_)
 subst a
 refine .nil (Next.sub ?_)
 refine .sT 8 rfl ?_
 refine .bM (tU l c.cg 10 210 (by omega) _ a.rx) (λA i f=>?_)
 obtain⟨w,s,rfl,_⟩:=f.shape
 refine .nil (Next.sub ?_)
 refine .sT 11 rfl ?_
 refine .bM (tU k c.scopes 18 40 (by omega) _ b.rx) (λB j g=>?_)
 obtain⟨x,t,rfl,_⟩:=g.shape
 refine .nil (Next.sub ?_)
 refine .tO 12 rfl .cC ?_
 refine .sT 13 rfl ?_
 refine .bZ rfl rfl ?_
 refine .nil (Next.mod rfl ?_)
 refine RA.nil (by kernel_rfl) ?_
 refine aG ?_
 refine .ret (aO _ (.one (.ej rfl rfl)) (.one [0,0] _) ?_)
 ·exact⟨j++i,by simp[take,bf],⟨short c.id 40,short c.cL 70,_,_⟩,rfl,rfl,rfl,f.sg.right,g.sg.left⟩
structure eH{α:Type}(c:α->α->Int):Prop where
 sw:∀x y,c x y<0↔0<c y x
 tr:∀x y z,c x y<=0->c y z<=0->c x z<=0
 tl:∀x y z,c x y<0->c y z<=0->c x z<0
section
variable{α β:Type}{c d:α->α->Int}
theorem eH.refl(h:eH c)(x:α):c x x=0:=by have:=h.sw x x;omega
theorem eH.QL(h:eH c){x y:α}(a:c x y=0):c y x=0:=by have b:=h.sw x y;have d:=h.sw y x;omega
theorem eH.t2(h:eH c)(x y z:α)(a:c x y<=0)(b:c y z<0):c x z<0:=by
 have d:=h.tr x y z a (by omega)
 rcases Int.lt_or_eq_of_le d with h4|h4
 ·exact h4
 ·have f:=h.QL h4
  have e:=h.tl y z x b (by omega)
  have g:=(h.sw y x).1 e
  omega
theorem eH.map(h:eH c)(f:β->α):eH (λx y=>c (f x) (f y)):=⟨λx y=>h.sw _ _,λx y z=>h.tr _ _ _,λx y z=>h.tl _ _ _⟩
theorem eH.so(h:eH c):SO (aM c) where
 eK x:=by unfold aM;rw[h.refl];rfl
 tr x y z a b:=by
  unfold aM at *
  have a:=bp a
  have b:=bp b
  exact acq (h.tl x y z a (by omega))
 fJ x y z a b:=by
  unfold aM at *
  have a:=ba a
  have b:=ba b
  refine acB λf=>?_
  have d:c y x<=0:=by have:=h.sw y x;have:=h.sw x y;omega
  have e:c z y<=0:=by have:=h.sw y z;have:=h.sw z y;omega
  have g:=h.tr z y x e d
  have i:=(h.sw x z).1 f
  omega
theorem nQ(a:Int)(l:List Int):et (a::l)=if a=0 then et l else a:=rfl
theorem eH.nil:eH (λ_ _:α=>et []):=⟨λx y=>by simp[et],λx y z _ _=>by simp[et],λx y z h _=>by simp[et]at h⟩
theorem eH.cons{L:α->α->List Int}(d:eH c)(g:eH λa b=>et (L a b)):eH (λa b=>et (c a b::L a b)) where
 sw x y:=by
  simp only[nQ]
  have e:=d.sw x y
  have f:=d.sw y x
  have s:=g.sw x y
  split<;>split<;>omega
 tr x y z e f:=by
  simp only[nQ]at *
  have h:=d.tr x y z
  have i:=d.tl x y z
  have j:=d.t2 x y z
  have k:=g.tr x y z
  have l:=d.tr z y x
  have m:=d.sw x y
  have n:=d.sw y x
  have o:=d.sw z y
  have p:=d.sw y z
  have q:=d.sw x z
  have r:=d.sw z x
  split<;>(try split at e)<;>(try split at f)<;>omega
 tl x y z e f:=by
  simp only[nQ]at *
  have h:=d.tr x y z
  have i:=d.tl x y z
  have j:=d.t2 x y z
  have k:=g.tl x y z
  have l:=d.tr z y x
  have m:=d.sw x y
  have n:=d.sw y x
  have o:=d.sw z y
  have p:=d.sw y z
  have q:=d.sw x z
  have r:=d.sw z x
  split<;>(try split at e)<;>(try split at f)<;>omega
theorem mh{a:Int}{l:List Int}(h:et (a::l)=0):a=0/\et l=0:=by
 rw[nQ]at h
 split at h
 ·rename_i b;exact⟨b,h⟩
 ·omega
end
theorem kZ:eH dy where
 sw x y:=by rw[<-kh, <-pH]
 tr x y z h1 h2:=by
  have a:cw y x=false:=acz.2 λh=>by have:=pH.1 h;omega
  have c:cw z y=false:=acz.2 λh=>by have:=pH.1 h;omega
  have b:=kJ.fJ z y x c a
  rcases Int.lt_or_le 0 (dy x z)with h|h
  ·rw[pH.2 h]at b;cases b
  ·exact h
 tl x y z h1 h2:=by
  have a:=kh.2 h1
  rcases Int.lt_or_eq_of_le h2 with h|h
  ·exact kh.1 (kY a (kh.2 h))
  ·rw[q0]at h;subst h;exact h1
theorem wL:eH fp where
 sw x y:=by unfold fp;split<;>split<;>(try split)<;>(try split)<;>omega
 tr x y z h1 h2:=by unfold fp at *;split at h1<;>split at h2<;>(try split at h1)<;>(try split at h2)<;>split<;>(try split)<;>omega
 tl x y z h1 h2:=by unfold fp at *;split at h1<;>split at h2<;>(try split at h1)<;>(try split at h2)<;>split<;>(try split)<;>omega
theorem z4{α:Type}{c:α->α->Int}(h:eH c)(f:∀x y,c x y=0->x=y){xs ys:List α}(g:ys.Perm xs)(i:xs.Pairwise λa b=>aM c b a=false)(j:ys.Pairwise λa b=>aM c b a=false):ys=xs:=by
 refine List.Perm.eq_of_pairwise (le:=λa b:α=>aM c b a=false) (λa b _ _ d e=>?_) j i g
 unfold aM at d e
 have d:=ba d
 have e:=ba e
 have:=h.sw b a
 have:=h.sw a b
 exact f a b (by omega)
structure aZ where
 os:ByteArray
 oi:ByteArray
 rel:ByteArray
 us:ByteArray
 ss:ByteArray
 si:ByteArray
 sr:ByteArray
def aZ.enc(t:aZ):List Value:=[.string t.os,.string t.oi,.string t.rel,.string t.us,.string t.ss,.string t.si,.string t.sr]
theorem aZ.kinds(t:aZ):dw [.s,.s,.s,.s,.s,.s,.s] t.enc:=⟨ab4,ab4,ab4,ab4,ab4,ab4,ab4,ab4⟩
theorem aZ.eq_iff(a b:aZ):ek a.enc b.enc=true↔a=b:=by
 cases a;cases b
 simp only[aZ.enc,ek,ls,aZ.mk.injEq]
 simp
instance QW:DecidableEq aZ:=λa b=>decidable_of_iff _ (aZ.eq_iff a b)
theorem aZ.eq(a b:aZ):ek a.enc b.enc=decide (a=b):=by rw[ab9,ab5];exact aZ.eq_iff a b
instance aZ.one(t:aZ):bI t.enc:=⟨by simp[aZ.enc,ay]⟩
structure Sub where
 us:ByteArray
 ss:ByteArray
 si:ByteArray
 sr:ByteArray
def Sub.enc(t:Sub):List Value:=[.string t.us,.string t.ss,.string t.si,.string t.sr]
theorem Sub.kinds(t:Sub):dw [.s,.s,.s,.s] t.enc:=⟨ab4,ab4,ab4,ab4,ab4⟩
theorem Sub.eq_iff(a b:Sub):ek a.enc b.enc=true↔a=b:=by
 cases a;cases b
 simp only[Sub.enc,ek,ls,Sub.mk.injEq]
 simp
instance QV:DecidableEq Sub:=λa b=>decidable_of_iff _ (Sub.eq_iff a b)
theorem Sub.eq(a b:Sub):ek a.enc b.enc=decide (a=b):=by rw[ab9,ab5];exact Sub.eq_iff a b
instance Sub.one(t:Sub):bI t.enc:=⟨by simp[Sub.enc,ay]⟩
structure ez where
 os:ByteArray
 oi:ByteArray
 rel:ByteArray
def ez.enc(t:ez):List Value:=[.string t.os,.string t.oi,.string t.rel]
theorem ez.kinds(t:ez):dw [.s,.s,.s] t.enc:=⟨ab4,ab4,ab4,ab4⟩
theorem ez.eq_iff(a b:ez):ek a.enc b.enc=true↔a=b:=by
 cases a;cases b
 simp only[ez.enc,ek,ls,ez.mk.injEq]
 simp
instance QU:DecidableEq ez:=λa b=>decidable_of_iff _ (ez.eq_iff a b)
theorem ez.eq(a b:ez):ek a.enc b.enc=decide (a=b):=by rw[ab9,ab5];exact ez.eq_iff a b
instance ez.one(t:ez):bI t.enc:=⟨by simp[ez.enc,ay]⟩
def aZ.sub(t:aZ):Sub:=⟨t.us,t.ss,t.si,t.sr⟩
def aZ.er(t:aZ):ez:=⟨t.os,t.oi,t.rel⟩
def lg(u:ByteArray):Int:=if u=⟨#[]⟩then 1 else 0
def kK(a b:aZ):Int:=et [dy a.os b.os,dy a.oi b.oi,dy a.rel b.rel,fp (lg a.us) (lg b.us),dy a.us b.us,dy a.ss b.ss,dy a.si b.si,dy a.sr b.sr]
def fb(a b:aZ):Bool:=decide (kK a b<0)
theorem jr:eH kK:=
 (kZ.map aZ.os).cons ((kZ.map aZ.oi).cons ((kZ.map aZ.rel).cons ((wL.map λt:aZ=>lg t.us).cons ((kZ.map aZ.us).cons ((kZ.map aZ.ss).cons ((kZ.map aZ.si).cons ((kZ.map aZ.sr).cons .nil)))))))
theorem yJ{a b:aZ}(h:kK a b=0):a=b:=by
 unfold kK at h
 obtain⟨c,h⟩:=mh h
 obtain⟨d,h⟩:=mh h
 obtain⟨e,h⟩:=mh h
 obtain⟨k,h⟩:=mh h
 obtain⟨f,h⟩:=mh h
 obtain⟨g,h⟩:=mh h
 obtain⟨i,h⟩:=mh h
 obtain⟨j,h⟩:=mh h
 rw[q0]at c d e f g i j
 cases a;cases b
 simp_all
def mN(s i:ByteArray):Bool:=isWord s&&fe i
def kA(t:Sub):Bool:=if t.us=⟨#[]⟩then mN t.ss t.si&&isWord t.sr else fe t.us&&(decide (t.ss=⟨#[]⟩)&&decide (t.si=⟨#[]⟩)&&decide (t.sr=⟨#[]⟩))
def ie(t:aZ):Bool:=mN t.os t.oi&&isWord t.rel&&kA t.sub
def tX(f t:aZ):Bool:=(decide (f.os=⟨#[]⟩)||decide (f.os=t.os))&&(decide (f.oi=⟨#[]⟩)||decide (f.oi=t.oi))&&(decide (f.rel=⟨#[]⟩)||decide (f.rel=t.rel))&&(decide (f.us=⟨#[]⟩)||decide (f.us=t.us))&&(decide (f.ss=⟨#[]⟩)||decide (f.ss=t.ss))&&(decide (f.si=⟨#[]⟩)||decide (f.si=t.si))&&(decide (f.sr=⟨#[]⟩)||decide (f.sr=t.sr))
structure bE where
 t:aZ
 fr:Int
 to:Int
def bE.enc(x:bE):List Value:=x.t.enc++[.int .u64 x.fr,.int .u64 x.to]
instance bE.one(x:bE):bI x.enc:=⟨by simp[bE.enc,aZ.enc,ay]⟩
structure cj where
 put:Bool
 t:aZ
def cj.enc(c:cj):List Value:=.bool c.put::c.t.enc
instance cj.one(c:cj):bI c.enc:=⟨by simp[cj.enc,aZ.enc,ay]⟩
def jE(b:Nat):List Value:=[pT b]
def bE.there(x:bE)(r:Int):Bool:=decide (x.fr<=r)&&(x.to==0||decide (r<x.to))
def bE.jH(t:aZ)(x:bE):Bool:=decide (x.t=t)&&x.to==0
def iD(L:List bE)(t:aZ):Bool:=L.any (bE.jH t)
def ye(cS no:List aZ)(cs:List cj):Int:=
 if 32<cs.length\/cs.length=0\/32<cS.length\/32<no.length then 25
 else if cS.any (λt=> !ie t)||no.any (λt=> !ie t)||cs.any (λc=> !ie c.t)then 9
 else if ¬(cs.map (·.t)).Nodup then 2 else 0
def m3(cs:List cj):Nat:=(cs.filter (·.put)).length
def O9(L:List bE)(head:Int)(cS no:List aZ)(cs:List cj):Int:=
 if cS.any (λt=> !iD L t)||no.any (λt=>iD L t)then 13
 else if cs.any (λc=>c.put&&iD L c.t)then 10
 else if cs.any (λc=> !c.put&& !iD L c.t)then 11
 else if 4611686018427387903<=head\/4096<L.length+m3 cs/\0<m3 cs then 8 else 0
def bE.close(t:aZ)(r:Int)(x:bE):bE:=if x.jH t then⟨x.t,x.fr,r⟩else x
def jd(r:Int)(L:List bE)(c:cj):List bE:=if c.put then L++[⟨c.t,r,0⟩]else L.map (bE.close c.t r)
structure dI where
 rows:List bE
 head:Int
 cx:Int
def yf(S:dI)(cS no:List aZ)(cs:List cj):Int:=if ye cS no cs≠0 then ye cS no cs else O9 S.rows S.head cS no cs
def tS(S:dI)(cS no:List aZ)(cs:List cj):dI:=if yf S cS no cs=0 then⟨cs.foldl (jd (S.head+1)) S.rows,S.head+1,S.cx⟩else S
def scan(S:dI)(r:Int):Bool:=decide (S.cx<=r)&&decide (r<=S.head)
def ym(h:Int)(x:bE):Bool:=x.to==0||decide (h<x.to)
def yg(S:dI)(h:Int):dI:=if scan S h then⟨S.rows.filter (ym h),S.head,h⟩else S
def Tok.fresh(t:Tok):Tok:=⟨t.text,t.kind,t.jg,t.user,t.scopes,t.family,t.dP,t.rev,false⟩
theorem qp{κ β γ:Type}{f:β->γ}{q:γ->Bool}{A:List (κ×β)}:(dr f A).filter (λx=>q x.2)=dr f (A.filter λx=>q (f x.2)):=by unfold dr;rw[List.filter_map];rfl
theorem yB{β:Type}{M:List (ByteArray×β)}{a:List ByteArray}{k:ByteArray}:fx k (M.filter λx=>decide (x.1∉a))=M.filter λx=>decide (x.1∉a++[k]):=by
 unfold fx
 rw[List.filter_filter]
 refine List.filter_congr λx _=>?_
 by_cases h:x.1=k<;>simp[h]
theorem Qs(g:Nat)(A:List (ByteArray×Tok))(last:Int)(T:au)(h:VI g A last T)(now:Int)(R:ao):
  Spec prog 127 [pT g,.int .i64 now] R [T] λv H'=>∃T',H'=[T']/\v=.tuple #[]/\VI g (A.filter λx=>decide (now<x.2.dP)) last T':=by
 have J:=h.nd
 obtain⟨d,_,rfl,vm,M,q,n,G,rfl,L,Y,I,hQ⟩:=h
 obtain⟨a,rfl⟩:∃b,vm=.map (some b):=by obtain⟨b,es,clock,h1,_⟩:=L;exact⟨b,h1⟩
 refine Spec.du (H':=[bl g [.map (some a),pT q,.int .i64 last] 287,n,G,d]) (by simp) ?_
 refine Spec.body func127 rfl results127 ntmps127 rfl ?_
 refine .seq<|.sr<|.mo rfl ?_
 refine .aH (ug g a _ _ _) (λv hv=>?_)
 subst hv
 refine .q .not<|.zn<|.bB<|.kn<|.sr<|.mo rfl<|.nc rfl<|.fa rfl<|.lo rfl<|.mo rfl ?_
 refine .call [2] (xK q _ G hQ now _) (λu H' hu=>?_)
 obtain⟨e,F,B,A',rfl,C,a0,r,K⟩:=hu
 show aB _ _ _ _ _ _ _ [e,F,bl g [.map (some a),pT q,.int .i64 last] 287,n,d] _
 have a4:=C.le
 refine .q (.kD C) ?_
 refine .mo rfl<|.zn<|.block ?_
 refine .loop (X:=Nat×List (ByteArray×TP)×au) (λy=>(y.1<=B.length/\y.2.1=M.filter λx=>decide (x.1∉(B.map (·.1)).take y.1))/\MS (λs:ByteArray=>.string s) (λp:TP=>.agg (dL p).toArray) (.map (some a)) y.2.1 y.2.2) (λy=>[(0,pT g),(14,u),(15,.int .i64 ((B.map (·.1)).length:Nat)),(16,iN y.1)]) (λy=>[e,F,bl g [.map (some a),pT q,.int .i64 last] 287,y.2.2,d]) (λy=>B.length-y.1) (0,M,n) ⟨⟨by omega,by simp only[List.take_zero];exact(acK.2 λx _=>by simp).symm⟩,L⟩ kE.c.c.c.c rH ?_
 rintro⟨i,m,E⟩ ⟨⟨hi,w⟩,j⟩
 simp only at hi w j⊢
 refine .sr<|.q .lss<|.zs ?_
 refine .cond rfl (λo=>?_) λo=>?_
 have Q:i<(B.map (·.1)).length:=by have:=bp o;omega
 obtain⟨k,O⟩:=dM Q
 have a5:i<B.length:=by simpa using Q
 refine .kn<|.seq<|.block<|.sr ?_
 refine .aU i C O (λa6=>?_)
 refine .lo rfl<|.az rfl<|.region<|.mo rfl ?_
 refine .nc rfl<|.fa rfl<|.lo rfl<|.mo rfl ?_
 refine .delete j rfl (show _=some (Value.string k)from rfl) (λV Z _=>?_)
 refine .nil<|bz<|aG<|.region ?_
 refine .ia (i+1) .add ?_
 refine .mo rfl<|.nil ?_
 ·exact br (i+1,fT k m,V) ⟨⟨by simp only;omega,by simp only;rw[qy j.nd,w,yB,acG,O];rfl⟩,Z⟩ (by simp only;omega) kE.c.c.c.c rH
 have a1:i=B.length:=by have:=ba o;simp at this;omega
 have N:m=M.filter λx=>decide (now<x.2.2.dP):=by
  rw[w,a1,acY (by simp)]
  refine List.filter_congr λx hx=>?_
  have S:=r.pm
  have a3:(x.1,x.2.2)∈A:=I.mem_iff.1 (o8 hx)
  have U:(x.1,x.2.2.dP)∈dr (λt:Tok=>t.dP) A:=o8 a3
  by_cases D:now<x.2.2.dP
  ·have:x.1∉B.map (·.1):=λhm=>by
    obtain⟨p,l,a2⟩:=ab6.1 hm
    have h5:p∈dr (λt:Tok=>t.dP) A:=S.mem_iff.2 (acO _ l)
    have W:bO x.1 (dr (λt:Tok=>t.dP) A)=some p.2:=jl (by rw[mc];exact J) (by rw[<-a2];exact h5)
    have H:bO x.1 (dr (λt:Tok=>t.dP) A)=some x.2.2.dP:=jl (by rw[mc];exact J) U
    rw[W]at H
    have h8:=r.le p l
    simp only[Option.some.injEq]at H
    omega
   rw[acq this,acq D]
  ·have:x.1∈B.map (·.1):=by
    rcases aco.1 (S.mem_iff.1 U)with h5|h5
    ·exact ab6.2 ⟨_,h5,rfl⟩
    ·exact absurd (K _ h5) D
   rw[acB D,acB (λhh=>hh this)]
 refine .exit<|bk<|bw<|bq ?_
 refine dc _ .none ((bG [2,2,0,1]).trans (bu.cu (H':=[((g,.cells [.map (some a),pT q,.int .i64 last].toArray 287 (0,0))::(E++e))++d]) (by simp[take,bf]))) ?_
 ·refine⟨_,rfl,rfl,d,_,rfl,_,m,q,E,e,rfl,j,λp l=>Y p (acp.1 (N▸l)).1,?_,?_⟩
  ·rw[N, <-qp (q:=λt:Tok=>decide (now<t.dP))]
   exact I.filter _
  ·refine a0.perm ((r.filter K).trans (List.Perm.of_eq ?_))
   exact qp (f:=λt:Tok=>t.dP) (q:=λz:Int=>decide (now<z))
abbrev CP:Type:=CR×bP
def gz(p:CP):List Value:=p.1.cells
def rA(p:CP):Prop:=∀u∈gz p,ay u=true
def ni(p q:CP):Int:=dy p.1.id q.1.id
theorem zO(p q:CP)(R:ao)(g:rA p)(h:rA q):Spec prog 167 [.agg (gz p).toArray,.agg (gz q).toArray] R [] λv H'=>v=.int .i64 (ni p q)/\H'=[]:=by
 have n:bI (gz p):=⟨g⟩
 have o:bI (gz q):=⟨h⟩
 obtain⟨⟨a,j,k,l⟩,c⟩:=p
 obtain⟨⟨b,e,f,m⟩,d⟩:=q
 refine Spec.body func167 rfl results167 ntmps167 rfl ?_
 refine .sr ?_
 refine .cc rfl (λe=>?_)
 refine .cc rfl (λf=>?_)
 refine .ag rfl<|.z<|.fa rfl<|.lo rfl<|.fa rfl<|.lo rfl ?_
 refine .aH (jB a b _) (λv i=>?_)
 subst i
 refine .az rfl ?_
 refine .ret (aW rfl ?_)
 ·exact⟨rfl,rfl⟩
theorem zN:SO (aM ni):=by
 have e:∀p q:CP,aM ni p q=cw p.1.id q.1.id:=λp q=>by
  unfold aM ni
  rw[ab9,kh,ab5]
 exact⟨λx=>by rw[e];exact kJ.eK _,λx y z a b=>by rw[e]at *;exact kJ.tr _ _ _ a b,λx y z a b=>by rw[e]at *;exact kJ.fJ _ _ _ a b⟩
structure gp(S:dI):Prop where
 ok:∀x∈S.rows,ie x.t=true/\1<=x.fr/\x.fr<=S.head/\(x.to=0\/(x.fr<x.to/\S.cx<x.to/\x.to<=S.head))
 pw:S.rows.Pairwise λx y=>x.t=y.t->x.to≠0/\x.to<=y.fr
 len:S.rows.length<=4096
 h0:0<=S.cx
 h1:S.cx<=S.head
 h2:S.head<=4611686018427387903
def ol(S:dI)(f:aZ)(r:Int):List aZ:=(S.rows.filter λx=>x.there r&&tX f x.t).map (·.t)
def gR(cs:List cj)(r:Int)(x:bE):bE:=if x.to=0/\cs.any (λc=> !c.put&&decide (c.t=x.t))=true then⟨x.t,x.fr,r⟩else x
def news(cs:List cj)(r:Int):List bE:=(cs.filter (·.put)).map λc=>⟨c.t,r,0⟩
theorem qa{cs:List cj}{r:Int}{x:bE}:(gR cs r x).t=x.t/\(gR cs r x).fr=x.fr:=by unfold gR;split<;>exact⟨rfl,rfl⟩
theorem rP{cs:List cj}{r:Int}{x:bE}(h:x.to≠0):gR cs r x=x:=by unfold gR;rw[ab3 λa=>h a.1]
theorem z3{r:Int}{x:bE}:gR [] r x=x:=by unfold gR;rw[ab3 (by simp)]
theorem yc{r:Int}(l:r≠0):∀(cs:List cj) (L:List bE),(cs.map (·.t)).Nodup->cs.foldl (jd r) L=L.map (gR cs r)++news cs r
 |[],L,_=>by
  have:L.map (gR [] r)=L:=by
   conv=>rhs;rw[<-List.map_id L]
   exact ac2 λx _=>z3
  simp[news,this]
 |c::cs,L,hn=>by
  rw[acb,ack]at hn
  rw[List.foldl_cons,yc l cs _ hn.2]
  have p:∀x:bE,x.t=c.t->gR cs r x=x:=λx m=>by
   unfold gR
   rw[ab3]
   rintro⟨_,h⟩
   obtain⟨d,o,k⟩:=ac1.1 h
   simp only[acj,ab5]at k
   exact hn.1 (ab6.2 ⟨d,o,k.2.trans m⟩)
  cases hp:c.put with
  |true=>
   have n:gR (c::cs) r=gR cs r:=by
    funext x
    unfold gR
    simp only[List.any_cons,hp,Bool.not_true,acQ,ab7]
   have f:news (c::cs) r=⟨c.t,r,0⟩::news cs r:=by unfold news;rw[acr,ab2 hp];rfl
   rw[n,f]
   unfold jd
   rw[ab2 hp,aca,acu]
   congr 1
   rw[acb,List.map_nil,p _ rfl];rfl
  |false=>
   have f:news (c::cs) r=news cs r:=by unfold news;rw[acr,ab3 (by simp[hp])]
   rw[f]
   unfold jd
   rw[ab3 (by simp[hp]),aci]
   congr 1
   refine ac2 λx m=>?_
   simp only[Function.comp]
   by_cases b:x.jH c.t=true
   ·have e:x.t=c.t/\x.to=0:=by unfold bE.jH at b;simpa using b
    have g:bE.close c.t r x=⟨x.t,x.fr,r⟩:=by unfold bE.close;rw[ab2 b]
    rw[g,rP l]
    unfold gR
    rw[ab2 ⟨e.2,by simp[hp,e.1]⟩]
   ·have g:bE.close c.t r x=x:=by unfold bE.close;rw[ab3 b]
    rw[g]
    unfold gR
    have e:x.to=0->¬c.t=x.t:=λa i=>b (by unfold bE.jH;simp[a,i])
    by_cases a:x.to=0
    ·have i:=e a
     simp[a,hp,i]
    ·rw[ab3 λj=>a j.1,ab3 λj=>a j.1]
structure oO(S:dI)(cs:List cj):Prop where
 right:∀c∈cs,ie c.t=true
 nd:(cs.map (·.t)).Nodup
 rK:∀c∈cs,c.put=true->iD S.rows c.t=false
 there:∀c∈cs,c.put=false->iD S.rows c.t=true
 head:S.head<4611686018427387903
 len:S.rows.length+m3 cs<=4096\/m3 cs=0
theorem yw{L:List bE}{t:aZ}:iD L t=false↔∀x∈L,x.t=t->x.to≠0:=by
 unfold iD
 rw[List.any_eq_false]
 refine forall_congr' λx=>forall_congr' λa=>?_
 unfold bE.jH
 simp
theorem xp{cs:List cj}{r:Int}{x:bE}:x∈news cs r↔∃c∈cs,c.put=true/\x=⟨c.t,r,0⟩:=by
 unfold news
 rw[ab6]
 constructor
 ·rintro⟨c,a,rfl⟩
  have:=acp.1 a
  exact⟨c,this.1,this.2,rfl⟩
 ·rintro⟨c,a,b,rfl⟩
  exact⟨c,acp.2 ⟨a,b⟩,rfl⟩
theorem gp.collect{S:dI}(a:gp S)(h:Int):gp (yg S h):=by
 unfold yg
 split
 ·rename_i c
  unfold scan at c
  simp only[acj,ab5]at c
  have k:=a.h0;have l:=a.h1;have d:=a.h2
  refine⟨λx j=>?_,a.pw.sublist List.filter_sublist,Nat.le_trans (ac3 _ _) a.len,by simp only;omega,by simp only;omega,d⟩
  obtain⟨i,b⟩:=acp.1 j
  obtain⟨e,f,g,m⟩:=a.ok x i
  refine⟨e,f,g,?_⟩
  unfold ym at b
  simp only[acw,acC,ab5]at b
  simp only
  omega
 ·exact a
theorem gp.P6{S:dI}(c:gp S)(f:aZ)(r:Int):(ol S f r).Nodup:=by
 unfold ol
 rw[List.Nodup,acR]
 refine(c.pw.filter _).imp_of_mem λ{x y} e h g d=>?_
 obtain⟨i,j⟩:=g d
 have a:=(acp.1 e).2
 have b:=(acp.1 h).2
 unfold bE.there at a b
 simp only[acj,ab5,acw,acC]at a b
 omega
set_option linter.unusedSimpArgs false
theorem PB{cs:List cj}{i:Nat}:m3 (cs.take i)<=m3 cs:=(List.Sublist.filter _ (acP i cs)).length_le
theorem oO.take{S:dI}{cs:List cj}(h:oO S cs)(i:Nat):oO S (cs.take i):=by
 have b:∀c∈cs.take i,c∈cs:=λc a=>(acP i cs).subset a
 refine⟨λc a=>h.right c (b c a),h.nd.sublist ((acP i cs).map _),λc a=>h.rK c (b c a),λc a=>h.there c (b c a),h.head,?_⟩
 have d:=h.len
 have e:=PB (cs:=cs) (i:=i)
 omega
theorem gp.fold{S:dI}(a:gp S){cs:List cj}(d:oO S cs):gp ⟨cs.foldl (jd (S.head+1)) S.rows,S.head+1,S.cx⟩:=by
 have n:=a.h0;have u:=a.h1;have v:=a.h2;have w:=d.head
 rw[yc (by omega) _ _ d.nd]
 refine⟨λx hx=>?_,?_,?_,n,by simp only;omega,by simp only;omega⟩
 ·simp only at hx⊢
  rcases aco.1 hx with hx|hx
  ·obtain⟨y,i,rfl⟩:=ab6.1 hx
   obtain⟨o,p,A,b4⟩:=a.ok y i
   obtain⟨e,f⟩:=qa (cs:=cs) (r:=S.head+1) (x:=y)
   rw[e,f]
   refine⟨o,p,by omega,?_⟩
   unfold gR
   split
   ·right;simp only;omega
   ·rcases b4 with b4|b4
    ·exact .inl b4
    ·right;omega
  ·obtain⟨c,g,l,rfl⟩:=xp.1 hx
   exact⟨d.right c g,by simp only;omega,by simp only;omega,.inl rfl⟩
 ·simp only
  rw[List.pairwise_append]
  refine⟨?_,?_,λx hx y i=>?_⟩
  ·rw[acR]
   refine a.pw.imp λ{x y} h b=>?_
   obtain⟨e,f⟩:=qa (cs:=cs) (r:=S.head+1) (x:=x)
   obtain⟨q,s⟩:=qa (cs:=cs) (r:=S.head+1) (x:=y)
   rw[e,q]at b
   obtain⟨j,t⟩:=h b
   rw[rP j,s]
   exact⟨j,t⟩
  ·unfold news
   rw[acR]
   have:=d.nd
   rw[List.Nodup,acR]at this
   exact(this.sublist List.filter_sublist).imp λ{x y} h b=>absurd b h
  ·intro b
   obtain⟨z,m,rfl⟩:=ab6.1 hx
   obtain⟨c,g,l,rfl⟩:=xp.1 i
   obtain⟨e,f⟩:=qa (cs:=cs) (r:=S.head+1) (x:=z)
   rw[e]at b
   have k:=yw.1 (d.rK c g l) z m b
   rw[rP k]
   refine⟨k,?_⟩
   obtain⟨_,_,_,B⟩:=a.ok z m
   simp only
   omega
 ·simp only[List.length_append,acJ,news]
  have C:=a.len
  have:=d.len
  unfold m3 at this
  omega
theorem NT{t u:aZ}{r:Int}{x:bE}(h:u≠t):(bE.close u r x).jH t=x.jH t:=by
 unfold bE.close
 split
 ·rename_i a
  unfold bE.jH at a⊢
  simp only[acj,ab5]at a
  have b:¬x.t=t:=λe=>h (a.1.symm.trans e)
  simp[b]
 ·rfl
theorem yx{r:Int}{t:aZ}:∀(cs:List cj) (L:List bE),t∉cs.map (·.t)->iD (cs.foldl (jd r) L) t=iD L t
 |[],_,_=>rfl
 |c::cs,L,h=>by
  rw[acb,acm,not_or]at h
  rw[List.foldl_cons,yx cs _ h.2]
  unfold jd iD
  split
  ·rw[List.any_append]
   have:bE.jH t ⟨c.t,r,0⟩=false:=by
    unfold bE.jH
    have a:¬c.t=t:=λe=>h.1 e.symm
    simp[a]
   simp[this]
  ·rw[List.any_map]
   congr 1
   funext x
   exact NT λe=>h.1 e.symm
abbrev RB:Type:=Nat×bE
def Am(p:RB):List Value:=jE p.1
theorem RS.of_map{α β:Type}{R:ao}{sz:Nat}{enc:α->List Value}{f:β->α}{v:Value}{xs:List β}(h:RS R sz enc v (xs.map f)):RS R sz (λx=>enc (f x)) v xs:=by
 refine⟨λx a=>h.len _ (ab6.2 ⟨x,a,rfl⟩),λx a=>h.one _ (ab6.2 ⟨x,a,rfl⟩),?_⟩
 obtain⟨p,g,d,e,j,h4⟩:=h.h
 rw[acJ]at d e
 refine⟨p,g,d,e,j,?_⟩
 rcases h4 with h4|⟨b,n,c,E,i,k,l,m⟩
 ·exact .inl (List.map_eq_nil_iff.1 h4)
 ·exact .inr ⟨b,n,c,E,i,k,l,by rwa [List.flatMap_map]at m⟩
def qT(x:bE):Obj:=.cells x.enc.toArray 156 (0,0)
def mW(ps:List RB):au:=ps.map λp=>(p.1,qT p.2)
def ids{κ:Type} [DecidableEq κ](key:bE->κ)(k:κ)(ps:List RB):List Nat:=(ps.filter λx=>decide (key x.2=k)).map (·.1)
section
variable{κ:Type} [DecidableEq κ]{encK:κ->Value}{key:bE->κ}
structure hJ(encK:κ->Value)(key:bE->κ)(ps:List RB)(vm:Value)(M:List (κ×(Value×au)))(Tm Ts:au):Prop where
 ms:MS encK (λp:Value×au=>p.1) vm M Tm
 pm:Ts.Perm (M.flatMap λp=>p.2.2)
 os:∀p∈M,OS 294 1 jE p.2.1 (ids key p.1 ps) p.2.2
 ne:∀p∈M,ids key p.1 ps≠[]
 al:∀x∈ps,key x.2∈M.map (·.1)
theorem MD{k:κ}{ps:List RB}(h:∀x∈ps,key x.2≠k):ids key k ps=[]:=by
 unfold ids
 rw[List.filter_eq_nil_iff.2 λx a=>by simpa using h x a];rfl
theorem ql{k:κ}{ps:List RB}{b:Nat}{x:bE}:ids key k (ps++[(b,x)])=ids key k ps++if key x=k then [b]else []:=by
 unfold ids
 rw[acV,aca,acr]
 by_cases h:key x=k
 ·rw[ab2 (by simpa using h),ab2 h];rfl
 ·rw[ab3 (by simpa using h),ab3 h];rfl
theorem hJ.nil{b:Nat}:hJ encK key [] (.map (some b)) [] [(b,.map #[] 0)] []:=⟨MS.nil,by simp,by simp,by simp,by simp⟩
theorem hJ.get{ps:List RB}{vm:Value}{M:List (κ×(Value×au))}{f a:au}(h:hJ encK key ps vm M f a)(k:κ):∃v Tk Tr,((bO k M).map λp:Value×au=>p.1).getD (sZ)=v/\OS 294 1 jE v (ids key k ps) Tk/\a.Perm (Tk++Tr)/\(∀v' Tk',((dx k (v',Tk') M).flatMap λp=>p.2.2).Perm (Tk'++Tr)):=by
 cases hm:bO k M with
 |none=>
  have d:=jG.1 hm
  have i:ids key k ps=[]:=MD λx j g=>d (g▸h.al x j)
  refine⟨sZ,[],a,rfl,by rw[i];exact OS.nil,.refl _,λv' Tk'=>?_⟩
  rw[lG d,acS]
  exact(acF).trans (by simpa using h.pm.symm.append_left Tk')
 |some p=>
  obtain⟨v,Tk⟩:=p
  have e:=jW hm
  obtain⟨X,Y,c⟩:=List.append_of_mem e
  have b:=h.ms.nd
  refine⟨v,Tk,(X.flatMap λp=>p.2.2)++(Y.flatMap λp=>p.2.2),rfl,h.os _ e,?_,λv' Tk'=>?_⟩
  ·refine h.pm.trans ?_
   rw[c,acS,List.flatMap_cons]
   exact List.perm_append_comm_assoc _ _ _
  ·refine((nO b).flatMap_right _).trans ?_
   unfold dQ
   rw[c]at b⊢
   rw[wU b,acS,acS]
   simp only[List.flatMap_cons,List.flatMap_nil,ach]
   exact acF
theorem hJ.add{ps:List RB}{vm:Value}{M:List (κ×(Value×au))}{k l:au}(h:hJ encK key ps vm M k l){b:Nat}{x:bE}{v':Value}{c d f:au}(i:MS encK (λp:Value×au=>p.1) vm (dx (key x) (v',c) M) d)(n:OS 294 1 jE v' (ids key (key x) ps++[b]) c)(hp:f.Perm ((dx (key x) (v',c) M).flatMap λp=>p.2.2)):hJ encK key (ps++[(b,x)]) vm (dx (key x) (v',c) M) d f:=by
 have j:=h.ms.nd
 refine⟨i,hp,λp hp=>?_,λp hp=>?_,λy hy=>?_⟩
 ·by_cases a:p.1=key x
  ·have g:bO p.1 (dx (key x) (v',c) M)=some p.2:=jl i.nd (by exact hp)
   rw[xj,ab2 a]at g
   have m:=Option.some.inj g
   rw[ql,a,ab2 rfl, <-m];exact n
  ·rcases pi j hp with hp|hp
   ·rw[ql,ab3 (λe=>a e.symm),ach];exact h.os p hp
   ·exact absurd (by rw[hp]) a
 ·by_cases a:p.1=key x
  ·rw[ql,a,ab2 rfl];simp
  ·rcases pi j hp with hp|hp
   ·rw[ql,ab3 (λe=>a e.symm),ach];exact h.ne p hp
   ·exact absurd (by rw[hp]) a
 ·rw[qz]
  rcases aco.1 hy with hy|hy
  ·have:=h.al y hy
   split<;>simp[this]
  ·simp only[ac0]at hy
   subst hy
   split
   ·assumption
   ·simp
theorem hJ.rows{ps qs:List RB}{vm:Value}{M:List (κ×(Value×au))}{b c:au}(h:hJ encK key ps vm M b c)(f:qs.map (λp=>(p.1,key p.2))=ps.map (λp=>(p.1,key p.2))):hJ encK key qs vm M b c:=by
 have d:∀k,ids key k qs=ids key k ps:=λk=>by
  have e:∀L:List RB,ids key k L=((L.map λp=>(p.1,key p.2)).filter λp=>decide (p.2=k)).map (·.1):=λL=>by
   unfold ids
   rw[List.filter_map,aci];rfl
  rw[e,e,f]
 refine⟨h.ms,h.pm,λp a=>by rw[d];exact h.os p a,λp a=>by rw[d];exact h.ne p a,λx i=>?_⟩
 have:(x.1,key x.2)∈ps.map (λp=>(p.1,key p.2)):=f▸ab6.2 ⟨x,i,rfl⟩
 obtain⟨y,j,l⟩:=ab6.1 this
 have g:key y.2=key x.2:=acv Prod.snd l
 rw[<-g]
 exact h.al y j
end
def SI(g:Nat)(S:dI)(T:au):Prop:=∃ps vf vr Mf Mr Tf Tr Sf Sr,T=(g,.cells [.bool true,.int .u64 S.head,.int .u64 S.cx,iN ps.length,vf,vr].toArray 221 (0,0))::(Tf++(Sf++(Tr++(Sr++mW ps))))/\
 hJ (λk:ez=>.agg k.enc.toArray) (λx=>x.t.er) ps vf Mf Tf Sf/\hJ (λk:Sub=>.agg k.enc.toArray) (λx=>x.t.sub) ps vr Mr Tr Sr/\ps.map (·.2)=S.rows
theorem wP(a:Int)(R:ao):Spec prog 503 [.int .i64 a] R [] λu H'=>u=.bool false/\H'=[]:=by
 refine Spec.body func503 rfl results503 ntmps503 rfl ?_
 refine .sr<|.ag rfl<|.z<|.mo rfl<|.mo rfl<|.q .cb<|.az rfl ?_
 refine .ret (aW rfl ?_)
 ·exact⟨by simp,rfl⟩
theorem z8(a b:Int)(R:ao):Spec prog 492 [.int .i64 a,.int .i64 b] R [] λu H'=>u=.int .i64 (fp a b)/\H'=[]:=by
 refine Spec.body func492 rfl results492 ntmps492 rfl ?_
 refine .sr<|.ag rfl<|.z<|.mo rfl ?_
 refine .aH (wP a _) (λv e=>?_)
 subst e
 refine .ag rfl<|.z<|.mo rfl ?_
 refine .aH (wP b _) (λv e=>?_)
 subst e
 refine .ag rfl<|.zs<|.sr<|.mo rfl<|.zn<|.bB<|.kn<|.seq<|.sr<|.mo rfl<|.zn<|.bB<|.kn<|.seq<|.sr<|.mo rfl<|.mo rfl<|.q .lss<|.zn ?_
 refine .cond rfl (λc=>?_) λc=>?_
 refine .sr<|.az rfl ?_
 refine .ret (aR (aW rfl ?_))
 ·refine⟨?_,rfl⟩
  simp at c
  try simp at d
  unfold fp
  congr 1
  split
  ·first|rfl|omega
  ·first|rfl|(exfalso;omega)|(split<;>first|rfl|omega)
 refine .kn<|.seq<|.sr<|.mo rfl<|.mo rfl<|.q .gtr<|.zn ?_
 refine .cond rfl (λd=>?_) λd=>?_
 refine .sr<|.az rfl ?_
 refine .ret (aR (aW rfl ?_))
 ·refine⟨?_,rfl⟩
  simp at c
  try simp at d
  unfold fp
  congr 1
  split
  ·first|rfl|omega
  ·first|rfl|(exfalso;omega)|(split<;>first|rfl|omega)
 refine .kn<|.sr<|.az rfl ?_
 refine .ret (aW rfl ?_)
 ·refine⟨?_,rfl⟩
  simp at c
  try simp at d
  unfold fp
  congr 1
  split
  ·first|rfl|omega
  ·first|rfl|(exfalso;omega)|(split<;>first|rfl|omega)
theorem wQ(a:Int)(R:ao):Spec prog 402 [.int .u64 a] R [] λu H'=>u=.bool false/\H'=[]:=by
 refine Spec.body func402 rfl results402 ntmps402 rfl ?_
 refine .sr<|.ag rfl<|.z<|.mo rfl<|.mo rfl<|.q .cb<|.az rfl ?_
 refine .ret (aW rfl ?_)
 ·exact⟨by simp,rfl⟩
theorem z9(a b:Int)(R:ao):Spec prog 292 [.int .u64 a,.int .u64 b] R [] λu H'=>u=.int .i64 (fp a b)/\H'=[]:=by
 refine Spec.body func292 rfl results292 ntmps292 rfl ?_
 refine .sr<|.ag rfl<|.z<|.mo rfl ?_
 refine .aH (wQ a _) (λv e=>?_)
 subst e
 refine .ag rfl<|.z<|.mo rfl ?_
 refine .aH (wQ b _) (λv e=>?_)
 subst e
 refine .ag rfl<|.zs<|.sr<|.mo rfl<|.zn<|.bB<|.kn<|.seq<|.sr<|.mo rfl<|.zn<|.bB<|.kn<|.seq<|.sr<|.mo rfl<|.mo rfl<|.q .lss<|.zn ?_
 refine .cond rfl (λc=>?_) λc=>?_
 refine .sr<|.az rfl ?_
 refine .ret (aR (aW rfl ?_))
 ·refine⟨?_,rfl⟩
  simp at c
  try simp at d
  unfold fp
  congr 1
  split
  ·first|rfl|omega
  ·first|rfl|(exfalso;omega)|(split<;>first|rfl|omega)
 refine .kn<|.seq<|.sr<|.mo rfl<|.mo rfl<|.q .gtr<|.zn ?_
 refine .cond rfl (λd=>?_) λd=>?_
 refine .sr<|.az rfl ?_
 refine .ret (aR (aW rfl ?_))
 ·refine⟨?_,rfl⟩
  simp at c
  try simp at d
  unfold fp
  congr 1
  split
  ·first|rfl|omega
  ·first|rfl|(exfalso;omega)|(split<;>first|rfl|omega)
 refine .kn<|.sr<|.az rfl ?_
 refine .ret (aW rfl ?_)
 ·refine⟨?_,rfl⟩
  simp at c
  try simp at d
  unfold fp
  congr 1
  split
  ·first|rfl|omega
  ·first|rfl|(exfalso;omega)|(split<;>first|rfl|omega)
def aZ.fits(t:aZ):Prop:=t.os.size<=9223372036854775807/\t.oi.size<=9223372036854775807/\t.rel.size<=9223372036854775807/\t.us.size<=9223372036854775807/\t.ss.size<=9223372036854775807/\t.si.size<=9223372036854775807/\t.sr.size<=9223372036854775807
theorem xP(s:Sub)(R:ao):Spec prog 493 [.agg s.enc.toArray] R [] λv H'=>v=.int .i64 (lg s.us)/\H'=[]:=by
 refine Spec.body func493 rfl results493 ntmps493 rfl ?_
 refine .sr ?_
 refine .cc rfl (λc=>?_)
 refine .ag rfl<|.zs<|.sr<|.fa rfl<|.lo rfl<|.q .qB<|.zn ?_
 refine .cond rfl (λa=>?_) λa=>?_
 refine .sr<|.az rfl ?_
 refine .ret (aR (aW rfl ?_))
 ·have b:¬s.us=⟨#[]⟩:=by simpa using a
  exact⟨by unfold lg;rw[ab3 b],rfl⟩
 refine .kn<|.sr<|.az rfl ?_
 refine .ret (aW rfl ?_)
 ·have b:s.us=⟨#[]⟩:=by simpa using a
  exact⟨by unfold lg;rw[ab2 b],rfl⟩
theorem P5(a b:aZ)(R:ao):Spec prog 464 [.agg a.enc.toArray,.agg b.enc.toArray] R [] λv H'=>v=.int .i64 (kK a b)/\H'=[]:=by
 obtain⟨o,p,q,e,g,h,i⟩:=a
 obtain⟨r,s,t,f,l,m,n⟩:=b
 have A:bI (Sub.enc ⟨e,g,h,i⟩):=inferInstance
 have B:bI (Sub.enc ⟨f,l,m,n⟩):=inferInstance
 refine Spec.body func464 rfl results464 ntmps464 rfl ?_
 refine .sr ?_
 refine .cc rfl (λu=>?_)
 refine .cc rfl (λw=>?_)
 refine .ag rfl<|.zs ?_
 refine bF.cut (X:=Nat×Nat) (λ_=>True) (λy=>[(2,pT u),(3,pT w),(5,.pointer (some ⟨y.1,0,none⟩)),(6,.pointer (some ⟨y.2,0,none⟩))]) (λy=>[[(y.1,.cells (Sub.enc ⟨e,g,h,i⟩).toArray 152 (0,0))],[(y.2,.cells (Sub.enc ⟨f,l,m,n⟩).toArray 152 (0,0))],bl w (aZ.enc ⟨r,s,t,f,l,m,n⟩) 154,bl u (aZ.enc ⟨o,p,q,e,g,h,i⟩) 154]) ?_ ?_
 refine .nZ [] [6,7] mixed ?_
 conv=>arg 3;simp only[take,rest,bf,acN,ac4]
 conv=>arg 5;simp only[take,rest,bf,acN,ac4]
 conv=>arg 9;simp only[take,rest,bf,acN,ac4]
 refine .tO 0 rfl (.fieldAddr rfl) ?_
 refine .tO 1 rfl (.loadT rfl) ?_
 refine .tK 2 rfl (.dU rfl) ?_
 refine .tK 3 rfl (.loadT rfl) ?_
 refine RA.lh 4 5 rfl rfl (by kernel_rfl) rfl ?_ ?_
 refine .cn (λj=>?_)
 refine .nil (Next.sub ?_)
 refine .sT 5 rfl ?_
 refine .cn (λk=>?_)
 refine .nil (Next.sub ?_)
 refine .sT 6 rfl ?_
 refine .bZ rfl rfl ?_
 refine .nil (Next.mod rfl ?_)
 refine .sT 7 rfl ?_
 refine .bZ rfl rfl ?_
 refine .nil (Next.mod rfl ?_)
 refine RA.nil (by kernel_rfl) ?_
 ·first
   |exact aN (j,k) ab4 kE.c.c.c.c (bG [1,0,0,0])
   |exact aN (j,k) ab4 kE.c.c.c.c (bG [0,0,0,0])
 refine .cn (λk=>?_)
 refine .nil (Next.sub ?_)
 refine .sT 4 rfl ?_
 refine .cn (λj=>?_)
 refine .nil (Next.sub ?_)
 refine .sT 6 rfl ?_
 refine .bZ rfl rfl ?_
 refine .nil (Next.mod rfl ?_)
 refine .sT 7 rfl ?_
 refine .bZ rfl rfl ?_
 refine .nil (Next.mod rfl ?_)
 refine RA.nil (by kernel_rfl) ?_
 ·first
   |exact aN (j,k) ab4 kE.c.c.c.c (bG [1,0,0,0])
   |exact aN (j,k) ab4 kE.c.c.c.c (bG [0,0,0,0])
 intro y z
 obtain⟨j,k⟩:=y
 simp only
 refine aG<|.seq<|.cq [] mixed ?_
 refine .tO 0 rfl (.fieldAddr rfl)<|.tO 1 rfl (.fieldAddr rfl)<|.tO 2 rfl (.bo rfl)<|.tO 3 rfl (.fieldAddr rfl)<|.tO 4 rfl (.fieldAddr rfl)<|.tO 5 rfl (.bo rfl)<|.tO 7 rfl (.fieldAddr rfl)<|.tO 8 rfl (.fieldAddr rfl)<|.tO 9 rfl (.bo rfl)<|.tO 10 rfl (.fieldAddr rfl)<|.tO 11 rfl (.fieldAddr rfl)<|.tO 12 rfl (.bo rfl)<|.tO 14 rfl (.fieldAddr rfl)<|.tO 15 rfl (.bo rfl)<|.tO 16 rfl (.fieldAddr rfl)<|.tO 17 rfl (.bo rfl)<|.tO 19 rfl (.bj rfl)<|.tO 21 rfl (.bj rfl)<|.tO 24 rfl (.fieldAddr rfl)<|.tO 25 rfl (.bo rfl)<|.tO 26 rfl (.fieldAddr rfl)<|.tO 27 rfl (.bo rfl)<|.tO 29 rfl (.fieldAddr rfl)<|.tO 30 rfl (.fieldAddr rfl)<|.tO 31 rfl (.bo rfl)<|.tO 32 rfl (.fieldAddr rfl)<|.tO 33 rfl (.fieldAddr rfl)<|.tO 34 rfl (.bo rfl)<|.tO 36 rfl (.fieldAddr rfl)<|.tO 37 rfl (.fieldAddr rfl)<|.tO 38 rfl (.bo rfl)<|.tO 39 rfl (.fieldAddr rfl)<|.tO 40 rfl (.fieldAddr rfl)<|.tO 41 rfl (.bo rfl)<|.tO 43 rfl (.fieldAddr rfl)<|.tO 44 rfl (.bo rfl)<|.tO 45 rfl (.fieldAddr rfl)<|.tO 46 rfl (.bo rfl) ?_
 refine .sT 6 rfl ?_
 refine .aH (jB o r _) (λv d=>?_)
 subst d
 refine .nil (Next.sub ?_)
 refine .sT 13 rfl ?_
 refine .aH (jB p s _) (λv d=>?_)
 subst d
 refine .nil (Next.sub ?_)
 refine .sT 18 rfl ?_
 refine .aH (jB q t _) (λv d=>?_)
 subst d
 refine .nil (Next.sub ?_)
 refine .sT 20 rfl ?_
 refine .aH (xP ⟨e,g,h,i⟩ _) (λv d=>?_)
 subst d
 refine .nil (Next.sub ?_)
 refine .sT 22 rfl ?_
 refine .aH (xP ⟨f,l,m,n⟩ _) (λv d=>?_)
 subst d
 refine .nil (Next.sub ?_)
 refine .sT 23 rfl ?_
 refine .aH (z8 (lg e) (lg f) _) (λv d=>?_)
 subst d
 refine .nil (Next.sub ?_)
 refine .sT 28 rfl ?_
 refine .aH (jB e f _) (λv d=>?_)
 subst d
 refine .nil (Next.sub ?_)
 refine .sT 35 rfl ?_
 refine .aH (jB g l _) (λv d=>?_)
 subst d
 refine .nil (Next.sub ?_)
 refine .sT 42 rfl ?_
 refine .aH (jB h m _) (λv d=>?_)
 subst d
 refine .nil (Next.sub ?_)
 refine .sT 47 rfl ?_
 refine .aH (jB i n _) (λv d=>?_)
 subst d
 refine .nil (Next.sub ?_)
 refine .sT 48 rfl ?_
 refine .oS [_,_,_,_,_,_,_,_] (λx=>?_)
 refine .nil (Next.sub ?_)
 refine .sT 49 rfl ?_
 refine .aH (qM _ [dy o r,dy p s,dy q t,fp (lg e) (lg f),dy e f,dy g l,dy h m,dy i n] _ (RS.lits rfl (by simp[lx]) (by simp[lx,ay]))) (λv d=>?_)
 subst d
 refine .nil (Next.sub ?_)
 refine .tO 50 rfl .assign ?_
 refine RA.nil (by kernel_rfl) ?_
 refine aG ?_
 refine .ret (aW rfl ?_)
 ·exact⟨rfl,rfl⟩
theorem tV(a b:aZ)(R:ao):Spec prog 401 [.agg a.enc.toArray,.agg b.enc.toArray] R [] λv H'=>v=.bool (fb a b)/\H'=[]:=by
 refine Spec.body func401 rfl results401 ntmps401 rfl ?_
 refine .sr ?_
 refine .cc rfl (λd=>?_)
 refine .cc rfl (λe=>?_)
 refine .ag rfl<|.z<|.q (.bj rfl)<|.q (.bj rfl) ?_
 refine .aH (P5 a b _) (λv c=>?_)
 subst c
 refine .q .lss<|.az rfl ?_
 refine .ret (aW rfl ?_)
 ·exact⟨rfl,rfl⟩
theorem lQ(b:Bool)(R:ao):Spec prog 256 [.bool b] R [] λv H'=>v=.int .i64 (if b then 0 else 9)/\H'=[]:=by
 refine Spec.body func256 rfl results256 ntmps256 rfl ?_
 refine .sr<|.ag rfl<|.zs<|.sr<|.mo rfl<|.zn ?_
 refine .cond rfl (λa=>?_) λa=>?_
 refine .sr<|.az rfl ?_
 refine .ret (aR (aW rfl ?_))
 ·exact⟨by rw[a];rfl,rfl⟩
 refine .kn<|.sr<|.az rfl ?_
 refine .ret (aW rfl ?_)
 ·exact⟨by rw[a];rfl,rfl⟩
theorem uQ(s i:ByteArray)(d:s.size<=9223372036854775807)(hi:i.size<=9223372036854775807)(R:ao):Spec prog 257 [.agg [.string s,.string i].toArray] R [] λv H'=>v=.int .i64 (if mN s i then 0 else 9)/\H'=[]:=by
 refine Spec.body func257 rfl results257 ntmps257 rfl ?_
 refine .sr ?_
 refine .cc rfl (λe=>?_)
 refine .ag rfl<|.z<|.fa rfl<|.lo rfl ?_
 refine .aH (rq s d _) (λv b=>?_)
 subst b
 refine .mo rfl ?_
 refine .split (t:=6) rfl (λa=>?_) (λa=>?_)
 have c:mN s i=fe i:=by unfold mN;rw[a];rfl
 refine .gT a<|.fa rfl<|.gT a<|.lo rfl<|.gT a ?_
 refine .aH (sA i hi _) (λv b=>?_)
 subst b
 refine .q (.bA a) ?_
 refine .aH (lQ _ _) (λv b=>?_)
 subst b
 refine .az rfl ?_
 refine .ret (aW rfl ?_)
 ·exact⟨by rw[c],rfl⟩
 have c:mN s i=false:=by unfold mN;rw[a];rfl
 refine .gF a<|.gF a<|.gF a<|.q (.bg a) ?_
 refine .aH (lQ _ _) (λv b=>?_)
 subst b
 refine .az rfl ?_
 refine .ret (aW rfl ?_)
 ·exact⟨by rw[c],rfl⟩
theorem uj(b:Bool):((if b=true then(0:Int)else 9)==0)=b:=by cases b<;>rfl
theorem zQ(s:Sub)(k:s.us.size<=9223372036854775807)(l:s.ss.size<=9223372036854775807)(m:s.si.size<=9223372036854775807)(n:s.sr.size<=9223372036854775807)(R:ao):Spec prog 259 [.agg s.enc.toArray] R [] λv H'=>v=.int .i64 (if kA s then 0 else 9)/\H'=[]:=by
 obtain⟨a,f,g,e⟩:=s
 simp only at k l m n
 refine Spec.body func259 rfl results259 ntmps259 rfl ?_
 refine .sr ?_
 refine .cc rfl (λo=>?_)
 refine .ag rfl<|.zs<|.sr<|.fa rfl<|.lo rfl<|.q .qB<|.zn ?_
 refine .cond rfl (λj=>?_) λj=>?_
 have i:¬a=⟨#[]⟩:=by simpa using j
 refine .sr<|.fa rfl<|.lo rfl ?_
 refine .aH (sA a k _) (λv c=>?_)
 subst c
 refine .mo rfl ?_
 refine .split (t:=9) rfl (λb=>?_) (λb=>?_)
 have h:kA ⟨a,f,g,e⟩=decide ((⟨a,f,g,e⟩:Sub)=⟨a,⟨#[]⟩,⟨#[]⟩,⟨#[]⟩⟩):=by
  unfold kA
  simp only
  rw[ab3 i,b,acd,ab9]
  simp[and_assoc]
 refine .gT b<|.q (.bj rfl)<|.gT b<|.fa rfl<|.gT b<|.lo rfl<|.gT b ?_
 refine .q .cC ?_
 refine .gT b<|.q (.Aq rfl rfl (Sub.kinds ⟨a,f,g,e⟩) (Sub.kinds ⟨a,⟨#[]⟩,⟨#[]⟩,⟨#[]⟩⟩)) ?_
 rw[show ek (Sub.enc ⟨a,f,g,e⟩) (bT [.string ⟨#[]⟩,.string ⟨#[]⟩,.string ⟨#[]⟩,.string ⟨#[]⟩] 0 [.string a])=_ from Sub.eq ⟨a,f,g,e⟩ ⟨a,⟨#[]⟩,⟨#[]⟩,⟨#[]⟩⟩]
 refine .q (.bA b) ?_
 refine .aH (lQ _ _) (λv c=>?_)
 subst c
 refine .az rfl ?_
 refine .ret (aR (aW rfl ?_))
 ·exact⟨by rw[h],rfl⟩
 have h:kA ⟨a,f,g,e⟩=false:=by
  unfold kA
  simp only
  rw[ab3 i,b];rfl
 refine .gF b<|.gF b<|.gF b<|.gF b<|.gF b<|.q (.bg b) ?_
 refine .aH (lQ _ _) (λv c=>?_)
 subst c
 refine .az rfl ?_
 refine .ret (aR (aW rfl ?_))
 ·exact⟨by rw[h],rfl⟩
 have i:a=⟨#[]⟩:=by simpa using j
 refine .kn<|.sr<|.fa rfl<|.q (.loadT rfl) ?_
 refine .aH (uQ f g l m _) (λv c=>?_)
 subst c
 refine .q .cG ?_
 rw[uj]
 refine .mo rfl ?_
 refine .split (t:=21) rfl (λd=>?_) (λd=>?_)
 have h:kA ⟨a,f,g,e⟩=isWord e:=by
  unfold kA
  simp only
  rw[ab2 i,d,acd]
 refine .gT d<|.fa rfl<|.gT d<|.lo rfl<|.gT d ?_
 refine .aH (rq e n _) (λv c=>?_)
 subst c
 refine .q (.bA d) ?_
 refine .aH (lQ _ _) (λv c=>?_)
 subst c
 refine .az rfl ?_
 refine .ret (aW rfl ?_)
 ·exact⟨by rw[h],rfl⟩
 have h:kA ⟨a,f,g,e⟩=false:=by
  unfold kA
  simp only
  rw[ab2 i,d];rfl
 refine .gF d<|.gF d<|.gF d<|.q (.bg d) ?_
 refine .aH (lQ _ _) (λv c=>?_)
 subst c
 refine .az rfl ?_
 refine .ret (aW rfl ?_)
 ·exact⟨by rw[h],rfl⟩
theorem zR(t:aZ)(u:t.fits)(R:ao):Spec prog 155 [.agg t.enc.toArray] R [] λv H'=>v=.int .i64 (if ie t then 0 else 9)/\H'=[]:=by
 obtain⟨i,j,k,d,e,f,g⟩:=t
 obtain⟨l,m,n,o,p,r,s⟩:=u
 simp only at l m n o p r s
 refine Spec.body func155 rfl results155 ntmps155 rfl ?_
 refine .sr ?_
 refine .cc rfl (λw=>?_)
 refine .ag rfl<|.z<|.fa rfl<|.q (.loadT rfl) ?_
 refine .aH (uQ i j l m _) (λv c=>?_)
 subst c
 refine .q .cG ?_
 rw[uj]
 refine .mo rfl ?_
 refine .split (t:=7) rfl (λb=>?_) (λb=>?_)
 refine .gT b<|.fa rfl<|.gT b<|.lo rfl<|.gT b ?_
 refine .aH (rq k n _) (λv c=>?_)
 subst c
 refine .q (.bA b) ?_
 refine .mo rfl ?_
 refine .split (t:=12) rfl (λa=>?_) (λa=>?_)
 have h:ie ⟨i,j,k,d,e,f,g⟩=kA ⟨d,e,f,g⟩:=by unfold ie;simp only;rw[b,a];rfl
 refine .gT a<|.fa rfl<|.gT a<|.q (.loadT rfl) ?_
 refine .gT a ?_
 refine .aH (zQ ⟨d,e,f,g⟩ o p r s _) (λv c=>?_)
 subst c
 refine .gT a<|.q .cG ?_
 rw[uj]
 refine .q (.bA a) ?_
 refine .aH (lQ _ _) (λv c=>?_)
 subst c
 refine .az rfl ?_
 refine .ret (aW rfl ?_)
 ·exact⟨by rw[h],rfl⟩
 have h:ie ⟨i,j,k,d,e,f,g⟩=false:=by unfold ie;simp only;rw[b,a];rfl
 refine .gF a<|.gF a<|.gF a<|.gF a<|.q (.bg a) ?_
 refine .aH (lQ _ _) (λv c=>?_)
 subst c
 refine .az rfl ?_
 refine .ret (aW rfl ?_)
 ·exact⟨by rw[h],rfl⟩
 have h:ie ⟨i,j,k,d,e,f,g⟩=false:=by unfold ie;simp only;rw[b];rfl
 refine .gF b<|.gF b<|.gF b<|.q (.bg b) ?_
 refine .mo rfl<|.gX<|.gX<|.gX<|.gX<|.q .cd ?_
 refine .aH (lQ _ _) (λv c=>?_)
 subst c
 refine .az rfl ?_
 refine .ret (aW rfl ?_)
 ·exact⟨by rw[h],rfl⟩
instance ez.wV:eJ prog 292 (λk:ez=>.agg k.enc.toArray):=eJ.agg vM underlying292 rfl ez.kinds ez.eq
instance Sub.wV:eJ prog 152 (λk:Sub=>.agg k.enc.toArray):=eJ.agg sb underlying152 rfl Sub.kinds Sub.eq
instance aZ.wV:eJ prog 154 (λk:aZ=>.agg k.enc.toArray):=eJ.agg vJ underlying154 rfl aZ.kinds aZ.eq
def jF{κ:Type} [DecidableEq κ](key:bE->κ)(k:κ)(ps:List RB):List RB:=ps.filter λx=>decide (key x.2=k)
theorem MB{κ:Type} [DecidableEq κ]{key:bE->κ}{k:κ}{ps:List RB}:ids key k ps=(jF key k ps).map (·.1):=rfl
theorem hJ.look{κ:Type} [DecidableEq κ]{encK:κ->Value}{key:bE->κ}{ps:List RB}{vm:Value}{M:List (κ×(Value×au))}{d a:au}{R:ao}(h:hJ encK key ps vm M d a)(j:∀p∈a,R p.1 p.2)(k:κ):∃p c,((bO k M).map λp:Value×au=>p.1).getD (sZ)=.slice p (ids key k ps).length c/\RS R 1 jE (.slice p (ids key k ps).length c) (ids key k ps):=by
 obtain⟨v,m,n,f,g,i,_⟩:=h.get k
 have b:RS R 1 jE v (ids key k ps):=g.rs λp l=>j p (i.mem_iff.2 (acO _ l))
 obtain⟨p,c,e⟩:=b.val
 subst e
 exact⟨p,c,f,b⟩
structure SV(R:ao)(g:Nat)(S:dI)(ps:List RB)(vf vr:Value)(Mf:List (ez×(Value×au)))(Mr:List (Sub×(Value×au))):Prop where
 pc:PC R (pT g) [.bool true,.int .u64 S.head,.int .u64 S.cx,iN ps.length,vf,vr]
 of:One vf
 or:One vr
 mf:RM R (λk:ez=>.agg k.enc.toArray) (λp:Value×au=>p.1) vf Mf
 mr:RM R (λk:Sub=>.agg k.enc.toArray) (λp:Value×au=>p.1) vr Mr
 lf:∀k,∃p c,((bO k Mf).map λp:Value×au=>p.1).getD (sZ)=.slice p (ids (λx=>x.t.er) k ps).length c/\RS R 1 jE (.slice p (ids (λx=>x.t.er) k ps).length c) (ids (λx=>x.t.er) k ps)
 lr:∀k,∃p c,((bO k Mr).map λp:Value×au=>p.1).getD (sZ)=.slice p (ids (λx=>x.t.sub) k ps).length c/\RS R 1 jE (.slice p (ids (λx=>x.t.sub) k ps).length c) (ids (λx=>x.t.sub) k ps)
 af:∀x∈ps,x.2.t.er∈Mf.map (·.1)
 nf:(Mf.map (·.1)).Nodup
 pr:∀p∈ps,PC R (.pointer (some ⟨p.1,0,none⟩)) p.2.enc
 eq:ps.map (·.2)=S.rows
theorem SV.mono{R R':ao}{g:Nat}{S:dI}{ps:List RB}{vf vr:Value}{j:List (ez×(Value×au))}{l:List (Sub×(Value×au))}(h:SV R g S ps vf vr j l)(e:∀b o,R b o->R' b o):SV R' g S ps vf vr j l:=by
 refine⟨h.pc.mono e,h.of,h.or,?_,?_,λk=>?_,λk=>?_,h.af,h.nf,λp m=>(h.pr p m).mono e,h.eq⟩
 ·obtain⟨b,f,c,a,d,i⟩:=h.mf
  exact⟨b,f,c,a,e _ _ d,i⟩
 ·obtain⟨b,f,c,a,d,i⟩:=h.mr
  exact⟨b,f,c,a,e _ _ d,i⟩
 ·obtain⟨p,c,a,d⟩:=h.lf k
  exact⟨p,c,a,d.mono e⟩
 ·obtain⟨p,c,a,d⟩:=h.lr k
  exact⟨p,c,a,d.mono e⟩
theorem SI.view{g:Nat}{S:dI}{T:au}{R:ao}(h:SI g S T)(b:∀p∈T,R p.1 p.2):∃ps vf vr Mf Mr,SV R g S ps vf vr Mf Mr:=by
 obtain⟨ps,vf,vr,Mf,Mr,j,l,f,i,rfl,c,d,e⟩:=h
 refine⟨ps,vf,vr,Mf,Mr,⟨PC.of (E:=221) (fr:=(0,0)) (b (g,_) (by simp)),c.ms.one,d.ms.one,c.ms.rm λp a=>b p (by simp[a]),d.ms.rm λp a=>b p (by simp[a]),λk=>c.look (λp a=>b p (by simp[a])) k,λk=>d.look (λp a=>b p (by simp[a])) k,c.al,c.ms.nd,λp a=>?_,e⟩⟩
 exact PC.of (E:=156) (fr:=(0,0)) (b (p.1,qT p.2) (by
  have:(p.1,qT p.2)∈mW ps:=ab6.2 ⟨p,a,rfl⟩
  simp[this]))
theorem Pu(g:Nat)(R:ao)(a b c d e:Value) [i1:One a] [i2:One b] [f:One c] [h:One d] [i:One e] [pc:PC R (pT g) [.bool true,a,b,c,d,e]]:Spec prog 125 [pT g] R [] λv H'=>v=.bool true/\H'=[]:=by
 refine Spec.body func125 rfl results125 ntmps125 rfl ?_
 refine .sr<|.ag rfl<|.z<|.mo rfl<|.q (.jX rfl rfl) ?_
 refine .mo rfl<|.gt rfl ?_
 refine .mo rfl<|.gt rfl ?_
 refine .nc rfl<|.gt rfl ?_
 refine .fa rfl<|.gt rfl ?_
 refine .lo rfl<|.q .dh<|.az rfl ?_
 refine .ret (aW rfl ?_)
 ·exact⟨rfl,rfl⟩
section
variable{R:ao}{g:Nat}{S:dI}{ps:List RB}{vf vr:Value}{Mf:List (ez×(Value×au))}{Mr:List (Sub×(Value×au))}
theorem SV.ok(h:SV R g S ps vf vr Mf Mr):Spec prog 125 [pT g] R [] λv H'=>v=.bool true/\H'=[]:=by
 have:=h.pc
 have:=h.of
 have:=h.or
 exact Pu g R _ _ _ _ _
theorem SV.head(h:SV R g S ps vf vr Mf Mr):Spec prog 54 [pT g] R [] λv H'=>v=.int .u64 S.head/\H'=[]:=by
 have d:=h.pc
 refine Spec.body func54 rfl results54 ntmps54 rfl ?_
 refine .sr<|.ag rfl<|.zs<|.sr<|.mo rfl ?_
 refine .aH (h.mono λb o a=>.inl a).ok (λv c=>?_)
 subst c
 refine .q .not<|.zn<|.bB<|.kn<|.sr<|.mo rfl<|.nc rfl<|.fa rfl<|.lo rfl<|.az rfl ?_
 refine .ret (aW rfl ?_)
 ·exact⟨rfl,rfl⟩
theorem SV.Mz(h:SV R g S ps vf vr Mf Mr):Spec prog 86 [pT g] R [] λv H'=>v=.int .u64 S.cx/\H'=[]:=by
 have d:=h.pc
 refine Spec.body func86 rfl results86 ntmps86 rfl ?_
 refine .sr<|.ag rfl<|.zs<|.sr<|.mo rfl ?_
 refine .aH (h.mono λb o a=>.inl a).ok (λv c=>?_)
 subst c
 refine .q .not<|.zn<|.bB<|.kn<|.sr<|.mo rfl<|.nc rfl<|.fa rfl<|.lo rfl<|.az rfl ?_
 refine .ret (aW rfl ?_)
 ·exact⟨rfl,rfl⟩
end
theorem NE(t:aZ)(R:ao):Spec prog 334 [.agg t.enc.toArray] R [] λv H'=>v=.agg t.er.enc.toArray/\H'=[]:=by
 obtain⟨a,b,c,d,e,f,g⟩:=t
 refine Spec.body func334 rfl results334 ntmps334 rfl ?_
 refine .sr ?_
 refine .cc rfl (λh=>?_)
 refine .cn (λi=>?_)
 refine .z<|.fa rfl<|.q (.loadT rfl) ?_
 refine .fa rfl<|.lo rfl ?_
 refine .q .cC ?_
 refine .bZ rfl rfl<|.zn ?_
 refine .ret (aO _ (.one (.ej rfl rfl)) (.none _) ?_)
 ·exact⟨rfl,rfl⟩
theorem yn(R:ao):Spec prog 111 [] R [] λv H'=>∃T,H'=[T]/\∃g,v=pT g/\SI g ⟨[],0,0⟩ T:=by
 refine Spec.body func111 rfl results111 ntmps111 rfl ?_
 refine .sr<|.ag rfl<|.z ?_
 refine .makeMap (λa=>?_)
 refine .makeMap (λb=>?_)
 refine .q .cC ?_
 refine .cc rfl (λc=>?_)
 refine .az rfl ?_
 refine .ret (aO _ (.one (.tmp rfl)) ((bG [0,1,0]).trans (bu.cu (H':=[(c,.cells [.bool true,.int .u64 0,.int .u64 0,.int .i64 0,.map (some a),.map (some b)].toArray 221 (0,0))::([(a,.map #[] 0)]++([]++([(b,.map #[] 0)]++([]++mW []))))]) (by simp[take,bf,bT,mW]))) ?_)
 ·exact⟨_,rfl,c,rfl,[],_,_,[],[],_,_,_,_,rfl,hJ.nil,hJ.nil,rfl⟩
theorem ND(t:aZ)(a:t.fits)(R:ao):Spec prog 328 [.agg t.enc.toArray] R [] λv H'=>v=.bool (!ie t)/\H'=[]:=by
 refine Spec.body func328 rfl results328 ntmps328 rfl ?_
 refine .sr ?_
 refine .cc rfl (λc=>?_)
 refine .ag rfl<|.z<|.q (.bj rfl) ?_
 refine .aH (zR t a _) (λv b=>?_)
 subst b
 refine .q .cb<|.az rfl ?_
 refine .ret (aW rfl ?_)
 ·refine⟨acv _ ?_,rfl⟩
  cases ie t<;>rfl
def uk(ps:List RB)(S:dI)(t:aZ)(u:Value):Prop:=(∃b x,(b,x)∈ps/\x.jH t=true/\u=pT b)\/(iD S.rows t=false/\u=.pointer none)
theorem uk.ptr{ps:List RB}{S:dI}{t:aZ}{u:Value}(h:uk ps S t u)(d:ps.map (·.2)=S.rows):∃o,u=.pointer o/\iD S.rows t= !o.isNone:=by
 rcases h with⟨b,x,a,c,rfl⟩|⟨a,rfl⟩
 ·exact⟨_,rfl,by rw[iD,ac1.2 ⟨x,d▸ab6.2 ⟨_,a,rfl⟩,c⟩];rfl⟩
 ·exact⟨_,rfl,by rw[a];rfl⟩
theorem uo(g:Nat)(S:dI)(T:au)(h:SI g S T)(x:bE)(p:S.rows.length<=5000)(R:ao):
  Spec prog 266 [pT g,.agg x.enc.toArray] R [T] λu H'=>∃T',H'=[T']/\u=.tuple #[]/\SI g ⟨S.rows++[x],S.head,S.cx⟩ T':=by
 obtain⟨a,e,f,U,V,r,v,W,X,rfl,c,d,o⟩:=h
 obtain⟨vk,j,k,G,H,I,J⟩:=c.get x.t.er
 obtain⟨wk,m,n,K,L,M,N⟩:=d.get x.t.sub
 have a5:=c.ms.one
 have a6:=d.ms.one
 have a4:a.length<=5000:=by rw[<-o,acJ]at p;exact p
 have a2:(ids (λx=>x.t.er) x.t.er a).length<=a.length:=by rw[ids,acJ];exact ac3 _ _
 have a3:(ids (λx=>x.t.sub) x.t.sub a).length<=a.length:=by rw[ids,acJ];exact ac3 _ _
 refine Spec.N9 (H':=[bl g [.bool true,.int .u64 S.head,.int .u64 S.cx,iN a.length,e,f] 221,r,j,k,v,m,n,mW a]) ?_ ?_
 ·simp only[acs,acy,ach,acX,List.nil_append]
  refine .cons _ (.append_left _ ?_)
  rw[<-acu j]
  refine .append I (.append_left _ ?_)
  rw[<-acu m]
  exact .append_right _ M
 refine Spec.body func266 rfl results266 ntmps266 rfl ?_
 refine .sr ?_
 refine .cc rfl (λb=>?_)
 refine .z<|.ag rfl<|.z<|.fa rfl<|.q (.loadT rfl) ?_
 refine .aH (NE x.t _) (λu F=>?_)
 subst F
 refine .cn (λb5=>?_)
 refine .bZ rfl rfl<|.zs<|.cq [7,9,11] mixed ?_
 refine .tO 0 rfl .move<|.tO 1 rfl (.nilCheck rfl)<|.tO 2 rfl (.fieldAddr rfl)<|.tO 3 rfl (.bo rfl)<|.tO 4 rfl (.bj rfl)<|.tO 5 rfl .move ?_
 refine .sT 6 rfl ?_
 refine .lq (λa0=>?_)
 refine .nil (Next.sub ?_)
 refine .sT 7 rfl ?_
 refine .mapEntry (key:=x.t.er) (u0:=(sZ,[])) c.ms rfl rfl rfl (λY s1 y=>?_)
 rw[G]
 refine .nil (Next.mod rfl ?_)
 refine .tK 8 rfl .extract<|.tK 10 rfl .extract ?_
 refine .sT 9 rfl ?_
 refine .append H (RS.lits (xs:=[b]) rfl (by simp[jE]) (by simp[jE,ay])) (by simp;omega) (λO i D=>?_)
 refine .nil (Next.mod rfl ?_)
 refine .sT 11 rfl ?_
 refine .entryStore (u:=(O,i)) y rfl rfl rfl (λs B=>?_)
 refine .nil (Next.mod rfl ?_)
 refine RA.nil (by kernel_rfl) ?_
 refine aG<|.seq<|.cq [9,11,13] mixed ?_
 refine .tO 0 rfl .move<|.tO 1 rfl (.nilCheck rfl)<|.tO 2 rfl (.fieldAddr rfl)<|.tO 3 rfl (.bo rfl)<|.tO 4 rfl (.fieldAddr rfl)<|.tO 5 rfl (.fieldAddr rfl) ?_
 refine .tO 6 rfl (.loadT rfl) ?_
 refine .tO 7 rfl .move ?_
 refine .sT 8 rfl ?_
 refine .lq (λa1=>?_)
 refine .nil (Next.sub ?_)
 refine .sT 9 rfl ?_
 refine .mapEntry (key:=x.t.sub) (u0:=(sZ,[])) d.ms rfl rfl rfl (λZ s2 A=>?_)
 rw[K]
 refine .nil (Next.mod rfl ?_)
 refine .tK 10 rfl .extract<|.tK 12 rfl .extract ?_
 refine .sT 11 rfl ?_
 refine .append L (RS.lits (xs:=[b]) rfl (by simp[jE]) (by simp[jE,ay])) (by simp;omega) (λQ l E=>?_)
 refine .nil (Next.mod rfl ?_)
 refine .sT 13 rfl ?_
 refine .entryStore (u:=(Q,l)) A rfl rfl rfl (λw C=>?_)
 refine .nil (Next.mod rfl ?_)
 refine RA.nil (by kernel_rfl) ?_
 refine aG<|.region<|.mo rfl<|.nc rfl<|.fa rfl<|.lo rfl ?_
 refine .ia (a.length+1) .add ?_
 refine .nc rfl<|.fa rfl<|.ca rfl rfl<|.nil ?_
 refine dc _ .none ((bG [4,4,4,4,4,4,4,4,3]).trans (bu.cu (H':=[(g,.cells [.bool true,.int .u64 S.head,.int .u64 S.cx,.int .i64 ((a++[(b,x)]).length:Nat),e,f].toArray 221 (0,0))::(s++((i++k)++(w++((l++n)++mW (a++[(b,x)])))))]) (by simp[take,bf,bT,mW,qT]))) ?_
 ·exact⟨_,rfl,rfl,a++[(b,x)],e,f,_,_,_,_,_,_,rfl,c.add B D (J _ _).symm,d.add C E (N _ _).symm,by simp[o]⟩
theorem SI.cells{g:Nat}{S:dI}{T:au}(h:SI g S T):∃n vf vr Rest,One vf/\One vr/\T=(g,.cells [.bool true,.int .u64 S.head,.int .u64 S.cx,.int .i64 n,vf,vr].toArray 221 (0,0))::Rest/\∀head cx,SI g ⟨S.rows,head,cx⟩ ((g,.cells [.bool true,.int .u64 head,.int .u64 cx,.int .i64 n,vf,vr].toArray 221 (0,0))::Rest):=by
 obtain⟨l,vf,vr,c,d,i,j,e,f,rfl,a,b,k⟩:=h
 exact⟨_,vf,vr,_,a.ms.one,b.ms.one,rfl,λhead cx=>⟨l,vf,vr,c,d,i,j,e,f,rfl,a,b,k⟩⟩
abbrev NP:Type:=Value×(dl×List ByteArray)
def gd(p:NP):List Value:=[.string p.2.1.1,.string p.2.1.2,p.1]
def lm(R:ao)(p:NP):Prop:=RS R 1 bL p.1 p.2.2
theorem lm.mono{R R':ao}{p:NP}(h:lm R p)(a:∀b o,R b o->R' b o):lm R' p:=RS.mono h a
theorem lm.bU{R:ao}{p:NP}(h:lm R p):∀u∈gd p,ay u=true:=by
 have b:=h.ay.h
 intro u a
 simp only[gd,acm,acI,or_false]at a
 rcases a with rfl|rfl|rfl<;>first|rfl|assumption
def rC(p:NP):Prop:=∀u∈gd p,ay u=true
def gG(a b:dl):Int:=et [dy a.1 b.1,dy a.2 b.2]
def mQ(p q:NP):Int:=gG p.2.1 q.2.1
theorem rn:eH gG:=eH.cons (kZ.map λp:dl=>p.1) (eH.cons (kZ.map λp:dl=>p.2) eH.nil)
theorem Nv:eH mQ:=rn.map λp:NP=>p.2.1
theorem uA(p q:NP)(R:ao)(b:rC p)(c:rC q):Spec prog 174 [.agg (gd p).toArray,.agg (gd q).toArray] R [] λv H'=>v=.int .i64 (mQ p q)/\H'=[]:=by
 have g:bI (gd p):=⟨b⟩
 have h:bI (gd q):=⟨c⟩
 refine Spec.body func174 rfl results174 ntmps174 rfl ?_
 refine .sr ?_
 refine .cc rfl (λe=>?_)
 refine .cc rfl (λf=>?_)
 refine .ag rfl<|.zs<|.cq [] mixed ?_
 refine .tO 0 rfl (.fieldAddr rfl)<|.tO 1 rfl (.bo rfl)<|.tO 2 rfl (.fieldAddr rfl)<|.tO 3 rfl (.bo rfl)<|.tO 5 rfl (.fieldAddr rfl)<|.tO 6 rfl (.bo rfl)<|.tO 7 rfl (.fieldAddr rfl)<|.tO 8 rfl (.bo rfl) ?_
 refine .sT 4 rfl ?_
 refine .aH (jB p.2.1.1 q.2.1.1 _) (λv a=>?_)
 subst a
 refine .nil (Next.sub ?_)
 refine .sT 9 rfl ?_
 refine .aH (jB p.2.1.2 q.2.1.2 _) (λv a=>?_)
 subst a
 refine .nil (Next.sub ?_)
 refine .sT 10 rfl ?_
 refine .oS [_,_] (λd=>?_)
 refine .nil (Next.sub ?_)
 refine .sT 11 rfl ?_
 refine .aH (qM _ [dy p.2.1.1 q.2.1.1,dy p.2.1.2 q.2.1.2] _ (RS.lits rfl (by simp[lx]) (by simp[lx,ay]))) (λv a=>?_)
 subst a
 refine .nil (Next.sub ?_)
 refine .tO 12 rfl .assign ?_
 refine RA.nil (by kernel_rfl) ?_
 refine aG ?_
 refine .ret (aW rfl ?_)
 ·exact⟨rfl,rfl⟩
def rB(p:GP):Prop:=∀u∈dZ p,ay u=true
def o0(p q:GP):Int:=dy p.2.text q.2.text
theorem Mj(p q:GP)(R:ao)(a:rB p)(b:rB q):Spec prog 177 [.agg (dZ p).toArray,.agg (dZ q).toArray] R [] λv H'=>v=.int .i64 (o0 p q)/\H'=[]:=by
 have f:bI (dZ p):=⟨a⟩
 have g:bI (dZ q):=⟨b⟩
 refine Spec.body func177 rfl results177 ntmps177 rfl ?_
 refine .sr ?_
 refine .cc rfl (λd=>?_)
 refine .cc rfl (λe=>?_)
 refine .ag rfl<|.z<|.fa rfl<|.lo rfl<|.fa rfl<|.lo rfl ?_
 refine .aH (jB p.2.text q.2.text _) (λv c=>?_)
 subst c
 refine .az rfl ?_
 refine .ret (aW rfl ?_)
 ·exact⟨rfl,rfl⟩
theorem qw(p q:GP):aM o0 p q=cw p.2.text q.2.text:=by
 unfold aM o0
 rw[ab9,kh,ab5]
theorem Mi:SO (aM o0):=⟨λx=>by rw[qw];exact kJ.eK _,λx y z a b=>by rw[qw]at *;exact kJ.tr _ _ _ a b,λx y z a b=>by rw[qw]at *;exact kJ.fJ _ _ _ a b⟩
def rF(p:TP):Prop:=∀u∈dL p,ay u=true
def pO(p q:TP):Int:=dy p.2.text q.2.text
theorem P4(p q:TP)(R:ao)(a:rF p)(b:rF q):Spec prog 182 [.agg (dL p).toArray,.agg (dL q).toArray] R [] λv H'=>v=.int .i64 (pO p q)/\H'=[]:=by
 have f:bI (dL p):=⟨a⟩
 have g:bI (dL q):=⟨b⟩
 refine Spec.body func182 rfl results182 ntmps182 rfl ?_
 refine .sr ?_
 refine .cc rfl (λd=>?_)
 refine .cc rfl (λe=>?_)
 refine .ag rfl<|.z<|.fa rfl<|.lo rfl<|.fa rfl<|.lo rfl ?_
 refine .aH (jB p.2.text q.2.text _) (λv c=>?_)
 subst c
 refine .az rfl ?_
 refine .ret (aW rfl ?_)
 ·exact⟨rfl,rfl⟩
theorem qx(p q:TP):aM pO p q=cw p.2.text q.2.text:=by
 unfold aM pO
 rw[ab9,kh,ab5]
theorem P3:SO (aM pO):=⟨λx=>by rw[qx];exact kJ.eK _,λx y z a b=>by rw[qx]at *;exact kJ.tr _ _ _ a b,λx y z a b=>by rw[qx]at *;exact kJ.fJ _ _ _ a b⟩
theorem xW{α:Type}{r:α->α->Prop}(e:∀x y z,r x y->r y z->r x z):∀{L:List α},(∀(i:Nat) (x y:α),L[i]? =some x->L[i+1]? =some y->r x y)->L.Pairwise r
 |[],_=>List.Pairwise.nil
 |[x],_=>List.pairwise_singleton _ _
 |x::y::L,h=>by
  have d:=xW e (L:=y::L) λi a b f g=>h (i+1) a b f g
  have c:r x y:=h 0 x y rfl rfl
  refine List.Pairwise.cons (λz hz=>?_) d
  rcases acm.1 hz with rfl|hz
  ·exact c
  ·exact e _ _ _ c (List.rel_of_pairwise_cons d hz)
def jY(f:Nat->Bool)(n:Nat):Bool:=(List.range n).all f
theorem qJ{f:Nat->Bool}{i:Nat}:jY f (i+1)=(jY f i&&f i):=by unfold jY;rw[List.range_succ,List.all_append];simp
theorem xy{f:Nat->Bool}{n i:Nat}(h:jY f n=true)(hi:i<n):f i=true:=List.all_eq_true.1 h i (List.mem_range.2 hi)
theorem NF{f:Nat->Bool}{n i:Nat}(h:f i=false)(hi:i<n):jY f n=false:=acz.2 λa=>by rw[xy a hi]at h;cases h
end Go.Proofs.YtocjmmbldeljnaaGreatDoor
