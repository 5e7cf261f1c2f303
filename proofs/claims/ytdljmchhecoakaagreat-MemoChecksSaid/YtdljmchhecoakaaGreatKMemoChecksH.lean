/- What the law 'MemoChecks' uses. No condition. -/
import Derived.Test.YtdljmchhecoakaaGreatKMemoChecksA
import Derived.Test.YtdljmchhecoakaaGreatKMemoChecksB
import Derived.Test.YtdljmchhecoakaaGreatKMemoChecksF
import Derived.Test.YtdljmchhecoakaaGreatKMemoChecksG
namespace Go.Proofs.YtdljmchhecoakaaGreat
set_option linter.defProp false
def aco:=@if_neg
def acp:=@if_pos
def acq:=@List.mem_map
def acr:=@trivial
def acs:=@congrArg
def acu:=@decide_eq_true_eq
def acv:=@Bool.and_eq_true
def acw:=@List.map_cons
def acx:=@Bool.or_eq_true
def acy:=@List.getElem?_map
def acz:=@List.mem_cons_self
def acA:=@List.mem_filter
def acB:=@List.length_map
def acC:=@Nat.le_refl
def acD:=@List.mem_singleton
def acE:=@List.map_append
def acF:=@List.mem_cons_of_mem
def acG:=@List.mem_cons
def acH:=@Nat.lt_or_ge
def acI:=@List.mem_append
def acJ:=@Nat.le_trans
def acK:=@Bool.eq_iff_iff
def acL:=@List.getElem?_eq_some_iff
def acM:=@Nat.zero_le
def acN:=@dif_pos
def acO:=@List.getD_eq_getElem?_getD
def acP:=@List.any_eq_true
def acQ:=@Option.bind_some
def acR:=@if_true
def acS:=@Option.map_some
def acT:=@List.foldr_cons
def acU:=@beq_iff_eq
def acV:=@List.mem_iff_getElem
def acW:=@Bool.false_or
def acX:=@List.length_cons
def acY:=@Option.some.injEq
def acZ:=@List.take_add_one
def ac0:=@List.filter_append
def ac1:=@List.pairwise_map
def ac2:=@List.filter_cons
def ac3:=@UInt8.not_lt
def ac4:=@Bool.true_or
def ac5:=@List.map_nil
def ac6:=@List.getElem?_append_left
def ac7:=@List.mem_flatMap
def ac8:=@List.length_filter_le
def ac9:=@UInt8.lt_irrefl
def ada:=@Bool.true_and
def adb:=@decide_eq_true
def ade:=@List.append_assoc
def adf:=@List.length_set
def adg:=@List.nodup_cons
def adh:=@List.mem_append_left
def adi:=@List.mem_append_right
def adj:=@Bool.not_eq_true'
def adk:=@List.countP_cons
def adl:=@List.map_congr_left
def adm:=@List.length_append
def adn:=@List.any_eq_false
def ado:=@List.append_nil
def adp:=@Bool.or_false
def adq:=@List.nodup_append
def adr:=@List.ext_getElem?
def ads:=@List.getElem?_set
def adt:=@List.foldl_cons
def adu:=@Bool.false_eq_true
def adv:=@List.getD_cons_zero
def adw:=@List.getD_cons_succ
def adx:=@List.filter_eq_nil_iff
def ady:=@List.flatMap_append
def adz:=@List.take_length
def adA:=@UInt8.le_antisymm
def adB:=@List.mem_or_eq_of_mem_set
def adC:=@Nat.lt_succ_self
def adD:=@List.mem_range'_1
def adE:=@decide_eq_false_iff_not
def adF:=@List.cons_append
def adG:=@List.flatten_cons
def adH:=@List.flatMap_cons
def adI:=@List.not_mem_nil
def adJ:=@List.take_sublist
def adK:=@List.filter_eq_self
def adL:=@List.perm_append_comm
def adM:=@List.length_take
def adN:=@List.findIdx?_eq_some_iff_getElem
open Tryz
set_option linter.unusedVariables false
theorem Spec.zJ{P:Program}{f:FuncId}{a:List Value}{v:Value}(h:∀w,Calls P f a.toArray w λe w'=>e=.returned v/\w'=w)(R:aA):Spec P f a R [] λu H'=>u=v/\H'=[]:=
 λw _ _=>(h w).mono λe w' ⟨c,b⟩=>⟨v,[],c,⟨rfl,rfl⟩,by subst b;exact⟨by simp,by simp⟩,by subst b;exact .refl _ _⟩
def fC(a b:ByteArray):Int:=Lib.compareBytes a.data.toList b.data.toList
theorem xi:∀(a b:List UInt8),Lib.compareBytes a b<0↔Op.bytesLess a b=true
 |[],[]=>by simp[Lib.compareBytes,Op.bytesLess]
 |[],_::_=>by simp[Lib.compareBytes,Op.bytesLess]
 |_::_,[]=>by simp[Lib.compareBytes,Op.bytesLess]
 |x::a,y::b=>by
  have f:=xi a b
  simp only[Lib.compareBytes,Op.bytesLess,acx,acv,acu,acU]
  by_cases c:x<y
  ·simp[c]
  ·by_cases d:y<x
   ·have:x≠y:=λe=>by subst e;exact ac9 _ d
    simp[c,d,this]
   ·have:x=y:=adA (ac3.1 d) (ac3.1 c)
    subst this
    simp[c,f]
theorem xh:∀(a b:List UInt8),0<Lib.compareBytes a b↔Op.bytesLess b a=true
 |[],[]=>by simp[Lib.compareBytes,Op.bytesLess]
 |[],_::_=>by simp[Lib.compareBytes,Op.bytesLess]
 |_::_,[]=>by simp[Lib.compareBytes,Op.bytesLess]
 |x::a,y::b=>by
  have f:=xh a b
  simp only[Lib.compareBytes,Op.bytesLess,acx,acv,acu,acU]
  by_cases c:x<y
  ·have d:¬y<x:=λh=>ac9 _ (UInt8.lt_trans c h)
   have:¬y=x:=λe=>by subst e;exact ac9 _ c
   simp[c,d,this]
  ·by_cases d:y<x
   ·simp[c,d]
   ·have:x=y:=adA (ac3.1 d) (ac3.1 c)
    subst this
    simp[c,f]
theorem xg:∀(a b:List UInt8),Lib.compareBytes a b=0↔a=b
 |[],[]=>by simp[Lib.compareBytes]
 |[],_::_=>by simp[Lib.compareBytes]
 |_::_,[]=>by simp[Lib.compareBytes]
 |x::a,y::b=>by
  have f:=xg a b
  simp only[Lib.compareBytes,List.cons.injEq]
  by_cases c:x<y
  ·have:¬x=y:=λe=>by subst e;exact ac9 _ c
   simp[c,this]
  ·by_cases d:y<x
   ·have:¬x=y:=λe=>by subst e;exact ac9 _ d
    simp[c,d,this]
   ·have:x=y:=adA (ac3.1 d) (ac3.1 c)
    subst this
    simp[c,f]
theorem w5:∀(a b c:List UInt8),Op.bytesLess a b=true->Op.bytesLess b c=true->Op.bytesLess a c=true
 |_,[],_,h,_=>by simp[Op.bytesLess]at h
 |_,_::_,[],_,h=>by simp[Op.bytesLess]at h
 |[],_::_,_::_,_,_=>by simp[Op.bytesLess]
 |x::a,y::b,z::c,h1,h2=>by
  simp only[Op.bytesLess,acx,acv,acu,acU]at h1 h2⊢
  rcases h1 with h1|⟨rfl,h1⟩
  ·rcases h2 with h2|⟨rfl,h2⟩
   ·exact .inl (UInt8.lt_trans h1 h2)
   ·exact .inl h1
  ·rcases h2 with h2|⟨rfl,h2⟩
   ·exact .inl h2
   ·exact .inr ⟨rfl,w5 a b c h1 h2⟩
theorem ox{a b:ByteArray}:hJ a b=true↔fC a b<0:=by
 unfold hJ fC;rw[ByteArray.toList_eq,ByteArray.toList_eq,xi]
theorem qT{a b:ByteArray}:hJ b a=true↔0<fC a b:=by
 unfold hJ fC;rw[ByteArray.toList_eq,ByteArray.toList_eq,xh]
theorem pN{a b:ByteArray}:fC a b=0↔a=b:=by
 unfold fC
 rw[xg]
 exact⟨λh=>ByteArray.ext (Array.toList_inj.1 h),λh=>by rw[h]⟩
theorem PF(a:ByteArray):hJ a a=false:=by
 cases h:hJ a a with
 |false=>rfl
 |true=>have:=ox.1 h;rw[pN.2 rfl]at this;omega
theorem vI{a b c:ByteArray}(d:hJ a b=true)(e:hJ b c=true):hJ a c=true:=by
 unfold hJ at *;exact w5 _ _ _ d e
theorem PE{a b:ByteArray}(c:hJ a b=false)(d:hJ b a=false):a=b:=by
 refine pN.1 ?_
 rcases Int.lt_trichotomy (fC a b) 0 with h|h|h
 ·rw[ox.2 h]at c;cases c
 ·exact h
 ·rw[qT.2 h]at d;cases d
theorem PH:SO hJ:=⟨PF,λ_ _ _=>vI,λx y z b a=>by
 cases h:hJ x z with
 |false=>rfl
 |true=>
  cases h3:hJ y x with
  |true=>rw[vI h3 h]at a;cases a
  |false=>have:=PE b h3;subst this;rw[h]at a;cases a⟩
theorem nU(a b:ByteArray)(R:aA):Spec prog 261 [.string a,.string b] R [] λv H'=>v=.int .i64 (fC a b)/\H'=[]:=
 Spec.zJ (QB a b) R
def kw(a b:Int):Int:=if a<b then-1 else if b<a then 1 else 0
def gB:List Int->Int
 |[]=>0
 |x::l=>if x=0 then gB l else x
def tR(x:Int):List Value:=[.int .i64 x]
def jW(s:ByteArray):List Value:=[.string s]
instance Rr(s:ByteArray)(l:List ByteArray):Decidable (s∈l):=decidable_of_iff (l.any (λx=>decide (x=s))=true) (by simp)
instance RD:eF prog 9 (λs:ByteArray=>.string s):=eF.str rJ tX
theorem zT{l:List Int}{i:Nat}(h:∀j x,j<i->l[j]? =some x->x=0):gB l=gB (l.drop i):=by
 induction i generalizing l with
 |zero=>simp
 |succ i ih=>
  cases l with
  |nil=>simp
  |cons x l=>
   have:x=0:=h 0 x (by omega) rfl
   subst this
   simp only[gB,acR,List.drop_succ_cons]
   exact ih λj x b a=>h (j+1) x (by omega) (by simpa using a)
theorem Og(v:Value)(l:List Int)(R:aA)(h:RS R 1 tR v l):Spec prog 260 [v] R [] λu H'=>u=.int .i64 (gB l)/\H'=[]:=by
 have p:=h.le
 refine Spec.body func260 rfl results260 ntmps260 rfl<|.sr<|.ag rfl<|.z<|.ag rfl<|.zs<|.sr<|.mo rfl<|.q (.bK h)<|.mo rfl<|.zn<|.block<|.loop (X:=Nat) (λi=>i<=l.length/\∀j x,j<i->l[j]? =some x->x=0) (λi=>[(3,.int .i64 0),(6,v),(7,.int .i64 l.length),(8,iN i)]) (λ_=>[]) (λi=>l.length-i) 0 ⟨by omega,by omega⟩ kE.c.c.c.c rH ?_
 rintro i ⟨m,g⟩
 refine .sr<|.q .lss<|.zs<|.cond rfl (λb=>?_) λb=>?_
 have e:i<l.length:=by simp at b;omega
 obtain⟨z,a⟩:=ca e
 refine .kn<|.seq<|.block<|.sr ?_
 refine .bF i h a (λr=>?_)
 refine .lo rfl<|.ag rfl<|.z<|.mo rfl<|.mo rfl<|.q .de<|.zn<|.cond rfl (λd=>?_) λd=>?_
 refine .sr<|.mo rfl<|.az rfl<|.ret (bA (aJ (cW (bA (aJ (aP rfl ?_))))))
 ·refine⟨?_,rfl⟩
  have k:z≠0:=by simpa using d
  rw[zT g,List.drop_eq_getElem_cons e]
  rw[bk e]at a
  cases a
  simp[gB,k]
 refine .skip<|ba<|au<|.region<|.q (.inc (n:=i) (by omega))<|.mo rfl<|.nil ?_
 ·exact bp (i+1) ⟨by omega,λj x o f=>by
   rcases acH j i with hh|hh
   ·exact g j x hh f
   ·obtain rfl:j=i:=by omega
    rw[a]at f;cases f;simpa using d⟩ (by omega) kE.c.c.c.c rH
 refine .exit<|bD<|bG<|bE<|au<|.sr<|.mo rfl<|.az rfl<|.ret (aP rfl ?_)
 ·refine⟨?_,rfl⟩
  have:i=l.length:=by simp at b;omega
  rw[zT g,this];simp[gB]
set_option maxRecDepth 4000
def short(s:ByteArray)(n:Nat):ByteArray:=if n<s.size then s.extract 0 n else s
theorem Qb{s:ByteArray}{n:Nat}:(short s n).size<=n:=by
 unfold short
 split
 ·rw[ByteArray.size_extract];omega
 ·omega
theorem Qc(s:ByteArray)(n:Nat)(R:aA):Spec prog 39 [.string s,.int .i64 n] R [] λv H'=>v=.string (short s n)/\H'=[]:=by
 refine Spec.body func39 rfl results39 ntmps39 rfl<|.sr<|.ag rfl<|.zs<|.sr<|.mo rfl<|.q .mi<|.mo rfl<|.q .gtr<|.zn<|.cond rfl (λa=>?_) λa=>?_
 refine .sr<|.mo rfl<|.mo rfl ?_
 have b:n<s.size:=by simp at a;omega
 refine .q (.Qf (s:=s) 0 n rfl ⟨_,rfl⟩ (by omega) (by omega))<|.az rfl<|.ret (aJ (aP rfl ?_))
 ·exact⟨by unfold short;rw[acp (by simp at a;omega)],rfl⟩
 refine .kn<|.sr<|.mo rfl<|.az rfl<|.ret (aP rfl ?_)
 ·exact⟨by unfold short;rw[aco (by simp at a;omega)],rfl⟩
def kN(s:ByteArray)(p:Int->Bool):Bool:=s.data.toList.all λc=>p (c.toNat:Int)
theorem tz{s:ByteArray}{p:Int->Bool}(h:∀j (hj:j<s.size),p (s[j]'hj).toNat=true):kN s p=true:=by
 unfold kN
 rw[List.all_eq_true]
 intro c a
 obtain⟨j,hj,rfl⟩:=acV.1 a
 exact h j (by simpa using hj)
theorem tx{s:ByteArray}{p:Int->Bool}{j:Nat}(a:j<s.size)(h:p (s[j]'a).toNat=false):kN s p=false:=by
 unfold kN
 rw[List.all_eq_false]
 refine⟨s[j],?_,by rw[h];simp⟩
 have:s[j]=s.data.toList[j]'(by simpa using a):=by simp[ByteArray.getElem_eq_getElem_data]
 rw[this]
 exact List.getElem_mem _
def fD(z:Int):Bool:=decide (97<=z)&&decide (z<=122)
def gI(z:Int):Bool:=(decide (48<=z)&&decide (z<=57))||z==95
def gm(z:Int):Bool:=fD z||gI z||(decide (65<=z)&&decide (z<=90))||z==46||z==45
def jM(z:Int):Bool:=fD z||gI z
def iG(s:ByteArray):Bool:=kN s gm&&decide (1<=s.size)&&decide (s.size<=32)
def kB(s:ByteArray):Bool:=decide (s=⟨#[117,115,101,114]⟩)||decide (s=⟨#[116,104,105,115]⟩)||decide (s=⟨#[110,97,109,101,115,112,97,99,101]⟩)||decide (s=⟨#[114,101,108,97,116,105,111,110]⟩)||decide (s=⟨#[115,99,111,112,101]⟩)
def isWord(s:ByteArray):Bool:= !kB s&&(kN s jM&&decide (1<=s.size)&&decide (s.size<=32))&&(if h:0<s.size then fD (s[0]'h).toNat else false)
theorem vR(z:Int)(R:aA):Spec prog 135 [.int .u8 z] R [] λv H'=>v=.bool (fD z)/\H'=[]:=by
 refine Spec.body func135 rfl results135 ntmps135 rfl<|.sr<|.ag rfl<|.z<|.mo rfl<|.q .geq<|.mo rfl<|.split (t:=5) rfl (λa=>?_) (λa=>?_)
 refine .gT a<|.mo rfl<|.gT a<|.q .leq<|.q (.aU a)<|.az rfl<|.ret (aP rfl ?_)
 ·exact⟨by simp_all[fD]<;>omega,rfl⟩
 refine .gF a<|.gF a<|.q (.aN a)<|.az rfl<|.ret (aP rfl ?_)
 ·exact⟨by simp_all[fD]<;>omega,rfl⟩
theorem yn(z:Int)(R:aA):Spec prog 136 [.int .u8 z] R [] λv H'=>v=.bool (gI z)/\H'=[]:=by
 refine Spec.body func136 rfl results136 ntmps136 rfl<|.sr<|.ag rfl<|.z<|.mo rfl<|.q .geq<|.mo rfl<|.split (t:=5) rfl (λa=>?_) (λa=>?_)
 refine .gT a<|.mo rfl<|.gT a<|.q .leq<|.q (.aU a)<|.mo rfl<|.split (t:=9) rfl (λb=>?_) (λb=>?_)
 refine .gF b<|.gF b<|.q (.aU b)<|.az rfl<|.ret (aP rfl ?_)
 ·exact⟨by simp_all[gI]<;>omega,rfl⟩
 refine .gT b<|.mo rfl<|.gT b<|.q .cr<|.q (.aN b)<|.az rfl<|.ret (aP rfl ?_)
 ·exact⟨by simp_all[gI]<;>omega,rfl⟩
 refine .gF a<|.gF a<|.q (.aN a)<|.mo rfl<|.gt rfl<|.mo rfl<|.gt rfl<|.q .cr<|.q .dq<|.az rfl<|.ret (aP rfl ?_)
 ·exact⟨by simp_all[gI]<;>omega,rfl⟩
theorem MC(z:Int)(R:aA):Spec prog 134 [.int .u8 z] R [] λv H'=>v=.bool (gm z)/\H'=[]:=by
 refine Spec.body func134 rfl results134 ntmps134 rfl<|.sr<|.ag rfl<|.z<|.mo rfl<|.aQ (vR z _) (λv f=>?_)
 subst f
 refine .mo rfl<|.split (t:=5) rfl (λd=>?_) (λd=>?_)
 refine .gF d<|.gF d<|.q (.aU d)<|.mo rfl<|.gX<|.gX<|.gX<|.dB rfl<|.dB rfl<|.gX<|.q .dj<|.mo rfl<|.gX<|.gX<|.q .dj<|.mo rfl<|.gX<|.gX<|.q .dj<|.az rfl<|.ret (aP rfl ?_)
 ·exact⟨by simp_all[gm]<;>omega,rfl⟩
 refine .gT d<|.mo rfl<|.gT d<|.aQ (yn z _) (λv f=>?_)
 subst f
 refine .q (.aN d)<|.mo rfl<|.split (t:=9) rfl (λb=>?_) (λb=>?_)
 refine .gF b<|.gF b<|.gF b<|.dB rfl<|.dB rfl<|.gF b<|.q (.aU b)<|.mo rfl<|.gX<|.gX<|.q .dj<|.mo rfl<|.gX<|.gX<|.q .dj<|.az rfl<|.ret (aP rfl ?_)
 ·exact⟨by simp_all[gm]<;>omega,rfl⟩
 refine .gT b<|.mo rfl<|.gT b<|.q .geq<|.gT b<|.mo rfl<|.split (t:=12) rfl (λe=>?_) (λe=>?_)
 refine .gT e<|.mo rfl<|.gT e<|.q .leq<|.gT b<|.q (.aU e)<|.q (.aN b)<|.mo rfl<|.split (t:=17) rfl (λc=>?_) (λc=>?_)
 refine .gF c<|.gF c<|.q (.aU c)<|.mo rfl<|.gX<|.gX<|.q .dj<|.az rfl<|.ret (aP rfl ?_)
 ·exact⟨by simp_all[gm]<;>omega,rfl⟩
 refine .gT c<|.mo rfl<|.gT c<|.q .cr<|.q (.aN c)<|.mo rfl<|.split (t:=21) rfl (λa=>?_) (λa=>?_)
 refine .gF a<|.gF a<|.q (.aU a)<|.az rfl<|.ret (aP rfl ?_)
 ·exact⟨by simp_all[gm]<;>omega,rfl⟩
 refine .gT a<|.mo rfl<|.gT a<|.q .cr<|.q (.aN a)<|.az rfl<|.ret (aP rfl ?_)
 ·exact⟨by simp_all[gm]<;>omega,rfl⟩
 refine .gF e<|.gF e<|.gT b<|.q (.aN e)<|.q (.aN b)<|.mo rfl<|.gt rfl<|.mo rfl<|.gt rfl<|.q .cr<|.q .dq<|.mo rfl<|.split (t:=21) rfl (λa=>?_) (λa=>?_)
 refine .gF a<|.gF a<|.q (.aU a)<|.az rfl<|.ret (aP rfl ?_)
 ·exact⟨by simp_all[gm]<;>omega,rfl⟩
 refine .gT a<|.mo rfl<|.gT a<|.q .cr<|.q (.aN a)<|.az rfl<|.ret (aP rfl ?_)
 ·exact⟨by simp_all[gm]<;>omega,rfl⟩
theorem Rh(z:Int)(R:aA):Spec prog 225 [.int .u8 z] R [] λv H'=>v=.bool (jM z)/\H'=[]:=by
 refine Spec.body func225 rfl results225 ntmps225 rfl<|.sr<|.ag rfl<|.z<|.mo rfl<|.aQ (vR z _) (λv b=>?_)
 subst b
 refine .mo rfl<|.split (t:=5) rfl (λa=>?_) (λa=>?_)
 refine .gF a<|.gF a<|.q (.aU a)<|.az rfl<|.ret (aP rfl ?_)
 ·exact⟨by simp_all[jM]<;>omega,rfl⟩
 refine .gT a<|.mo rfl<|.gT a<|.aQ (yn z _) (λv b=>?_)
 subst b
 refine .q (.aN a)<|.az rfl<|.ret (aP rfl ?_)
 ·exact⟨by simp_all[jM]<;>omega,rfl⟩
theorem wU(s:ByteArray)(f:FuncId) [e:aT prog f](p:Int->Bool)(m:∀z R,Spec prog f [.int .u8 z] R [] λv H'=>v=.bool (p z)/\H'=[])(w:s.size<=9223372036854775807)(R:aA):
  Spec prog 133 [.string s,.func (.func f) #[] #[]] R [] λv H'=>v=.bool (kN s p&&decide (1<=s.size)&&decide (s.size<=32))/\H'=[]:=by
 refine Spec.body func133 rfl results133 ntmps133 rfl<|.sr<|.ag rfl<|.zs<|.sr<|.mo rfl<|.q .mi<|.mo rfl<|.zn<|.block<|.loop (X:=Nat) (λi=>i<=s.size/\∀j (b:j<s.size),j<i->p (s[j]'b).toNat=true) (λi=>[(0,.string s),(1,.func (.func f) #[] #[]),(7,iN s.size),(8,iN i)]) (λ_=>[]) (λi=>s.size-i) 0 ⟨by omega,by omega⟩ kE.c.c.c.c rH ?_
 rintro i ⟨r,l⟩
 refine .sr<|.q .lss<|.zs<|.cond rfl (λd=>?_) λd=>?_
 have h:i<s.size:=by simp at d;omega
 refine .kn<|.seq<|.block<|.sr<|.mo rfl<|.ag rfl<|.z<|.mo rfl<|.mo rfl<|.mo rfl<|.q (.oZ i h)<|.gx (first:=[]) (captured:=[]) (vs:=[.int .u8 (s[i]'h).toNat]) (m _ _) (λv o=>?_)
 subst o
 refine .q .not<|.zn<|.cond rfl (λg=>?_) λg=>?_
 refine .sr<|.az rfl<|.ret (bA (aJ (cW (bA (aJ (aP rfl ?_))))))
 ·have:=tx h (p:=p) (by simpa using g)
  exact⟨by simp[this],rfl⟩
 refine .skip<|ba<|au<|.region<|.q (.inc (n:=i) (by omega))<|.mo rfl<|.nil ?_
 ·exact bp (i+1) ⟨by omega,λj b u=>by
   rcases acH j i with hh|hh
   ·exact l j b hh
   ·obtain rfl:j=i:=by omega
    simpa using g⟩ (by omega) kE.c.c.c.c rH
 have k:kN s p=true:=tz λj b=>l j b (by simp at d;omega)
 refine .exit<|bD<|bG<|bE<|au<|.sr<|.mo rfl<|.q .mi<|.q .geq<|.mo rfl<|.split (t:=21) rfl (λa=>?_) (λa=>?_)
 refine .gT a<|.mo rfl<|.gT a<|.q .mi<|.gT a<|.q .leq<|.q (.aU a)<|.az rfl<|.ret (aP rfl ?_)
 ·exact⟨by rw[Value.bool.injEq,acK];simp[k]at *;omega,rfl⟩
 refine .gF a<|.gF a<|.gF a<|.q (.aN a)<|.az rfl<|.ret (aP rfl ?_)
 ·exact⟨by rw[Value.bool.injEq,acK];simp[k]at *;omega,rfl⟩
theorem uv(s:ByteArray)(a:s.size<=9223372036854775807)(R:aA):Spec prog 74 [.string s] R [] λv H'=>v=.bool (iG s)/\H'=[]:=by
 refine Spec.body func74 rfl results74 ntmps74 rfl<|.sr<|.ag rfl<|.z<|.mo rfl<|.aQ (wU s 134 gm MC a _) (λv b=>?_)
 subst b
 refine .az rfl<|.ret (aP rfl ?_)
 ·exact⟨rfl,rfl⟩
theorem lq(s:ByteArray)(j:s.size<=9223372036854775807)(R:aA):Spec prog 173 [.string s] R [] λv H'=>v=.bool (isWord s)/\H'=[]:=by
 refine Spec.body func173 rfl results173 ntmps173 rfl<|.sr<|.ag rfl<|.zs<|.sr<|.mo rfl<|.zn<|.block<|.seq<|.sr<|.q .fb<|.az rfl ?_
 refine bu.cut (X:=Unit) (λ_=>True) (λ_=>[(0,.string s),(4,.bool (kB s))]) (λ_=>[]) ?_ ?_
 refine .cond rfl (λb=>?_) λb=>?_
 refine .skip ?_
 ·refine aD () acr ?_ rH
  (simp only[kB,b,ac4];exact kE.c.c)
 refine .sr<|.q .fb<|.az rfl<|.cond rfl (λd=>?_) λd=>?_
 refine .skip ?_
 ·refine aD () acr ?_ rH
  (simp only[kB,b,d,acW,ac4];exact kE.c.c)
 refine .sr<|.q .fb<|.az rfl<|.cond rfl (λe=>?_) λe=>?_
 refine .skip ?_
 ·refine aD () acr ?_ rH
  (simp only[kB,b,d,e,acW,ac4];exact kE.c.c)
 refine .sr<|.q .fb<|.az rfl<|.cond rfl (λf=>?_) λf=>?_
 refine .skip ?_
 ·refine aD () acr ?_ rH
  (simp only[kB,b,d,e,f,acW];exact kE.c.c)
 refine .region<|.q .fb<|.ag rfl<|.nil ?_
 ·refine aD () acr ?_ rH
  (simp only[kB,b,d,e,f,acW];exact kE.c.c)
 intro x k
 refine au<|.cond rfl (λg=>?_) λg=>?_
 refine .sr<|.az rfl<|.ret (bA (aJ (aP rfl ?_)))
 ·refine⟨?_,rfl⟩
  (simp[isWord,g];done)
 refine .skip<|ba<|au<|.sr<|.mo rfl<|.aQ (wU s 225 jM Rh j _) (λv h=>?_)
 subst h
 refine .mo rfl<|.split (t:=12) rfl (λa=>?_) (λa=>?_)
 refine .gT a<|.mo rfl<|.gT a ?_
 have i:0<s.size:=by simp at a;omega
 refine .q (.oZ 0 i)<|.gT a<|.aQ (vR _ _) (λv h=>?_)
 subst h
 refine .q (.aU a)<|.az rfl<|.ret (aP rfl ?_)
 ·refine⟨?_,rfl⟩
  (rw[isWord,g,a,acN i,Bool.not_false,ada,ada])
 refine .gF a<|.gF a<|.gF a<|.q (.aN a)<|.az rfl<|.ret (aP rfl ?_)
 ·refine⟨?_,rfl⟩
  (rw[isWord,a,Bool.and_false,Bool.false_and])
theorem yS{s:ByteArray}(h:s.size<1\/32<s.size):isWord s=false:=by
 unfold isWord
 rcases h with h|h
 ·have:decide (1<=s.size)=false:=decide_eq_false (by omega)
  simp[this]
 ·have:decide (s.size<=32)=false:=decide_eq_false (by omega)
  simp[this]
theorem yR{s:ByteArray}(a:0<s.size)(h:fD (s[0]'a).toNat=false):isWord s=false:=by
 unfold isWord
 rw[acN a,h,Bool.and_false]
theorem MI{s:ByteArray}(h:kN s jM=false):isWord s=false:=by
 unfold isWord
 simp[h]
theorem MJ{s:ByteArray}(a:0<s.size)(d:s.size<=32)(e:fD (s[0]'a).toNat=true)(f:kN s jM=true):isWord s= !kB s:=by
 unfold isWord
 have b:decide (1<=s.size)=true:=adb (by omega)
 have c:decide (s.size<=32)=true:=adb d
 rw[acN a,e,f,b,c]
 simp
theorem Al(s:ByteArray)(B:s.size<=9223372036854775807)(R:aA):Spec prog 40 [.string s] R [] λv H'=>v=.bool (iG s)/\H'=[]:=by
 refine Spec.body func40 rfl results40 ntmps40 rfl<|.sr<|.ag rfl<|.zs<|.sr<|.az rfl<|.block<|.loop (X:=Nat) (λi=>i<=s.size/\∀j (o:j<s.size),j<i->gm (s[j]'o).toNat=true) (λi=>[(0,.string s),(3,iN i)]) (λ_=>[]) (λi=>s.size-i) 0 ⟨by omega,by omega⟩ kE.c.c rH ?_
 rintro i ⟨z,g⟩
 refine .seq<|.sr<|.mo rfl<|.mo rfl<|.q .mi<|.q .lss<|.zn<|.cond rfl (λp=>?_) λp=>?_
 have r:i<s.size:=by simp at p;omega
 refine .kn<|.seq<|.block<|.sr<|.mo rfl<|.mo rfl<|.q (.oZ i r)<|.az rfl ?_
 refine bu.cut (X:=Unit) (λ_=>gm (s[i]'r).toNat=true) (λ_=>[(0,.string s),(3,iN i)]) (λ_=>[]) ?_ ?_
 refine .sr<|.mo rfl<|.q .geq<|.mo rfl<|.split (t:=16) rfl (λk=>?_) (λk=>?_)
 refine .gT k<|.mo rfl<|.gT k<|.q .leq<|.q (.aU k)<|.mo rfl<|.split (t:=20) rfl (λf=>?_) (λf=>?_)
 refine .gF f<|.gF f<|.gF f<|.dB rfl<|.dB rfl<|.gF f<|.q (.aU f)<|.mo rfl<|.gX<|.gX<|.gX<|.dB rfl<|.dB rfl<|.gX<|.q .dj<|.mo rfl<|.gX<|.gX<|.q .dj<|.mo rfl<|.gX<|.gX<|.q .dj<|.mo rfl<|.gX<|.gX<|.q .dj<|.q .not<|.zn<|.dA<|.skip ?_
 ·exact aD () (by clear g;simp_all[gm,fD,gI]<;>omega) kE.c.c rH
 refine .gT f<|.mo rfl<|.gT f<|.q .geq<|.gT f<|.mo rfl<|.split (t:=23) rfl (λe=>?_) (λe=>?_)
 refine .gT e<|.mo rfl<|.gT e<|.q .leq<|.gT f<|.q (.aU e)<|.q (.aN f)<|.mo rfl<|.split (t:=28) rfl (λd=>?_) (λd=>?_)
 refine .gF d<|.gF d<|.gF d<|.dB rfl<|.dB rfl<|.gF d<|.q (.aU d)<|.mo rfl<|.gX<|.gX<|.q .dj<|.mo rfl<|.gX<|.gX<|.q .dj<|.mo rfl<|.gX<|.gX<|.q .dj<|.q .not<|.zn<|.dA<|.skip ?_
 ·exact aD () (by clear g;simp_all[gm,fD,gI]<;>omega) kE.c.c rH
 refine .gT d<|.mo rfl<|.gT d<|.q .geq<|.gT d<|.mo rfl<|.split (t:=31) rfl (λa=>?_) (λa=>?_)
 refine .gT a<|.mo rfl<|.gT a<|.q .leq<|.gT d<|.q (.aU a)<|.q (.aN d)<|.mo rfl<|.split (t:=36) rfl (λb=>?_) (λb=>?_)
 refine .gF b<|.gF b<|.q (.aU b)<|.mo rfl<|.gX<|.gX<|.q .dj<|.mo rfl<|.gX<|.gX<|.q .dj<|.q .not<|.zn<|.dA<|.skip ?_
 ·exact aD () (by clear g;simp_all[gm,fD,gI]<;>omega) kE.c.c rH
 refine .gT b<|.mo rfl<|.gT b<|.q .cr<|.q (.aN b)<|.mo rfl ?_
 rotate_left
 refine .gF a<|.gF a<|.gT d<|.q (.aN a)<|.q (.aN d)<|.mo rfl<|.gt rfl<|.mo rfl<|.gt rfl<|.q .cr<|.q .dq<|.mo rfl ?_
 rotate_left
 refine .gF e<|.gF e<|.gT f<|.q (.aN e)<|.q (.aN f)<|.mo rfl<|.gt rfl<|.mo rfl<|.gt rfl<|.q .geq<|.gt rfl<|.mo rfl<|.split (t:=31) rfl (λa=>?_) (λa=>?_)
 refine .gT a<|.mo rfl<|.gT a<|.q .leq<|.gt rfl<|.q (.aU a)<|.q .dq<|.mo rfl<|.split (t:=36) rfl (λb=>?_) (λb=>?_)
 refine .gF b<|.gF b<|.q (.aU b)<|.mo rfl<|.gX<|.gX<|.q .dj<|.mo rfl<|.gX<|.gX<|.q .dj<|.q .not<|.zn<|.dA<|.skip ?_
 ·exact aD () (by clear g;simp_all[gm,fD,gI]<;>omega) kE.c.c rH
 refine .gT b<|.mo rfl<|.gT b<|.q .cr<|.q (.aN b)<|.mo rfl ?_
 rotate_left
 refine .gF a<|.gF a<|.gt rfl<|.q (.aN a)<|.q .dq<|.mo rfl<|.gt rfl<|.mo rfl<|.gt rfl<|.q .cr<|.q .dq<|.mo rfl ?_
 rotate_left
 refine .gF k<|.gF k<|.q (.aN k)<|.mo rfl<|.gt rfl<|.mo rfl<|.gt rfl<|.q .geq<|.gt rfl<|.mo rfl<|.split (t:=23) rfl (λe=>?_) (λe=>?_)
 refine .gT e<|.mo rfl<|.gT e<|.q .leq<|.gt rfl<|.q (.aU e)<|.q .dq<|.mo rfl<|.split (t:=28) rfl (λd=>?_) (λd=>?_)
 refine .gF d<|.gF d<|.gF d<|.dB rfl<|.dB rfl<|.gF d<|.q (.aU d)<|.mo rfl<|.gX<|.gX<|.q .dj<|.mo rfl<|.gX<|.gX<|.q .dj<|.mo rfl<|.gX<|.gX<|.q .dj<|.q .not<|.zn<|.dA<|.skip ?_
 ·exact aD () (by clear g;simp_all[gm,fD,gI]<;>omega) kE.c.c rH
 refine .gT d<|.mo rfl<|.gT d<|.q .geq<|.gT d<|.mo rfl<|.split (t:=31) rfl (λa=>?_) (λa=>?_)
 refine .gT a<|.mo rfl<|.gT a<|.q .leq<|.gT d<|.q (.aU a)<|.q (.aN d)<|.mo rfl<|.split (t:=36) rfl (λb=>?_) (λb=>?_)
 refine .gF b<|.gF b<|.q (.aU b)<|.mo rfl<|.gX<|.gX<|.q .dj<|.mo rfl<|.gX<|.gX<|.q .dj<|.q .not<|.zn<|.dA<|.skip ?_
 ·exact aD () (by clear g;simp_all[gm,fD,gI]<;>omega) kE.c.c rH
 refine .gT b<|.mo rfl<|.gT b<|.q .cr<|.q (.aN b)<|.mo rfl ?_
 rotate_left
 refine .gF a<|.gF a<|.gT d<|.q (.aN a)<|.q (.aN d)<|.mo rfl<|.gt rfl<|.mo rfl<|.gt rfl<|.q .cr<|.q .dq<|.mo rfl ?_
 rotate_left
 refine .gF e<|.gF e<|.gt rfl<|.q (.aN e)<|.q .dq<|.mo rfl<|.gt rfl<|.mo rfl<|.gt rfl<|.q .geq<|.gt rfl<|.mo rfl<|.split (t:=31) rfl (λa=>?_) (λa=>?_)
 refine .gT a<|.mo rfl<|.gT a<|.q .leq<|.gt rfl<|.q (.aU a)<|.q .dq<|.mo rfl<|.split (t:=36) rfl (λb=>?_) (λb=>?_)
 refine .gF b<|.gF b<|.q (.aU b)<|.mo rfl<|.gX<|.gX<|.q .dj<|.mo rfl<|.gX<|.gX<|.q .dj<|.q .not<|.zn<|.dA<|.skip ?_
 ·exact aD () (by clear g;simp_all[gm,fD,gI]<;>omega) kE.c.c rH
 refine .gT b<|.mo rfl<|.gT b<|.q .cr<|.q (.aN b)<|.mo rfl ?_
 rotate_left
 refine .gF a<|.gF a<|.gt rfl<|.q (.aN a)<|.q .dq<|.mo rfl<|.gt rfl<|.mo rfl<|.gt rfl<|.q .cr<|.q .dq<|.mo rfl ?_
 rotate_left
 intro y x
 refine ba<|au<|.region<|.mo rfl<|.q (.inc (n:=i) (by omega))<|.ag rfl<|.nil ?_
 ·exact bp (i+1) ⟨by omega,λj o A=>by
   rcases acH j i with hh|hh
   ·exact g j o hh
   ·obtain rfl:j=i:=by omega
    exact x⟩ (by omega) kE.c.c rH
 have u:kN s gm=true:=tz λj o=>g j o (by simp at p;omega)
 refine .exit<|bD<|bG<|bE<|au<|.sr<|.mo rfl<|.q .mi<|.q .geq<|.mo rfl<|.split (t:=52) rfl (λh=>?_) (λh=>?_)
 refine .gT h<|.mo rfl<|.gT h<|.q .mi<|.gT h<|.q .leq<|.q (.aU h)<|.az rfl<|.ret (aP rfl ?_)
 ·refine⟨?_,rfl⟩
  (rw[iG,u,Value.bool.injEq,acK];simp at h⊢;omega)
 refine .gF h<|.gF h<|.gF h<|.q (.aN h)<|.az rfl<|.ret (aP rfl ?_)
 ·refine⟨?_,rfl⟩
  (rw[iG,u,Value.bool.injEq,acK];simp at h⊢;omega)
 all_goals
  refine .split (t:=40) rfl (λl=>?_) (λl=>?_)
  refine .gF l<|.gF l<|.q (.aU l)<|.mo rfl<|.gX<|.gX<|.q .dj<|.q .not<|.zn<|.dA<|.skip ?_
  ·exact aD () (by clear g;simp_all[gm,fD,gI]<;>omega) kE.c.c rH
  refine .gT l<|.mo rfl<|.gT l<|.q .cr<|.q (.aN l)<|.mo rfl<|.split (t:=44) rfl (λm=>?_) (λm=>?_)
  refine .gF m<|.gF m<|.q (.aU m)<|.q .not<|.zn<|.dA<|.skip ?_
  ·exact aD () (by clear g;simp_all[gm,fD,gI]<;>omega) kE.c.c rH
  refine .gT m<|.mo rfl<|.gT m<|.q .cr<|.q (.aN m)<|.q .not<|.zn<|.cond rfl (λw=>?_) λw=>?_
  refine .sr<|.az rfl<|.ret (pa (bA (aJ (cW (bA (aJ (aP rfl ?_)))))))
  ·refine⟨?_,rfl⟩
   (rw[iG,tx r (by clear g;simp_all[gm,fD,gI]<;>omega)];rfl)
  refine .skip ?_
  ·exact aD () (by clear g;simp_all[gm,fD,gI]<;>omega) kE.c.c rH
theorem ke(s:ByteArray)(I:s.size<=9223372036854775807)(R:aA):Spec prog 137 [.string s] R [] λv H'=>v=.bool (isWord s)/\H'=[]:=by
 refine Spec.body func137 rfl results137 ntmps137 rfl<|.sr<|.ag rfl<|.zs<|.sr<|.mo rfl<|.q .mi<|.q .lss<|.mo rfl<|.split (t:=8) rfl (λe=>?_) (λe=>?_)
 refine .gF e<|.gF e<|.gF e<|.q (.aU e)<|.mo rfl<|.gX<|.gX<|.gX<|.q .dj<|.mo rfl<|.gX<|.gX<|.gX<|.q .dj<|.zn<|.gL<|.sr<|.az rfl<|.ret (aJ (aP rfl ?_))
 ·refine⟨?_,rfl⟩
  (rw[yS (by simp at e;omega)])
 refine .gT e<|.mo rfl<|.gT e<|.q .mi<|.gT e<|.q .gtr<|.q (.aN e)<|.mo rfl<|.split (t:=13) rfl (λf=>?_) (λf=>?_)
 refine .gF f<|.gF f<|.gF f<|.q (.aU f)<|.mo rfl<|.gX<|.gX<|.gX<|.q .dj<|.zn<|.gL<|.sr<|.az rfl<|.ret (aJ (aP rfl ?_))
 ·refine⟨?_,rfl⟩
  (rw[yS (by simp at f;omega)])
 have r:0<s.size:=by simp at e;omega
 refine .gT f<|.mo rfl<|.gT f<|.q (.oZ 0 r)<|.gT f<|.q .lss<|.q (.aN f)<|.mo rfl<|.split (t:=18) rfl (λg=>?_) (λg=>?_)
 refine .gF g<|.gF g<|.gF g<|.q (.aU g)<|.zn<|.gL<|.sr<|.az rfl<|.ret (aJ (aP rfl ?_))
 ·refine⟨?_,rfl⟩
  (rw[yR r (by simp_all[fD]<;>omega)])
 refine .gT g<|.mo rfl<|.gT g<|.q (.oZ 0 r)<|.gT g<|.q .gtr<|.q (.aN g)<|.zn<|.cond rfl (λA=>?_) λA=>?_
 refine .sr<|.az rfl<|.ret (aJ (aP rfl ?_))
 ·refine⟨?_,rfl⟩
  (rw[yR r (by simp_all[fD]<;>omega)])
 have D:0<s.size/\s.size<=32:=by simp at e f;omega
 have F:fD (s[0]'r).toNat=true:=by simp at g A;simp[fD];omega
 refine .kn<|.seq<|.sr<|.az rfl<|.block<|.loop (X:=Nat) (λi=>i<=s.size/\∀j (u:j<s.size),j<i->jM (s[j]'u).toNat=true) (λi=>[(0,.string s),(3,iN i)]) (λ_=>[]) (λi=>s.size-i) 0 ⟨by omega,by omega⟩ kE.c.c rH ?_
 rintro i ⟨G,p⟩
 refine .seq<|.sr<|.mo rfl<|.mo rfl<|.q .mi<|.q .lss<|.zn<|.cond rfl (λx=>?_) λx=>?_
 have z:i<s.size:=by simp at x;omega
 refine .kn<|.seq<|.block<|.sr<|.mo rfl<|.mo rfl<|.q (.oZ i z)<|.az rfl ?_
 refine bu.cut (X:=Unit) (λ_=>jM (s[i]'z).toNat=true) (λ_=>[(0,.string s),(3,iN i)]) (λ_=>[]) ?_ ?_
 refine .sr<|.mo rfl<|.q .geq<|.mo rfl<|.split (t:=34) rfl (λh=>?_) (λh=>?_)
 refine .gT h<|.mo rfl<|.gT h<|.q .leq<|.q (.aU h)<|.mo rfl<|.split (t:=38) rfl (λd=>?_) (λd=>?_)
 refine .gF d<|.gF d<|.gF d<|.dB rfl<|.dB rfl<|.gF d<|.q (.aU d)<|.mo rfl<|.gX<|.gX<|.q .dj<|.q .not<|.zn<|.dA<|.skip ?_
 ·exact aD () (by clear p;simp_all[jM,fD,gI]<;>omega) kE.c.c rH
 refine .gT d<|.mo rfl<|.gT d<|.q .geq<|.gT d<|.mo rfl<|.split (t:=41) rfl (λb=>?_) (λb=>?_)
 refine .gT b<|.mo rfl<|.gT b<|.q .leq<|.gT d<|.q (.aU b)<|.q (.aN d)<|.mo rfl<|.split (t:=46) rfl (λa=>?_) (λa=>?_)
 refine .gF a<|.gF a<|.q (.aU a)<|.q .not<|.zn<|.dA<|.skip ?_
 ·exact aD () (by clear p;simp_all[jM,fD,gI]<;>omega) kE.c.c rH
 refine .gT a<|.mo rfl<|.gT a<|.q .cr<|.q (.aN a) ?_
 rotate_left
 refine .gF b<|.gF b<|.gT d<|.q (.aN b)<|.q (.aN d)<|.mo rfl<|.gt rfl<|.mo rfl<|.gt rfl<|.q .cr<|.q .dq ?_
 rotate_left
 refine .gF h<|.gF h<|.q (.aN h)<|.mo rfl<|.gt rfl<|.mo rfl<|.gt rfl<|.q .geq<|.gt rfl<|.mo rfl<|.split (t:=41) rfl (λb=>?_) (λb=>?_)
 refine .gT b<|.mo rfl<|.gT b<|.q .leq<|.gt rfl<|.q (.aU b)<|.q .dq<|.mo rfl<|.split (t:=46) rfl (λa=>?_) (λa=>?_)
 refine .gF a<|.gF a<|.q (.aU a)<|.q .not<|.zn<|.dA<|.skip ?_
 ·exact aD () (by clear p;simp_all[jM,fD,gI]<;>omega) kE.c.c rH
 refine .gT a<|.mo rfl<|.gT a<|.q .cr<|.q (.aN a) ?_
 rotate_left
 refine .gF b<|.gF b<|.gt rfl<|.q (.aN b)<|.q .dq<|.mo rfl<|.gt rfl<|.mo rfl<|.gt rfl<|.q .cr<|.q .dq ?_
 rotate_left
 intro y E
 refine ba<|au<|.region<|.mo rfl<|.q (.inc (n:=i) (by omega))<|.ag rfl<|.nil ?_
 ·exact bp (i+1) ⟨by omega,λj u H=>by
   rcases acH j i with hh|hh
   ·exact p j u hh
   ·obtain rfl:j=i:=by omega
    exact E⟩ (by omega) kE.c.c rH
 have C:kN s jM=true:=tz λj u=>p j u (by simp at x;omega)
 have w:=MJ r D.2 F C
 refine .exit<|bD<|bG<|bE<|au<|.sr<|.mo rfl<|.q .iJ<|.mo rfl<|.split (t:=53) rfl (λm=>?_) (λm=>?_)
 refine .gT m<|.mo rfl<|.gT m<|.q .iJ<|.q (.aU m)<|.mo rfl<|.split (t:=57) rfl (λo=>?_) (λo=>?_)
 refine .gT o<|.mo rfl<|.gT o<|.q .iJ<|.q (.aU o)<|.mo rfl<|.split (t:=61) rfl (λk=>?_) (λk=>?_)
 refine .gT k<|.mo rfl<|.gT k<|.q .iJ<|.q (.aU k)<|.mo rfl<|.split (t:=65) rfl (λl=>?_) (λl=>?_)
 refine .gT l<|.mo rfl<|.gT l<|.q .iJ<|.q (.aU l)<|.az rfl<|.ret (aP rfl ?_)
 ·refine⟨?_,rfl⟩
  (rw[w];simp_all[kB])
 refine .gF l<|.gF l<|.q (.aN l)<|.az rfl<|.ret (aP rfl ?_)
 ·refine⟨?_,rfl⟩
  (rw[w];simp_all[kB])
 refine .gF k<|.gF k<|.q (.aN k)<|.mo rfl<|.gX<|.gX<|.q .dq<|.az rfl<|.ret (aP rfl ?_)
 ·refine⟨?_,rfl⟩
  (rw[w];simp_all[kB])
 refine .gF o<|.gF o<|.q (.aN o)<|.mo rfl<|.gX<|.gX<|.q .dq<|.mo rfl<|.gX<|.gX<|.q .dq<|.az rfl<|.ret (aP rfl ?_)
 ·refine⟨?_,rfl⟩
  (rw[w];simp_all[kB])
 refine .gF m<|.gF m<|.q (.aN m)<|.mo rfl<|.gX<|.gX<|.q .dq<|.mo rfl<|.gX<|.gX<|.q .dq<|.mo rfl<|.gX<|.gX<|.q .dq<|.az rfl<|.ret (aP rfl ?_)
 ·refine⟨?_,rfl⟩
  (rw[w];simp_all[kB])
 all_goals
  refine .q .not<|.zn<|.cond rfl (λB=>?_) λB=>?_
  refine .sr<|.az rfl<|.ret (pa (bA (aJ (cW (bA (aJ (aP rfl ?_)))))))
  ·refine⟨?_,rfl⟩
   (rw[MI (tx z (by clear p;simp_all[jM,fD,gI]<;>omega))])
  refine .skip ?_
  ·exact aD () (by clear p;simp_all[jM,fD,gI]<;>omega) kE.c.c rH
structure gn{α:Type}(c:α->α->Int):Prop where
 sw:∀x y,c x y<0↔0<c y x
 tr:∀x y z,c x y<=0->c y z<=0->c x z<=0
 tl:∀x y z,c x y<0->c y z<=0->c x z<0
section
variable{α β:Type}{c d:α->α->Int}
theorem gn.refl(h:gn c)(x:α):c x x=0:=by have:=h.sw x x;omega
theorem gn.Rp(h:gn c){x y:α}(a:c x y=0):c y x=0:=by have b:=h.sw x y;have d:=h.sw y x;omega
theorem gn.t2(h:gn c)(x y z:α)(a:c x y<=0)(b:c y z<0):c x z<0:=by
 have d:=h.tr x y z a (by omega)
 rcases Int.lt_or_eq_of_le d with h4|h4
 ·exact h4
 ·have f:=h.Rp h4
  have e:=h.tl y z x b (by omega)
  have g:=(h.sw y x).1 e
  omega
theorem gn.map(h:gn c)(f:β->α):gn (λx y=>c (f x) (f y)):=⟨λx y=>h.sw _ _,λx y z=>h.tr _ _ _,λx y z=>h.tl _ _ _⟩
theorem gn.so(h:gn c):SO (bW c) where
 jZ x:=by unfold bW;rw[h.refl];rfl
 tr x y z a b:=by
  unfold bW at *
  have a:=cL a
  have b:=cL b
  exact adb (h.tl x y z a (by omega))
 la x y z a b:=by
  unfold bW at *
  have a:=bI a
  have b:=bI b
  refine decide_eq_false λf=>?_
  have d:c y x<=0:=by have:=h.sw y x;have:=h.sw x y;omega
  have e:c z y<=0:=by have:=h.sw y z;have:=h.sw z y;omega
  have g:=h.tr z y x e d
  have i:=(h.sw x z).1 f
  omega
theorem nA(a:Int)(l:List Int):gB (a::l)=if a=0 then gB l else a:=rfl
theorem gn.nil:gn (λ_ _:α=>gB []):=⟨λx y=>by simp[gB],λx y z _ _=>by simp[gB],λx y z h _=>by simp[gB]at h⟩
theorem gn.cons{L:α->α->List Int}(d:gn c)(g:gn λa b=>gB (L a b)):gn (λa b=>gB (c a b::L a b)) where
 sw x y:=by
  simp only[nA]
  have e:=d.sw x y
  have f:=d.sw y x
  have s:=g.sw x y
  split<;>split<;>omega
 tr x y z e f:=by
  simp only[nA]at *
  have h:=d.tr x y z
  have i:=d.tl x y z
  have j:=d.t2 x y z
  have k:=g.tr x y z
  have l:=d.tr z y x
  have m:=d.sw x y
  have n:=d.sw y x
  have o:=d.sw z y
  have p:=d.sw y z
  have q:=d.sw x z
  have r:=d.sw z x
  split<;>(try split at e)<;>(try split at f)<;>omega
 tl x y z e f:=by
  simp only[nA]at *
  have h:=d.tr x y z
  have i:=d.tl x y z
  have j:=d.t2 x y z
  have k:=g.tl x y z
  have l:=d.tr z y x
  have m:=d.sw x y
  have n:=d.sw y x
  have o:=d.sw z y
  have p:=d.sw y z
  have q:=d.sw x z
  have r:=d.sw z x
  split<;>(try split at e)<;>(try split at f)<;>omega
theorem nB{a:Int}{l:List Int}(h:gB (a::l)=0):a=0/\gB l=0:=by
 rw[nA]at h
 split at h
 ·rename_i b;exact⟨b,h⟩
 ·omega
end
theorem oz:gn fC where
 sw x y:=by rw[<-ox, <-qT]
 tr x y z h1 h2:=by
  have a:hJ y x=false:=Bool.eq_false_iff.2 λh=>by have:=qT.1 h;omega
  have c:hJ z y=false:=Bool.eq_false_iff.2 λh=>by have:=qT.1 h;omega
  have b:=PH.la z y x c a
  rcases Int.lt_or_le 0 (fC x z)with h|h
  ·rw[qT.2 h]at b;cases b
  ·exact h
 tl x y z h1 h2:=by
  have a:=ox.2 h1
  rcases Int.lt_or_eq_of_le h2 with h|h
  ·exact ox.1 (vI a (ox.2 h))
  ·rw[pN]at h;subst h;exact h1
theorem yO:gn kw where
 sw x y:=by unfold kw;split<;>split<;>(try split)<;>(try split)<;>omega
 tr x y z h1 h2:=by unfold kw at *;split at h1<;>split at h2<;>(try split at h1)<;>(try split at h2)<;>split<;>(try split)<;>omega
 tl x y z h1 h2:=by unfold kw at *;split at h1<;>split at h2<;>(try split at h1)<;>(try split at h2)<;>split<;>(try split)<;>omega
theorem CA{α:Type}{c:α->α->Int}(h:gn c)(f:∀x y,c x y=0->x=y){xs ys:List α}(g:ys.Perm xs)(i:xs.Pairwise λa b=>bW c b a=false)(j:ys.Pairwise λa b=>bW c b a=false):ys=xs:=by
 refine List.Perm.eq_of_pairwise (le:=λa b:α=>bW c b a=false) (λa b _ _ d e=>?_) j i g
 unfold bW at d e
 have d:=bI d
 have e:=bI e
 have:=h.sw b a
 have:=h.sw a b
 exact f a b (by omega)
structure aw where
 os:ByteArray
 oi:ByteArray
 rel:ByteArray
 us:ByteArray
 ss:ByteArray
 si:ByteArray
 sr:ByteArray
def aw.enc(t:aw):List Value:=[.string t.os,.string t.oi,.string t.rel,.string t.us,.string t.ss,.string t.si,.string t.sr]
theorem aw.kinds(t:aw):eM [.s,.s,.s,.s,.s,.s,.s] t.enc:=⟨acr,acr,acr,acr,acr,acr,acr,acr⟩
theorem aw.eq_iff(a b:aw):eI a.enc b.enc=true↔a=b:=by
 cases a;cases b
 simp only[aw.enc,eI,mB,aw.mk.injEq]
 simp
instance Ru:DecidableEq aw:=λa b=>decidable_of_iff _ (aw.eq_iff a b)
theorem aw.eq(a b:aw):eI a.enc b.enc=decide (a=b):=by rw[acK,acu];exact aw.eq_iff a b
instance aw.one(t:aw):cM t.enc:=⟨by simp[aw.enc,ay]⟩
structure Sub where
 us:ByteArray
 ss:ByteArray
 si:ByteArray
 sr:ByteArray
def Sub.enc(t:Sub):List Value:=[.string t.us,.string t.ss,.string t.si,.string t.sr]
theorem Sub.kinds(t:Sub):eM [.s,.s,.s,.s] t.enc:=⟨acr,acr,acr,acr,acr⟩
theorem Sub.eq_iff(a b:Sub):eI a.enc b.enc=true↔a=b:=by
 cases a;cases b
 simp only[Sub.enc,eI,mB,Sub.mk.injEq]
 simp
instance Rt:DecidableEq Sub:=λa b=>decidable_of_iff _ (Sub.eq_iff a b)
theorem Sub.eq(a b:Sub):eI a.enc b.enc=decide (a=b):=by rw[acK,acu];exact Sub.eq_iff a b
instance Sub.one(t:Sub):cM t.enc:=⟨by simp[Sub.enc,ay]⟩
structure aW where
 os:ByteArray
 oi:ByteArray
 rel:ByteArray
def aW.enc(t:aW):List Value:=[.string t.os,.string t.oi,.string t.rel]
theorem aW.kinds(t:aW):eM [.s,.s,.s] t.enc:=⟨acr,acr,acr,acr⟩
theorem aW.eq_iff(a b:aW):eI a.enc b.enc=true↔a=b:=by
 cases a;cases b
 simp only[aW.enc,eI,mB,aW.mk.injEq]
 simp
instance Rs:DecidableEq aW:=λa b=>decidable_of_iff _ (aW.eq_iff a b)
theorem aW.eq(a b:aW):eI a.enc b.enc=decide (a=b):=by rw[acK,acu];exact aW.eq_iff a b
instance aW.one(t:aW):cM t.enc:=⟨by simp[aW.enc,ay]⟩
def aw.sub(t:aw):Sub:=⟨t.us,t.ss,t.si,t.sr⟩
def aw.di(t:aw):aW:=⟨t.os,t.oi,t.rel⟩
def kF(u:ByteArray):Int:=if u=⟨#[]⟩then 1 else 0
def kH(a b:aw):Int:=gB [fC a.os b.os,fC a.oi b.oi,fC a.rel b.rel,kw (kF a.us) (kF b.us),fC a.us b.us,fC a.ss b.ss,fC a.si b.si,fC a.sr b.sr]
def gz(a b:aw):Bool:=decide (kH a b<0)
theorem kh:gn kH:=
 (oz.map aw.os).cons ((oz.map aw.oi).cons ((oz.map aw.rel).cons ((yO.map λt:aw=>kF t.us).cons ((oz.map aw.us).cons ((oz.map aw.ss).cons ((oz.map aw.si).cons ((oz.map aw.sr).cons .nil)))))))
theorem Bj{a b:aw}(h:kH a b=0):a=b:=by
 unfold kH at h
 obtain⟨c,h⟩:=nB h
 obtain⟨d,h⟩:=nB h
 obtain⟨e,h⟩:=nB h
 obtain⟨k,h⟩:=nB h
 obtain⟨f,h⟩:=nB h
 obtain⟨g,h⟩:=nB h
 obtain⟨i,h⟩:=nB h
 obtain⟨j,h⟩:=nB h
 rw[pN]at c d e f g i j
 cases a;cases b
 simp_all
def dd(s i:ByteArray):Bool:=isWord s&&iG i
def iH(t:Sub):Bool:=if t.us=⟨#[]⟩then dd t.ss t.si&&isWord t.sr else iG t.us&&(decide (t.ss=⟨#[]⟩)&&decide (t.si=⟨#[]⟩)&&decide (t.sr=⟨#[]⟩))
def eQ(t:aw):Bool:=dd t.os t.oi&&isWord t.rel&&iH t.sub
def gl(f t:aw):Bool:=(decide (f.os=⟨#[]⟩)||decide (f.os=t.os))&&(decide (f.oi=⟨#[]⟩)||decide (f.oi=t.oi))&&(decide (f.rel=⟨#[]⟩)||decide (f.rel=t.rel))&&(decide (f.us=⟨#[]⟩)||decide (f.us=t.us))&&(decide (f.ss=⟨#[]⟩)||decide (f.ss=t.ss))&&(decide (f.si=⟨#[]⟩)||decide (f.si=t.si))&&(decide (f.sr=⟨#[]⟩)||decide (f.sr=t.sr))
structure bQ where
 k:aW
 found:Bool
 nodes:List Nd
 number:Nat
 iC:List ByteArray
 leads:List (List Nat)
def one(c:Cf)(num:List Nat)(k:aW):bQ:=
 match bV c.all ⟨k.os,k.rel⟩with
 |none=>⟨k,false,[],0,[],[]⟩
 |some i=>⟨k,true,(c.all.map (·.2.nodes)).getD i [],num.getD i 0,[],[]⟩
theorem qK(c:Cf)(num:List Nat)(k:aW):(one c num k).k=k:=by unfold one;split<;>rfl
def lG(s:Sub)(t:Ty):Bool:=if s.us=⟨#[]⟩then(!decide (t.space=⟨#[]⟩))&&decide (t.space=s.ss)&&decide (t.rel=s.sr)else decide (t.space=⟨#[]⟩)&&decide (t.rel=⟨#[]⟩)
def allowed(c:Cf)(k:aW)(s:Sub):Bool:=
 match bV c.all ⟨k.os,k.rel⟩with
 |none=>false
 |some i=>((c.all.map (·.2.types)).getD i []).any (lG s)
section
variable(c:Cf)(num:List Nat)(sub:aW->List Sub)
def fitting(k:aW):List Sub:=(sub k).filter (allowed c k)
def kJ(k:aW):List ByteArray:=((fitting c sub k).filter λs=> !decide (s.us=⟨#[]⟩)).map (·.us)
def gD(k:aW):List Sub:=(fitting c sub k).filter λs=>decide (s.us=⟨#[]⟩)
def eC(k:aW)(n:Nd):List aW:=
 if n.kind=1 then(gD c sub k).map λs=>⟨s.ss,s.si,s.sr⟩
 else if n.kind=3 then(gD c sub ⟨k.os,k.oi,n.rel⟩).map λs=>⟨s.ss,s.si,n.ec⟩
 else if n.kind=2 then [⟨k.os,k.oi,n.rel⟩]
 else []
def iz(ps:List bQ)(k:aW):Option Nat:=ps.findIdx? λp=>decide (p.k=k)
def fp(ps:List bQ)(k:aW):List bQ×Nat:=
 match iz ps k with
 |some i=>(ps,i)
 |none=>(ps++[one c num k],ps.length)
def dO:List bQ->List aW->List bQ×List Nat
 |ps,[]=>(ps,[])
 |ps,k::ks=>((dO (fp c num ps k).1 ks).1,(fp c num ps k).2::(dO (fp c num ps k).1 ks).2)
def dC(k:aW):List bQ->List Nd->List bQ×List (List Nat)
 |ps,[]=>(ps,[])
 |ps,n::ns=>((dC k (dO c num ps (eC c sub k n)).1 ns).1,(dO c num ps (eC c sub k n)).2::(dC k (dO c num ps (eC c sub k n)).1 ns).2)
def kX(l:List Nat):Nat:=(l.foldl (λa x=>if x∈a then a else a++[x]) []).length
def eJ(ps:List bQ)(i:Nat):List bQ×Nat:=
 match ps[i]? with
 |none=>(ps,0)
 |some p=>
  ((dC c num sub p.k ps p.nodes).1.set i {p with iC:=if p.found then kJ c sub p.k else [],leads:=(dC c num sub p.k ps p.nodes).2},kX (dC c num sub p.k ps p.nodes).2.flatten)
end
section
variable{c:Cf}{num:List Nat}{sub:aW->List Sub}
theorem BH(ps:List bQ)(k:aW):∃l,(fp c num ps k).1=ps++l/\(∀p∈l,p.k=k/\p=one c num k)/\(l≠[]->k∉ps.map (·.k))/\l.length<=1:=by
 unfold fp
 split
 ·exact⟨[],by simp,by simp,by simp,by simp⟩
 ·rename_i h
  refine⟨[one c num k],rfl,λp a=>?_,λ_ b=>?_,by simp⟩
  ·rw[acD]at a
   subst a
   exact⟨qK _ _ _,rfl⟩
  ·obtain⟨p,a,e⟩:=acq.1 b
   unfold iz at h
   rw[List.findIdx?_eq_none_iff]at h
   have:=h p a
   simp[e]at this
structure Grown(c:Cf)(num:List Nat)(P:aW->Prop)(ps ps':List bQ):Prop where
 ex:∃l,ps'=ps++l/\∀p∈l,P p.k/\p=one c num p.k
 nd:(ps.map (·.k)).Nodup->(ps'.map (·.k)).Nodup
theorem Grown.refl(P:aW->Prop)(ps:List bQ):Grown c num P ps ps:=⟨⟨[],by simp,by simp⟩,λh=>h⟩
theorem Grown.trans{P:aW->Prop}{a b d:List bQ}(e:Grown c num P a b)(f:Grown c num P b d):Grown c num P a d:=by
 obtain⟨⟨l,rfl,g⟩,k⟩:=e
 obtain⟨⟨m,rfl,i⟩,n⟩:=f
 refine⟨⟨l++m,by rw[ade],λp j=>?_⟩,λh=>n (k h)⟩
 rcases acI.1 j with h|h
 ·exact g p h
 ·exact i p h
theorem Grown.mono{P d:aW->Prop}{a b:List bQ}(h:Grown c num P a b)(i:∀k,P k->d k):Grown c num d a b:=by
 obtain⟨⟨l,e,f⟩,n⟩:=h
 exact⟨⟨l,e,λp g=>⟨i _ (f p g).1,(f p g).2⟩⟩,n⟩
theorem Grown.len{P:aW->Prop}{a b:List bQ}(h:Grown c num P a b):a.length<=b.length:=by
 obtain⟨⟨l,rfl,_⟩,_⟩:=h;simp
theorem BG(ps:List bQ)(k:aW):Grown c num (· =k) ps (fp c num ps k).1:=by
 obtain⟨l,e,d,j,n⟩:=BH (c:=c) (num:=num) ps k
 refine⟨⟨l,e,λp f=>⟨(d p f).1,by rw[(d p f).1];exact(d p f).2⟩⟩,λh=>?_⟩
 rw[e,acE]
 cases l with
 |nil=>simpa using h
 |cons p m=>
  have:m=[]:=List.length_eq_zero_iff.1 (by simp only[acX]at n;omega)
  subst this
  refine adq.2 ⟨h,by simp,λa o b g=>?_⟩
  simp only[acw,ac5,acD]at g
  rw[g,(d p acz).1]
  intro i
  exact j (by simp) (i▸o)
theorem wH(ps:List bQ)(k:aW):(fp c num ps k).2<(fp c num ps k).1.length/\((fp c num ps k).1.map (·.k))[(fp c num ps k).2]? =some k:=by
 unfold fp
 split
 ·rename_i i h
  unfold iz at h
  obtain⟨a,b,_⟩:=adN.1 h
  exact⟨a,by rw[acy,bk a];simpa using b⟩
 ·exact⟨by simp,by simp[qK]⟩
theorem oM:∀(ks:List aW) (ps:List bQ),Grown c num (· ∈ks) ps (dO c num ps ks).1
 |[],ps=>.refl _ ps
 |k::ks,ps=>((BG ps k).mono λx h=>by rw[h];exact acz).trans ((oM ks _).mono λx h=>acF _ h)
theorem tu:∀(ks:List aW) (ps:List bQ),(dO c num ps ks).2.length=ks.length
 |[],_=>rfl
 |k::ks,ps=>by rw[dO];simp only[acX];rw[tu ks]
theorem lD(k:aW):∀(ns:List Nd) (ps:List bQ),Grown c num (λx=>∃n∈ns,x∈eC c sub k n) ps (dC c num sub k ps ns).1
 |[],ps=>.refl _ ps
 |n::ns,ps=>((oM _ ps).mono λx h=>⟨n,acz,h⟩).trans ((lD k ns _).mono λx ⟨m,a,h⟩=>⟨m,acF _ a,h⟩)
theorem Oa(ps:List bQ)(i:Nat):ps.length<=(eJ c num sub ps i).1.length:=by
 unfold eJ
 split
 ·exact acC _
 ·rw[adf];exact(lD _ _ _).len
structure PI(c:Cf)(num:List Nat)(U:aW->Prop)(ps:List bQ):Prop where
 nd:(ps.map (·.k)).Nodup
 u:∀p∈ps,U p.k/\p.found=(one c num p.k).found/\p.nodes=(one c num p.k).nodes/\p.number=(one c num p.k).number
theorem PI.grown{U P:aW->Prop}{a b:List bQ}(h:PI c num U a)(g:Grown c num P a b)(f:∀k,P k->U k):PI c num U b:=by
 obtain⟨⟨l,rfl,i⟩,n⟩:=g
 refine⟨n h.nd,λp hp=>?_⟩
 rcases acI.1 hp with hp|hp
 ·exact h.u p hp
 ·obtain⟨d,e⟩:=i p hp
  rw[<-e]
  exact⟨f _ d,rfl,rfl,rfl⟩
def pX(c:Cf)(num:List Nat)(sub:aW->List Sub)(U:aW->Prop):Prop:=∀k,U k->∀n∈(one c num k).nodes,∀x∈eC c sub k n,U x
theorem PI.opened{U:aW->Prop}{ps:List bQ}(h:PI c num U ps)(o:pX c num sub U)(i:Nat):PI c num U (eJ c num sub ps i).1:=by
 unfold eJ
 split
 ·exact h
 ·rename_i p a
  have v:=aR a
  obtain⟨g,x,m,y⟩:=h.u p v
  have d:=lD (c:=c) (num:=num) (sub:=sub) p.k p.nodes ps
  have b:=h.grown d λk s=>by
   obtain⟨n,t,w⟩:=s
   exact o p.k g n (m▸t) k w
  obtain⟨l,f,_⟩:=d.ex
  refine⟨?_,λq hq=>?_⟩
  ·rw[List.map_set]
   have:((dC c num sub p.k ps p.nodes).1.map (·.k)).set i p.k=(dC c num sub p.k ps p.nodes).1.map (·.k):=by
    refine adr λj=>?_
    rw[ads]
    split
    ·rename_i e
     subst e
     have r:=(acL.1 a).1
     rw[acp (by rw[f];simp;omega),f,acy,ac6 r,a]
     rfl
    ·rfl
   rw[this]
   exact b.nd
  ·rcases adB hq with hq|rfl
   ·exact b.u q hq
   ·exact⟨g,x,m,y⟩
end
theorem oo{α:Type} [DecidableEq α]:∀{l m:List α},l.Nodup->(∀x∈l,x∈m)->l.length<=m.length
 |[],_,_,_=>acM _
 |x::l,m,h,hm=>by
  obtain⟨f,g⟩:=adg.1 h
  have c:=hm x acz
  have i:=oo (m:=m.erase x) g λy d=>(List.mem_erase_of_ne (a:=y) (b:=x) (λe=>f (by rw[<-e];exact d))).2 (hm y (acF _ d))
  rw[List.length_erase_of_mem c]at i
  have:=List.length_pos_of_mem c
  simp only[acX]
  omega
theorem qG:∀(l a:List Nat),a.Nodup->(l.foldl (λa x=>if x∈a then a else a++[x]) a).Nodup/\∀x,x∈l.foldl (λa x=>if x∈a then a else a++[x]) a↔x∈a\/x∈l
 |[],a,h=>⟨h,λx=>by simp⟩
 |y::l,a,h=>by
  rw[adt]
  by_cases d:y∈a
  ·rw[acp d]
   obtain⟨b,c⟩:=qG l a h
   refine⟨b,λx=>?_⟩
   rw[c,acG]
   constructor
   ·rintro(h|h)<;>simp[h]
   ·rintro(h|rfl|h)<;>simp[*]
  ·rw[aco d]
   obtain⟨b,c⟩:=qG l (a++[y]) (adq.2 ⟨h,by simp,λu g v f=>by simp only[acD]at f;subst f;exact λe=>d (e▸g)⟩)
   refine⟨b,λx=>?_⟩
   rw[c,acI,acD,acG,or_assoc]
theorem ND{l:List Nat}{n:Nat}(h:∀x∈l,x<n):kX l<=n:=by
 obtain⟨a,b⟩:=qG l [] List.nodup_nil
 have:=oo (m:=List.range n) a λx c=>by
  rcases(b x).1 c with h3|h3
  ·cases h3
  ·exact List.mem_range.2 (h x h3)
 simpa[kX]using this
section
variable{c:Cf}{num:List Nat}{sub:aW->List Sub}
theorem wK:∀(ks:List aW) (ps:List bQ),∀x∈(dO c num ps ks).2,x<(dO c num ps ks).1.length
 |[],ps,x,hx=>by cases hx
 |k::ks,ps,x,hx=>by
  rw[dO]at hx⊢
  rcases acG.1 hx with rfl|hx
  ·exact Nat.lt_of_lt_of_le (wH ps k).1 (oM ks _).len
  ·exact wK ks _ x hx
theorem wO(k:aW):∀(ns:List Nd) (ps:List bQ),∀l∈(dC c num sub k ps ns).2,∀x∈l,x<(dC c num sub k ps ns).1.length
 |[],ps,l,hl,x,hx=>by cases hl
 |n::ns,ps,l,hl,x,hx=>by
  rw[dC]at hl⊢
  rcases acG.1 hl with rfl|hl
  ·exact Nat.lt_of_lt_of_le (wK _ ps x hx) (lD k ns _).len
  ·exact wO k ns _ l hl x hx
def opened(c:Cf)(num:List Nat)(sub:aW->List Sub)(k:aW):Nat->List bQ×Nat
 |0=>([one c num k],0)
 |i+1=>((eJ c num sub (opened c num sub k i).1 i).1,(opened c num sub k i).2+(eJ c num sub (opened c num sub k i).1 i).2)
variable{k:aW}
theorem uZ{i j:Nat}(h:i<=j):(opened c num sub k i).1.length<=(opened c num sub k j).1.length/\(opened c num sub k i).2<=(opened c num sub k j).2:=by
 induction j with
 |zero=>rw[Nat.le_zero.1 h];exact⟨acC _,acC _⟩
 |succ j ih=>
  rcases acH j i with h1|h1
  ·rw[show i=j+1 from by omega];exact⟨acC _,acC _⟩
  ·obtain⟨a,b⟩:=ih h1
   exact⟨acJ a (Oa _ _),acJ b (Nat.le_add_right _ _)⟩
theorem uY{U:aW->Prop}(a:pX c num sub U)(b:U k):∀i,PI c num U (opened c num sub k i).1
 |0=>⟨by simp[opened],λp d=>by
  simp only[opened,acD]at d
  subst d
  rw[qK]
  exact⟨b,rfl,rfl,rfl⟩⟩
 |i+1=>(uY a b i).opened a i
theorem zR{U:List aW}(a:pX c num sub (· ∈U))(b:k∈U)(i:Nat):(opened c num sub k i).1.length<=U.length:=by
 have h:=uY a b i
 have:=oo (m:=U) h.nd λx e=>by
  obtain⟨p,d,rfl⟩:=acq.1 e
  exact(h.u p d).1
 simpa using this
def sJ(c:Cf)(L:List Sub)(k:aW):List aW:=
 ((k.os,k.oi)::L.map λs=>(s.ss,s.si)).flatMap λo=>(k.rel::(L.map (·.sr)++c.all.flatMap λx=>x.2.nodes.flatMap λn=>[n.rel,n.ec])).map λr=>(⟨o.1,o.2,r⟩:aW)
theorem uN{L:List Sub}{x:aW}:x∈sJ c L k↔((x.os,x.oi)=(k.os,k.oi)\/∃s∈L,(x.os,x.oi)=(s.ss,s.si))/\(x.rel=k.rel\/(∃s∈L,x.rel=s.sr)\/∃y∈c.all,∃n∈y.2.nodes,x.rel=n.rel\/x.rel=n.ec):=by
 unfold sJ
 rw[ac7]
 constructor
 ·rintro⟨o,ho,g⟩
  obtain⟨r,hr,rfl⟩:=acq.1 g
  refine⟨?_,?_⟩
  ·rcases acG.1 ho with rfl|ho
   ·exact .inl rfl
   ·obtain⟨s,a,rfl⟩:=acq.1 ho
    exact .inr ⟨s,a,rfl⟩
  ·rcases acG.1 hr with rfl|hr
   ·exact .inl rfl
   ·rcases acI.1 hr with hr|hr
    ·obtain⟨s,a,rfl⟩:=acq.1 hr
     exact .inr (.inl ⟨s,a,rfl⟩)
    ·obtain⟨y,d,hr⟩:=ac7.1 hr
     obtain⟨n,b,hr⟩:=ac7.1 hr
     exact .inr (.inr ⟨y,d,n,b,by simpa using hr⟩)
 ·rintro⟨e,f⟩
  refine⟨(x.os,x.oi),?_,acq.2 ⟨x.rel,?_,rfl⟩⟩
  ·rcases e with h|⟨s,a,h⟩
   ·rw[h];exact acz
   ·rw[h];exact acF _ (acq.2 ⟨s,a,rfl⟩)
  ·rcases f with h|⟨s,a,h⟩|⟨y,d,n,b,h⟩
   ·rw[h];exact acz
   ·rw[h];exact acF _ (adh _ (acq.2 ⟨s,a,rfl⟩))
   ·refine acF _ (adi _ (ac7.2 ⟨y,d,ac7.2 ⟨n,b,?_⟩⟩))
    rcases h with h|h<;>simp[h]
theorem zN{n:Nd}(h:n∈(one c num k).nodes):∃y∈c.all,n∈y.2.nodes:=by
 unfold one at h
 split at h
 ·cases h
 ·rename_i i a
  simp only[acO,acy]at h
  cases hy:c.all[i]? with
  |none=>rw[hy]at h;cases h
  |some y=>
   rw[hy]at h
   exact⟨y,aR hy,h⟩
theorem sj{L:List Sub}(a:∀k,∀s∈sub k,s∈L){x:aW}{s:Sub}(h:s∈gD c sub x):s∈L:=by
 unfold gD fitting at h
 exact a x s (acA.1 (acA.1 h).1).1
theorem Ah{L:List Sub}(d:∀k,∀s∈sub k,s∈L):pX c num sub (· ∈sJ c L k):=λx h n g y a=>by
 obtain⟨z,f,e⟩:=zN g
 have i:=(uN.1 h).1
 refine uN.2 ?_
 unfold eC at a
 split at a
 ·obtain⟨s,b,rfl⟩:=acq.1 a
  exact⟨.inr ⟨s,sj d b,rfl⟩,.inr (.inl ⟨s,sj d b,rfl⟩)⟩
 ·split at a
  ·obtain⟨s,b,rfl⟩:=acq.1 a
   exact⟨.inr ⟨s,sj d b,rfl⟩,.inr (.inr ⟨z,f,n,e,.inr rfl⟩)⟩
  ·split at a
   ·rw[acD]at a
    subst a
    exact⟨i,.inr (.inr ⟨z,f,n,e,.inl rfl⟩)⟩
   ·cases a
theorem AF{L:List Sub}:k∈sJ c L k:=uN.2 ⟨.inl rfl,.inl rfl⟩
def fK(c:Cf)(num:List Nat)(sub:aW->List Sub)(k:aW)(N:Nat):Prop:=(opened c num sub k N).1.length<=N/\∀j,j<N->j<(opened c num sub k j).1.length
theorem fK.dN{N M:Nat}(h:fK c num sub k N)(a:fK c num sub k M):N=M:=by
 rcases Nat.lt_trichotomy N M with h3|h3|h3
 ·have:=a.2 N h3;have:=h.1;omega
 ·exact h3
 ·have:=h.2 M h3;have:=a.1;omega
end
structure Net where
 n:Nat
 f:Nat->Bool
 num:Nat->Nat
 ex:Nat->(Nat->Bool)->Bool
 to:Nat->Nat->Prop
structure Net.OK(G:Net):Prop where
 up:∀i,i<G.n->G.f i=true->∀v w:Nat->Bool,(∀j,G.to i j->v j=true->w j=true)->(∀j,G.to i j->G.num j<G.num i->v j=w j)->G.ex i v=true->G.ex i w=true
 dn:∀i,i<G.n->G.f i=true->∀j,G.to i j->G.num j<=G.num i
def Net.PG(G:Net)(d:Nat->Bool)(ρ:Nat->Nat):Prop:=∀i,d i=true->i<G.n/\G.f i=true/\G.ex i (λj=>d j&&(decide (G.num j<G.num i)||(decide (G.num j=G.num i)&&decide (ρ j<ρ i))))=true
def Net.Full(G:Net)(k:Nat)(d:Nat->Bool):Prop:=∀i,i<G.n->G.f i=true->G.num i<=k->G.ex i d=true->d i=true
section
variable{G:Net}(ok:G.OK)
include ok
theorem uu{d b:Nat->Bool}{ρ:Nat->Nat}{k:Nat}(h:G.PG d ρ)(e:G.Full k b)(c:∀j,G.num j<k->d j=b j):∀(m i:Nat),ρ i<m->G.num i=k->d i=true->b i=true
 |0,i,hm,_,_=>absurd hm (by omega)
 |m+1,i,hm,hk,hd=>by
  obtain⟨g,f,l⟩:=h i hd
  refine e i g f (by omega) (ok.up i g f _ _ (λj n a=>?_) (λj n o=>?_) l)
  ·simp only[acv,acx,acu]at a
   rcases a.2 with h1|h1
   ·rw[<-c j (by omega)];exact a.1
   ·exact uu h e c m j (by omega) (by omega) a.1
  ·rw[<-c j (by omega)]
   simp[o]
theorem yI{d b:Nat->Bool}{ρ ρ':Nat->Nat}(h:G.PG d ρ)(e:G.PG b ρ')(f:∀k,G.Full k d)(g:∀k,G.Full k b):∀(k j:Nat),G.num j<k->d j=b j
 |0,j,a=>absurd a (by omega)
 |k+1,j,a=>by
  have c:=yI h e f g k
  rcases acH (G.num j) k with h1|h1
  ·exact c j h1
  ·rw[acK]
   exact⟨uu ok h (g k) c _ j (adC _) (by omega),uu ok e (f k) (λj a=>(c j a).symm) _ j (adC _) (by omega)⟩
theorem wy{d:Nat->Bool}{ρ:Nat->Nat}{T i:Nat}(h:G.PG d ρ)(v:∀j,d j=true->ρ j<T)(q:i<G.n)(p:G.f i=true)(m:d i=false)(s:∀j,d j=true->G.num j<=G.num i)(w:G.ex i d=true):
  G.PG (λj=>d j||decide (j=i)) (λj=>if j=i then T else ρ j):=λj r=>by
 simp only[acx,acu]at r
 by_cases l:j=i
 ·subst l
  refine⟨q,p,ok.up j q p _ _ (λu _ a=>?_) (λu _ c=>?_) w⟩
  ·have b:u≠j:=λe=>by rw[e,m]at a;cases a
   have g:=s u a
   have k:=v u a
   simp only[a,ac4,ada,acR,aco b,acx,acu,acv]
   omega
  ·have b:u≠j:=λe=>by rw[e]at c;omega
   simp[b,c]
 ·have o:d j=true:=r.resolve_right l
  obtain⟨g,k,t⟩:=h j o
  refine⟨g,k,ok.up j g k _ _ (λu _ a=>?_) (λu _ c=>?_) t⟩
  ·simp only[acv,acx,acu]at a⊢
   have b:u≠i:=λe=>by rw[e,m]at a;cases a.1
   simp only[aco l,aco b]
   exact⟨.inl a.1,a.2⟩
  ·have b:u≠i:=λe=>by have:=s j o;rw[e]at c;omega
   simp[b,c]
theorem Bw{d:Nat->Bool}{k i:Nat}(h:G.Full k d)(o:k<G.num i):G.Full k (λj=>d j||decide (j=i)):=λj c b m l=>by
 have f:∀u,G.to j u->(d u||decide (u=i))=d u:=λu a=>by
  have:=ok.dn j c b u a
  have n:u≠i:=λe=>by rw[e]at this;omega
  simp[n]
 have g:=ok.up j c b (λu=>d u||decide (u=i)) d (λu a h=>by rw[<-f u a];exact h) (λu a _=>f u a) l
 simp[h j c b m g]
end
section
variable(G:Net)
def iV(k:Nat)(v:List Bool)(i:Nat):List Bool:=if G.f i&&decide (G.num i=k)&& !v.getD i false&&G.ex i (λj=>v.getD j false)then v.set i true else v
def nV(k:Nat)(v:List Bool):List Bool:=(List.range' 0 G.n).foldl (iV G k) v
def gg(k:Nat):Nat->List Bool->List Bool
 |0,v=>v
 |r+1,v=>gg k r (nV G k v)
def mF:Nat->Nat->List Bool->List Bool
 |0,_,v=>v
 |m+1,k,v=>mF m (k+1) (gg G k (G.n+1) v)
end
section
variable{G:Net}(ok:G.OK)
structure DS(G:Net)(k:Nat)(v:List Bool):Prop where
 len:v.length=G.n
 pg:∃ρ T,G.PG (λj=>v.getD j false) ρ/\∀j,v.getD j false=true->ρ j<T
 le:∀j,v.getD j false=true->G.num j<=k
 low:∀k',k'<k->G.Full k' λj=>v.getD j false
theorem AJ(v:List Bool)(i:Nat)(h:i<v.length):(λj=>(v.set i true).getD j false)=λj=>v.getD j false||decide (j=i):=by
 funext j
 rw[nj]
 by_cases e:i=j
 ·subst e;simp[h]
 ·rw[aco λh=>e h.1]
  simp[Ne.symm e]
include ok
theorem DS.put{k:Nat}{v:List Bool}(h:DS G k v){i:Nat}(d:i<G.n):DS G k (iV G k v i):=by
 unfold iV
 split
 ·rename_i c
  simp only[acv,acu,adj]at c
  obtain⟨⟨⟨f,g⟩,l⟩,m⟩:=c
  obtain⟨ρ,T,p,b⟩:=h.pg
  have a:=AJ v i (by rw[h.len];exact d)
  have e:∀j,(v.set i true).getD j false=(v.getD j false||decide (j=i)):=λj=>congrFun a j
  refine⟨by rw[adf];exact h.len,⟨λj=>if j=i then T else ρ j,T+1,?_,λj hj=>?_⟩,λj hj=>?_,λq o=>?_⟩
  ·rw[a];exact wy ok p b d f l (λj hj=>by rw[g];exact h.le j hj) m
  ·rw[e]at hj
   simp only[acx,acu]at hj
   simp only
   split
   ·omega
   ·have:=b j (hj.resolve_right (by assumption));omega
  ·rw[e]at hj
   simp only[acx,acu]at hj
   rcases hj with hj|rfl
   ·exact h.le j hj
   ·omega
  ·rw[a];exact Bw ok (h.low q o) (by omega)
 ·exact h
omit ok in
theorem CM{k:Nat}{v:List Bool}{i:Nat}(h:iV G k v i=v)(e:i<v.length):G.f i=true->G.num i=k->G.ex i (λj=>v.getD j false)=true->v.getD i false=true:=λb c d=>by
 unfold iV at h
 cases hv:v.getD i false with
 |true=>rfl
 |false=>
  rw[acp (by rw[b,hv,d];simp[c])]at h
  have a:(v.set i true).getD i false=v.getD i false:=by rw[h]
  rw[nj,acp ⟨rfl,e⟩,hv]at a
  cases a
omit ok in
def dQ(v:List Bool):Nat:=v.countP id
omit ok in
theorem uU:∀(v:List Bool) (i:Nat),i<v.length->v.getD i false=false->dQ (v.set i true)=dQ v+1
 |[],i,h,_=>absurd h (by simp)
 |b::v,0,h,hv=>by
  have:b=false:=by simpa using hv
  subst this
  simp[dQ]
 |b::v,i+1,h,hv=>by
  have:=uU v i (by simpa using h) (by simpa using hv)
  unfold dQ at this⊢
  rw[List.set_cons_succ,adk,adk,this]
  omega
omit ok in
theorem CL{k:Nat}{v:List Bool}{i:Nat}(b:v.length=G.n)(c:i<G.n):(iV G k v i).length=G.n/\dQ v<=dQ (iV G k v i)/\(dQ (iV G k v i)=dQ v->iV G k v i=v):=by
 unfold iV
 split
 ·rename_i a
  simp only[acv,acu,adj]at a
  have:=uU v i (by omega) a.1.2
  exact⟨by rw[adf];exact b,by omega,λh=>by omega⟩
 ·exact⟨b,acC _,λ_=>rfl⟩
omit ok in
theorem tL{k:Nat}:∀(l:List Nat) (v:List Bool),(∀i∈l,i<G.n)->v.length=G.n->(l.foldl (iV G k) v).length=G.n/\dQ v<=dQ (l.foldl (iV G k) v)/\(dQ (l.foldl (iV G k) v)=dQ v->l.foldl (iV G k) v=v/\∀i∈l,iV G k v i=v)
 |[],v,_,hl=>⟨hl,acC _,λ_=>⟨rfl,λi hi=>by cases hi⟩⟩
 |x::l,v,h,hl=>by
  rw[adt]
  obtain⟨c,o,d⟩:=CL (k:=k) hl (h x acz)
  obtain⟨f,g,b⟩:=tL l (iV G k v x) (λi hi=>h i (acF _ hi)) c
  refine⟨f,by omega,λe=>?_⟩
  have a:=d (by omega)
  rw[a]at b g⊢
  obtain⟨j,m⟩:=b (by rw[a]at e;exact e)
  refine⟨j,λi hi=>?_⟩
  rcases acG.1 hi with rfl|hi
  ·exact a
  ·exact m i hi
theorem DS.fold{k:Nat}:∀(l:List Nat) (v:List Bool),(∀i∈l,i<G.n)->DS G k v->DS G k (l.foldl (iV G k) v)
 |[],v,_,h=>h
 |x::l,v,hl,h=>DS.fold l _ (λi a=>hl i (acF _ a)) (h.put ok (hl x acz))
omit ok in
theorem vA{i:Nat}(h:i∈List.range' 0 G.n):i<G.n:=by
 have:=adD.1 h
 omega
theorem DS.round{k:Nat}{v:List Bool}(h:DS G k v):DS G k (nV G k v):=DS.fold ok _ v (λi a=>vA a) h
theorem DS.rounds{k:Nat}:∀(r:Nat) {v:List Bool},DS G k v->DS G k (gg G k r v)
 |0,_,h=>h
 |r+1,_,h=>DS.rounds r (h.round ok)
omit ok in
theorem xF{k:Nat}:∀(r:Nat) (v:List Bool),gg G k (r+1) v=nV G k (gg G k r v)
 |0,_=>rfl
 |r+1,v=>by
  rw[gg,xF r,gg]
omit ok in
theorem xE{k:Nat}{v:List Bool}(b:v.length=G.n):∀r,(gg G k r v).length=G.n/\(nV G k (gg G k r v)=gg G k r v\/r<=dQ (gg G k r v))
 |0=>⟨b,.inr (acM _)⟩
 |r+1=>by
  obtain⟨g,h2⟩:=xE b r
  rw[xF]
  obtain⟨c,d,f⟩:=tL (k:=k) (List.range' 0 G.n) (gg G k r v) (λi h=>vA h) g
  refine⟨c,?_⟩
  rcases h2 with h2|h2
  ·rw[h2];exact .inl h2
  ·by_cases e:dQ (nV G k (gg G k r v))=dQ (gg G k r v)
   ·have:=(f e).1
    have a:nV G k (gg G k r v)=gg G k r v:=this
    rw[a];exact .inl a
   ·have j:dQ (gg G k r v)<=dQ (nV G k (gg G k r v)):=d
    exact .inr (by omega)
theorem DS.number{k:Nat}{v:List Bool}(h:DS G k v):DS G k (gg G k (G.n+1) v)/\G.Full k λj=>(gg G k (G.n+1) v).getD j false:=by
 have b:=h.rounds ok (G.n+1)
 refine⟨b,λi a d o c=>?_⟩
 rcases acH (G.num i) k with h1|h1
 ·exact b.low _ h1 i a d (acC _) c
 ·obtain⟨f,g⟩:=xE (G:=G) (k:=k) h.len (G.n+1)
  have m:dQ (gg G k (G.n+1) v)<=G.n:=by
   have:dQ (gg G k (G.n+1) v)<=(gg G k (G.n+1) v).length:=List.countP_le_length
   omega
  have l:=g.resolve_right (by omega)
  obtain⟨_,_,e⟩:=tL (k:=k) (List.range' 0 G.n) (gg G k (G.n+1) v) (λi a=>vA a) f
  have:=(e (acs dQ l)).2 i (adD.2 ⟨acM _,by omega⟩)
  exact CM this (by omega) d (by omega) c
omit ok in
theorem DS.next{k:Nat}{v:List Bool}(h:DS G k v)(b:G.Full k λj=>v.getD j false):DS G (k+1) v:=
 ⟨h.len,h.pg,λj c=>by have:=h.le j c;omega,λa d=>by
  rcases acH a k with h1|h1
  ·exact h.low a h1
  ·rw[show a=k from by omega];exact b⟩
theorem DS.zI:∀(m:Nat) {k:Nat} {v:List Bool},DS G k v->DS G (k+m) (mF G m k v)
 |0,_,_,h=>h
 |m+1,k,v,h=>by
  obtain⟨a,b⟩:=h.number ok
  rw[mF,show k+(m+1)=k+1+m from by omega]
  exact DS.zI m (a.next b)
omit ok in
theorem DS.start:DS G 0 (List.replicate G.n false):=by
 have b:∀j,(List.replicate G.n false).getD j false=false:=λj=>by
  rw[acO,List.getElem?_replicate];split<;>rfl
 refine⟨by simp,⟨λ_=>0,0,λi c=>?_,λj a=>?_⟩,λj a=>?_,λk d=>absurd d (by omega)⟩
 ·simp only[b]at c;cases c
 ·rw[b]at a;cases a
 ·rw[b]at a;cases a
theorem xB{a:Nat}(e:∀i,i<G.n->G.num i<=a):
  (mF G (a+1) 0 (List.replicate G.n false)).length=G.n/\(∃ρ,G.PG (λj=>(mF G (a+1) 0 (List.replicate G.n false)).getD j false) ρ)/\∀k,G.Full k λj=>(mF G (a+1) 0 (List.replicate G.n false)).getD j false:=by
 have h:=DS.zI ok (a+1) (DS.start (G:=G))
 obtain⟨ρ,T,f,_⟩:=h.pg
 exact⟨h.len,⟨ρ,f⟩,λk i b d _ c=>h.low (G.num i) (by have:=e i b;omega) i b d (acC _) c⟩
end
def eg(p:bQ)(user:ByteArray)(v:Nat->Bool)(m:Nat):Bool:=
 match m with
 |0=>false
 |e+1=>match p.nodes[e]? with
  |none=>false
  |some n=>
   if n.op then
    if h:n.a.toNat+1<=e/\n.b.toNat+1<=e then
     if n.kind=4 then eg p user v (n.a.toNat+1)||eg p user v (n.b.toNat+1)
     else if n.kind=5 then eg p user v (n.a.toNat+1)&&eg p user v (n.b.toNat+1)
     else eg p user v (n.a.toNat+1)&& !eg p user v (n.b.toNat+1)
    else false
   else(decide (n.kind=1)&&p.iC.any λs=>decide (s=user))||(p.leads.getD e []).any v
termination_by m
theorem tg{l:List Nd}{e:Nat}{n:Nd}(d:l[e]? =some n)(h:n.op=true)(c:n.a.toNat+1<=e/\n.b.toNat+1<=e)(ab:Bool):fz l (e+1) ab=fz l (n.a.toNat+1) ab++fz l (n.b.toNat+1) (ab||n.kind==6):=by
 rw[fz];simp only[d,h,acR];rw[acN c]
theorem tf{l:List Nd}{e:Nat}{n:Nd}(a:l[e]? =some n)(h:n.op=false)(ab:Bool):fz l (e+1) ab=[(e,ab)]:=by
 rw[fz];simp only[a,h,adu,if_false]
theorem wg{l:List Nd}:∀(m:Nat) (x:Nat×Bool),x∈fz l m true->x.2=true
 |m,x,hx=>by
  cases m with
  |zero=>rw[fz]at hx;cases hx
  |succ e=>
   cases hn:l[e]? with
   |none=>rw[fz]at hx;simp only[hn]at hx;cases hx
   |some n=>
    by_cases c:n.op=true
    ·by_cases d:n.a.toNat+1<=e/\n.b.toNat+1<=e
     ·rw[tg hn c d]at hx
      rcases acI.1 hx with hx|hx
      ·exact wg _ x hx
      ·exact wg _ x (by simpa using hx)
     ·rw[fz]at hx;simp only[hn,c,acR]at hx;rw[dif_neg d]at hx;cases hx
    ·rw[tf hn (by simpa using c)]at hx
     rw[acD]at hx
     rw[hx]
termination_by m=>m
theorem any_congr{l:List Nat}{v w:Nat->Bool}(h:∀j∈l,v j=w j):l.any v=l.any w:=by
 induction l with
 |nil=>rfl
 |cons x l ih=>rw[List.any_cons,List.any_cons,h x acz,ih λj a=>h j (acF _ a)]
theorem uR{p:bQ}{user:ByteArray}{v w:Nat->Bool}:∀(m:Nat) (ab:Bool),(∀x∈fz p.nodes m ab,∀j∈p.leads.getD x.1 [],v j=w j)->eg p user v m=eg p user w m
 |m,ab,h=>by
  cases m with
  |zero=>rw[eg,eg]
  |succ e=>
   cases hn:p.nodes[e]? with
   |none=>rw[eg,eg];simp only[hn]
   |some n=>
    rw[eg,eg]
    simp only[hn]
    by_cases d:n.op=true
    ·simp only[d,acR]
     by_cases c:n.a.toNat+1<=e/\n.b.toNat+1<=e
     ·rw[tg hn d c]at h
      have i:=uR (user:=user) (n.a.toNat+1) ab λx f=>h x (adh _ f)
      have k:=uR (user:=user) (n.b.toNat+1) (ab||n.kind==6) λx f=>h x (adi _ f)
      rw[acN c,acN c,i,k]
     ·rw[dif_neg c,dif_neg c]
    ·have g:n.op=false:=by simpa using d
     rw[tf hn g]at h
     simp only[g,adu,if_false]
     rw[any_congr (h (e,ab) acz)]
termination_by m=>m
theorem uS{p:bQ}{user:ByteArray}{v w:Nat->Bool}:∀(m:Nat),(∀x∈fz p.nodes m false,∀j∈p.leads.getD x.1 [],(v j=true->w j=true)/\(x.2=true->v j=w j))->eg p user v m=true->eg p user w m=true
 |m,h,hv=>by
  cases m with
  |zero=>rw[eg]at hv;cases hv
  |succ e=>
   cases hn:p.nodes[e]? with
   |none=>rw[eg]at hv;simp only[hn]at hv;cases hv
   |some n=>
    rw[eg]at hv⊢
    simp only[hn]at hv⊢
    by_cases d:n.op=true
    ·simp only[d,acR]at hv⊢
     by_cases i:n.a.toNat+1<=e/\n.b.toNat+1<=e
     ·rw[tg hn d i]at h
      rw[acN i]at hv⊢
      have k:=uS (n.a.toNat+1) (user:=user) λx c=>h x (adh _ c)
      by_cases o:n.kind=6
      ·rw[aco (by omega),aco (by omega)]at hv⊢
       have f:eg p user v (n.b.toNat+1)=eg p user w (n.b.toNat+1):=uR _ true λx c j g=>by
        have s:x∈fz p.nodes (n.b.toNat+1) (false||n.kind==6):=by rw[o];exact c
        exact(h x (adi _ s) j g).2 (wg _ x c)
       rw[<-f]
       simp only[acv]at hv⊢
       exact⟨k hv.1,hv.2⟩
      ·have f:=uS (n.b.toNat+1) (user:=user) λx c=>h x (adi _ (by
        have:(n.kind==6)=false:=by simpa using o
        rw[this];exact c))
       by_cases l:n.kind=4
       ·rw[acp l]at hv⊢
        simp only[acx]at hv⊢
        exact hv.imp k f
       ·rw[aco l]at hv⊢
        have r:n.kind=5:=by
         unfold Nd.op at d
         simp only[acx,acU]at d
         omega
        rw[acp r]at hv⊢
        simp only[acv]at hv⊢
        exact⟨k hv.1,f hv.2⟩
     ·rw[dif_neg i]at hv;cases hv
    ·have q:n.op=false:=by simpa using d
     rw[tf hn q]at h
     simp only[q,adu,if_false]at hv⊢
     simp only[acx,acP]at hv⊢
     rcases hv with hv|⟨j,g,hv⟩
     ·exact .inl hv
     ·exact .inr ⟨j,g,(h (e,false) acz j g).1 hv⟩
termination_by m=>m
section
variable{c:Cf}{num:List Nat}{sub:aW->List Sub}
theorem wJ:∀(ks:List aW) (ps:List bQ),(dO c num ps ks).2.map (λj=>((dO c num ps ks).1.map (·.k))[j]?)=ks.map some
 |[],_=>rfl
 |k::ks,ps=>by
  rw[dO]
  simp only[acw]
  rw[wJ ks]
  congr 1
  obtain⟨a,b⟩:=wH (c:=c) (num:=num) ps k
  obtain⟨⟨l,d,_⟩,_⟩:=oM (c:=c) (num:=num) ks (fp c num ps k).1
  rw[d,acE,ac6 (by simpa using a)]
  exact b
def nL(c:Cf)(sub:aW->List Sub)(ps:List bQ)(k:aW)(nodes:List Nd)(leads:List (List Nat)):Prop:=
 leads.length=nodes.length/\∀e n,nodes[e]? =some n->((leads.getD e []).map λj=>(ps.map (·.k))[j]?)=(eC c sub k n).map some
theorem zc{ps l:List bQ}{a:List Nat}{ks:List aW}(h:(a.map λj=>(ps.map (·.k))[j]?)=ks.map some):(a.map λj=>((ps++l).map (·.k))[j]?)=ks.map some:=by
 rw[<-h]
 refine adl λj b=>?_
 have:(ps.map (·.k))[j]? ∈ks.map some:=by rw[<-h];exact acq.2 ⟨j,b,rfl⟩
 obtain⟨k,_,c⟩:=acq.1 this
 have d:=(acL.1 c.symm).1
 rw[acE,ac6 d]
theorem nL.grow{ps l:List bQ}{k:aW}{b:List Nd}{a:List (List Nat)}(h:nL c sub ps k b a):nL c sub (ps++l) k b a:=
 ⟨h.1,λe n d=>zc (h.2 e n d)⟩
theorem tv(k:aW):∀(ns:List Nd) (ps:List bQ),nL c sub (dC c num sub k ps ns).1 k ns (dC c num sub k ps ns).2
 |[],ps=>⟨rfl,λe n g=>by simp at g⟩
 |n::ns,ps=>by
  obtain⟨b,d⟩:=tv k ns (dO c num ps (eC c sub k n)).1
  rw[dC]
  refine⟨by simp only[acX];rw[b],λe m a=>?_⟩
  cases e with
  |zero=>
   simp only[List.getElem?_cons_zero,acY]at a
   subst a
   simp only[adv]
   obtain⟨⟨l,f,_⟩,_⟩:=lD (c:=c) (num:=num) (sub:=sub) k ns (dO c num ps (eC c sub k n)).1
   rw[f]
   exact zc (wJ _ _)
  |succ e=>
   simp only[List.getElem?_cons_succ]at a
   simp only[adw]
   exact d e m a
structure ra(c:Cf)(num:List Nat)(sub:aW->List Sub)(ps:List bQ)(i:Nat):Prop where
 one:∀p∈ps,p.found=(one c num p.k).found/\p.nodes=(one c num p.k).nodes/\p.number=(one c num p.k).number
 op:∀j p,j<i->ps[j]? =some p->nL c sub ps p.k p.nodes p.leads/\p.iC=if p.found then kJ c sub p.k else []
theorem qL{k:aW}:∀i,(∀j,j<i->j<(opened c num sub k j).1.length)->ra c num sub (opened c num sub k i).1 i
 |0,_=>⟨λp b=>by
  simp only[opened,acD]at b
  subst b
  rw[qK]
  exact⟨rfl,rfl,rfl⟩,λj p g=>absurd g (by omega)⟩
 |i+1,hlt=>by
  have d:=qL i λj g=>hlt j (by omega)
  have f:=hlt i (by omega)
  obtain⟨a,y⟩:∃a,a=(opened c num sub k i).1:=⟨_,rfl⟩
  show ra c num sub (eJ c num sub (opened c num sub k i).1 i).1 (i+1)
  rw[<-y]at d f⊢
  obtain⟨p,b⟩:=ca f
  unfold eJ
  simp only[b]
  have s:=lD (c:=c) (num:=num) (sub:=sub) p.k p.nodes a
  obtain⟨l,h,v⟩:=s.ex
  have m:=tv (c:=c) (num:=num) (sub:=sub) p.k p.nodes a
  obtain⟨q,n⟩:∃q,q=(dC c num sub p.k a p.nodes).2:=⟨_,rfl⟩
  rw[<-n,h]at m
  rw[<-n,h]
  have u:(((a++l).set i {p with iC:=if p.found then kJ c sub p.k else [],leads:=q}).map (·.k))=(a++l).map (·.k):=by
   refine adr λj=>?_
   rw[acy,acy,ads]
   split
   ·rename_i e
    subst e
    rw[acp (by simp;omega),ac6 f,b]
    rfl
   ·rfl
  have w:∀x∈a++l,x.found=(Go.Proofs.YtdljmchhecoakaaGreat.one c num x.k).found/\x.nodes=(Go.Proofs.YtdljmchhecoakaaGreat.one c num x.k).nodes/\x.number=(Go.Proofs.YtdljmchhecoakaaGreat.one c num x.k).number:=λx hx=>by
   rcases acI.1 hx with hx|hx
   ·exact d.one x hx
   ·have:=(v x hx).2
    rw[<-this]
    exact⟨rfl,rfl,rfl⟩
  refine⟨λx hx=>?_,λj x g hx=>?_⟩
  ·rcases adB hx with hx|rfl
   ·exact w x hx
   ·exact d.one p (aR b)
  ·unfold nL
   rw[u]
   rw[ads]at hx
   split at hx
   ·rename_i e
    subst e
    rw[acp (by simp;omega)]at hx
    cases hx
    exact⟨m,rfl⟩
   ·rename_i e
    have t:j<i:=by omega
    rw[ac6 (by omega)]at hx
    obtain⟨o,r⟩:=d.op j x t hx
    exact⟨o.grow,r⟩
end
theorem qj{α β:Type}{f:α->Option (List β)}{x:α}:∀{l:List α} {o:List β},cat f l=some o->x∈l->∃u,f x=some u/\∀y∈u,y∈o
 |[],_,_,hx=>by cases hx
 |z::l,o,h,hx=>by
  rw[cat]at h
  cases hz:f z with
  |none=>rw[hz]at h;cases h
  |some u=>
   cases hl:cat f l with
   |none=>rw[hz,hl]at h;cases h
   |some v=>
    rw[hz,hl]at h
    simp only[acQ,acS,acY]at h
    subst h
    rcases acG.1 hx with rfl|hx
    ·exact⟨u,hz,λy a=>adh _ a⟩
    ·obtain⟨w,b,a⟩:=qj hl hx
     exact⟨w,b,λy h=>adi _ (a y h)⟩
theorem rG{α:Type}{x:α}:∀{l:List α} {i k:Nat},l[k]? =some x->(i+k,x)∈jX i l
 |[],_,_,h=>by simp at h
 |y::l,i,0,h=>by
  simp only[List.getElem?_cons_zero,acY]at h
  subst h
  exact acz
 |y::l,i,k+1,h=>by
  rw[show i+(k+1)=i+1+k from by omega]
  exact acF _ (rG (by simpa using h))
theorem ot{l:List (ByteArray×Rl)}{t:Ty}{i:Nat}(h:bV l t=some i):∃x,l[i]? =some x/\fw x=t:=by
 unfold bV at h
 obtain⟨a,b,_⟩:=adN.1 h
 exact⟨_,bk a,by simpa using b⟩
theorem qw{l:List (ByteArray×Rl)}{t:Ty}:∀{ts:List Ty} {o:List Nat},findAll l ts=some o->t∈ts->∃i,bV l t=some i/\i∈o
 |[],_,_,ht=>by cases ht
 |u::ts,o,h,ht=>by
  rw[findAll]at h
  cases h1:bV l u with
  |none=>rw[h1]at h;cases h
  |some j=>
   cases h2:findAll l ts with
   |none=>rw[h1,h2]at h;cases h
   |some v=>
    rw[h1,h2]at h
    simp only[acQ,acS,acY]at h
    subst h
    rcases acG.1 ht with rfl|ht
    ·exact⟨j,h1,acz⟩
    ·obtain⟨i,a,b⟩:=qw h2 ht
     exact⟨i,a,acF _ b⟩
section
variable{c:Cf}{sub:aW->List Sub}
theorem Bl{i:Nat}{x:ByteArray×Rl}(h:c.all[i]? =some x):(c.all.map (·.2.types)).getD i []=x.2.types:=by
 rw[acO,acy,h];rfl
theorem AN{k:aW}{s:Sub}(h:s∈gD c sub k):∃i x,bV c.all ⟨k.os,k.rel⟩=some i/\c.all[i]? =some x/\(⟨s.ss,s.sr⟩:Ty)∈eh x.2.types:=by
 unfold gD fitting at h
 obtain⟨j,l⟩:=acA.1 h
 have a:=(acA.1 j).2
 unfold allowed at a
 cases hr:bV c.all ⟨k.os,k.rel⟩with
 |none=>rw[hr]at a;cases a
 |some i=>
  rw[hr]at a
  obtain⟨x,d,_⟩:=ot hr
  simp only[Bl d,acP]at a
  obtain⟨t,m,b⟩:=a
  refine⟨i,x,rfl,d,acA.2 ?_⟩
  unfold lG at b
  rw[acp (by simpa using l)]at b
  simp only[acv,adj,acu,adE]at b
  obtain⟨⟨e,f⟩,g⟩:=b
  have:(⟨s.ss,s.sr⟩:Ty)=t:=by rw[<-f, <-g]
  rw[this]
  exact⟨m,by simpa using e⟩
theorem wR{k:aW}{n:Nd}{x:aW}{r:Nat}{y:ByteArray×Rl}(o:bV c.all ⟨k.os,k.rel⟩=some r)(p:c.all[r]? =some y){v:List Nat}(a:targets c.all y.1 y.2.types n=some v)(b:x∈eC c sub k n):∃t∈v,bV c.all ⟨x.os,x.rel⟩=some t:=by
 have m:y.1=k.os:=by
  obtain⟨z,q,D⟩:=ot o
  rw[p]at q
  cases q
  exact acs Ty.space D
 unfold eC at b
 unfold targets at a
 split at b
 ·rename_i h
  rw[acp h]at a
  obtain⟨s,j,rfl⟩:=acq.1 b
  obtain⟨i,z,f,g,B⟩:=AN j
  rw[o]at f
  cases f
  rw[p]at g
  cases g
  obtain⟨t,d,e⟩:=qw a B
  exact⟨t,e,d⟩
 ·rename_i h
  rw[aco h]at a
  split at b
  ·rename_i g
   rw[aco (by omega),acp g]at a
   obtain⟨s,j,rfl⟩:=acq.1 b
   obtain⟨i,z,l,w,A⟩:=AN j
   simp only at l
   rw[m,l]at a
   simp only[Bl w]at a
   split at a
   ·cases a
   ·rename_i u E C
    obtain⟨t,d,e⟩:=qw (t:=⟨s.ss,n.ec⟩) a (by
     rw[<-C];exact acq.2 ⟨_,A,rfl⟩)
    exact⟨t,e,d⟩
  ·split at b
   ·rename_i f
    rw[acp f]at a
    rw[acD]at b
    subst b
    obtain⟨t,d,e⟩:=qw (t:=⟨y.1,n.rel⟩) a acz
    rw[m]at d
    exact⟨t,e,d⟩
   ·cases b
theorem BR{num:List Nat}{E:List Ed}(d:c.gM=some E)(o:iP E num){k x:aW}{e:Nat}{ab:Bool}{n:Nd}(h:(e,ab)∈fz (one c num k).nodes (one c num k).nodes.length false)(f:(one c num k).nodes[e]? =some n)(A:x∈eC c sub k n):
  (one c num x).number+(if ab then 1 else 0)<=(one c num k).number:=by
 cases hr:bV c.all ⟨k.os,k.rel⟩with
 |none=>
  have:(one c num k).nodes=[]:=by unfold one;rw[hr]
  rw[this]at f
  cases f
 |some r=>
  obtain⟨y,g,_⟩:=ot hr
  have j:(one c num k).nodes=y.2.nodes:=by
   unfold one;rw[hr]
   simp only[acO,acy,g]
   rfl
  have l:(one c num k).number=num.getD r 0:=by unfold one;rw[hr]
  rw[j]at h f
  rw[l]
  unfold Cf.gM at d
  split at d
  ·obtain⟨u,b,w⟩:=qj d (rG (i:=0) g)
   simp only[Nat.zero_add]at b
   unfold lL at b
   split at b
   ·obtain⟨v,a,z⟩:=qj b h
    simp only[f,acQ]at a
    unfold fv at a
    cases ht:targets c.all y.1 y.2.types n with
    |none=>rw[ht]at a;cases a
    |some ts=>
     rw[ht]at a
     simp only[acS,acY]at a
     obtain⟨t,q,s⟩:=wR hr g ht A
     have p:(⟨r,t,ab⟩:Ed)∈E:=w _ (z _ (by rw[<-a];exact acq.2 ⟨t,q,rfl⟩))
     have m:(one c num x).number=num.getD t 0:=by unfold one;rw[s]
     rw[m]
     exact o _ p
   ·cases b
  ·cases d
end
def im(ps:List bQ)(user:ByteArray):Net where
 n:=ps.length
 f i:=((ps[i]?).map (·.found)).getD false
 num i:=((ps[i]?).map (·.number)).getD 0
 ex i v:=match ps[i]? with
  |none=>false
  |some p=>eg p user v p.nodes.length
 to i j:=∃p,ps[i]? =some p/\∃e n,p.nodes[e]? =some n/\j∈p.leads.getD e []
section
variable{c:Cf}{num:List Nat}{sub:aW->List Sub}
theorem zd{ps:List bQ}{k:aW}{d:List Nd}{b:List (List Nat)}(h:nL c sub ps k d b){e j:Nat}{n:Nd}(i:d[e]? =some n)(g:j∈b.getD e []):∃q,ps[j]? =some q/\q.k∈eC c sub k n:=by
 have f:=h.2 e n i
 have:(ps.map (·.k))[j]? ∈(eC c sub k n).map some:=by rw[<-f];exact acq.2 ⟨j,g,rfl⟩
 obtain⟨x,l,a⟩:=acq.1 this
 rw[acy]at a
 cases hq:ps[j]? with
 |none=>rw[hq]at a;cases a
 |some q=>
  rw[hq]at a
  simp only[acS,acY]at a
  exact⟨q,rfl,a▸l⟩
theorem Bo{W:ByteArray->Bool}{l:List Nd}(h:fT W l≠0){e:Nat}{n:Nd}(d:l[e]? =some n)(ho:n.op=false):∃ab,(e,ab)∈fz l l.length false:=by
 unfold fT at h
 cases ht:tree W l l.length with
 |none=>rw[ht]at h;exact absurd rfl h
 |some p=>
  obtain⟨b,x⟩:=p
  rw[ht]at h
  simp only at h
  have f:b=0:=by
   by_cases c:b=0
   ·exact c
   ·rw[aco c]at h;exact absurd rfl h
  subst f
  have a:=(oA _ _ ht (List.replicate l.length false) (by simp)).2
  simp only[Nat.sub_zero]at a
  rw[show(List.replicate l.length false).getD (l.length-1) false=false from by
   rw[acO,List.getElem?_replicate];split<;>rfl]at a
  rw[a]
  refine⟨_,acq.2 ⟨e,acA.2 ⟨adD.2 ⟨acM _,?_⟩,?_⟩,rfl⟩⟩
  ·have:=(acL.1 d).1;omega
  ·unfold oa;rw[d];simp[ho]
theorem NJ{W:ByteArray->Bool}{F:ByteArray->ByteArray->Bool}{E:List Ed}(L:c.gM=some E)(Q:iP E num)(M:c.right W F=true){ps:List bQ}(g:ra c num sub ps ps.length)(user:ByteArray):(im ps user).OK:=by
 have D:∀i p,ps[i]? =some p->∀e n,p.nodes[e]? =some n->∀j∈p.leads.getD e [],∀f,(e,f)∈fz p.nodes p.nodes.length false->(im ps user).num j+(if f then 1 else 0)<=(im ps user).num i:=λi p b e n a j d f H=>by
  have l:=(acL.1 b).1
  obtain⟨A,h,J⟩:=g.one p (aR b)
  obtain⟨q,u,m⟩:=zd (g.op i p l b).1 a d
  obtain⟨_,_,I⟩:=g.one q (aR u)
  rw[h]at H a
  have:=BR L Q H a m
  show((ps[j]?).map (·.number)).getD 0+_<=((ps[i]?).map (·.number)).getD 0
  rw[u,b,acS,acS,Option.getD_some,Option.getD_some,I,J]
  exact this
 refine⟨λi l S v w A h O=>?_,λi l S j d=>?_⟩
 ·obtain⟨p,b⟩:=ca l
  show(match ps[i]? with|none=>false|some p=>eg p user w p.nodes.length)=true
  have B:(match ps[i]? with|none=>false|some p=>eg p user v p.nodes.length)=true:=O
  rw[b]at B⊢
  refine uS _ (λx U j d=>?_) B
  obtain⟨e,f⟩:=x
  cases a:p.nodes[e]? with
  |none=>
   have X:=(g.op i p l b).1.1
   rw[List.getElem?_eq_none_iff]at a
   simp only at d
   rw[acO,List.getElem?_eq_none (by omega)]at d
   cases d
  |some n=>
   have G:(im ps user).to i j:=⟨p,b,e,n,a,d⟩
   refine⟨A j G,λo=>h j G ?_⟩
   have:=D i p b e n a j d f U
   simp only at o
   rw[o,acp rfl]at this
   exact this
 ·obtain⟨p,b,e,n,a,C⟩:=d
  have T:=(acL.1 b).1
  by_cases t:n.op=true
  ·exfalso
   obtain⟨q,u,m⟩:=zd (g.op i p T b).1 a C
   unfold Nd.op at t
   simp only[acx,acU]at t
   unfold eC at m
   rw[aco (by omega),aco (by omega),aco (by omega)]at m
   cases m
  ·have N:fT W p.nodes≠0:=by
    obtain⟨_,h,_⟩:=g.one p (aR b)
    rw[h]at a⊢
    obtain⟨y,Z,Y⟩:=zN (aR a)
    have K:(one c num p.k).found=true/\∃z∈c.all,(one c num p.k).nodes=z.2.nodes:=by
     cases hr:bV c.all ⟨p.k.os,p.k.rel⟩with
     |none=>
      have:(one c num p.k).nodes=[]:=by unfold one;rw[hr]
      rw[this]at a
      cases a
     |some r=>
      obtain⟨z,s,_⟩:=ot hr
      refine⟨by unfold one;rw[hr],z,aR s,?_⟩
      unfold one;rw[hr]
      simp only[acO,acy,s]
      rfl
    obtain⟨_,z,s,V⟩:=K
    rw[V]
    have:=(ou M z s).1
    unfold nD at this
    simp only[acv,bne_iff_ne,ne_eq]at this
    exact this.1.2
   obtain⟨f,o⟩:=Bo N a (by simpa using t)
   have:=D i p b e n a j C f o
   omega
end
structure iT(G:Net)(v:Nat->Bool)(Q:List Nat):Prop where
 pg:∃ρ T,G.PG v ρ/\∀j,v j=true->ρ j<T
 q:∀i∈Q,i<G.n/\G.f i=true
 le:∀j,v j=true->∀i∈Q,G.num j<=G.num i
 ue:∀i,i<G.n->G.f i=true->v i=false->i∉Q->G.ex i v=false
section
variable{G:Net}{v:Nat->Bool}{Q:List Nat}
theorem iT.start(g:∀i∈Q,i<G.n/\G.f i=true)(c:∀i,i<G.n->G.f i=true->i∈Q):iT G (λ_=>false) Q:=
 ⟨⟨λ_=>0,0,λi a=>(by cases a),λj b=>(by cases b)⟩,g,λj b=>(by cases b),λi a d _ e=>absurd (c i a d) e⟩
theorem iT.skip(h:iT G v Q){i:Nat}{c:List Nat}(a:∀x,x∈c↔x∈Q/\x≠i)(hv:v i=true\/G.ex i v=false):iT G v c:=
 ⟨h.pg,λx b=>h.q x ((a x).1 b).1,λj g x b=>h.le j g x ((a x).1 b).1,λk l f d n=>by
  by_cases e:k=i
  ·subst e
   rcases hv with hv|hv
   ·rw[d]at hv;cases hv
   ·exact hv
  ·exact h.ue k l f d λm=>n ((a k).2 ⟨m,e⟩)⟩
theorem iT.take(ok:G.OK)(h:iT G v Q){i:Nat}(g:i∈Q)(D:∀x∈Q,G.num i<=G.num x)(m:v i=false)(y:G.ex i v=true){c:List Nat}
  (o:∀x∈c,(x∈Q/\x≠i)\/(x<G.n/\G.f x=true/\G.to x i))(u:∀x∈Q,x≠i->x∈c)(w:∀x,x<G.n->G.f x=true->G.to x i->v x=false->x≠i->x∈c):
  iT G (λj=>v j||decide (j=i)) c:=by
 obtain⟨A,z⟩:=h.q i g
 obtain⟨ρ,T,H,p⟩:=h.pg
 refine⟨⟨λj=>if j=i then T else ρ j,T+1,wy ok H p A z m (λj hj=>h.le j hj i g) y,λj hj=>?_⟩,λx b=>?_,λj hj x b=>?_,λk l d a s=>?_⟩
 ·simp only[acx,acu]at hj
  simp only
  split
  ·omega
  ·have:=p j (hj.resolve_right (by assumption));omega
 ·rcases o x b with h4|h4
  ·exact h.q x h4.1
  ·exact⟨h4.1,h4.2.1⟩
 ·simp only[acx,acu]at hj
  have r:G.num i<=G.num x:=by
   rcases o x b with h4|h4
   ·exact D x h4.1
   ·exact ok.dn x h4.1 h4.2.1 i h4.2.2
  rcases hj with hj|rfl
  ·exact acJ (h.le j hj i g) r
  ·exact r
 ·simp only[Bool.or_eq_false_iff,adE]at a
  have J:¬G.to k i:=λI=>s (w k l d I a.1 a.2)
  have B:k∉Q:=λC=>s (u k C a.2)
  have F:=h.ue k l d a.1 B
  cases b:G.ex k (λj=>v j||decide (j=i))with
  |false=>rfl
  |true=>
   exfalso
   have t:∀j,G.to k j->(v j||decide (j=i))=v j:=λj hj=>by
    have E:j≠i:=λe=>J (e▸hj)
    simp[E]
   have:=ok.up k l d _ v (λj hj m=>by rw[<-t j hj];exact m) (λj hj _=>t j hj) b
   rw[F]at this
   cases this
theorem iT.full(h:iT G v [])(k:Nat):G.Full k v:=λi c b _ a=>by
 cases hv:v i with
 |true=>rfl
 |false=>
  have:=h.ue i c b hv (by simp)
  rw[this]at a
  cases a
def tM(G:Net)(lH:Nat):List Bool:=mF G (lH+1) 0 (List.replicate G.n false)
theorem Qo(ok:G.OK){a:Nat}(d:∀i,i<G.n->G.num i<=a)(h:iT G v [])(j:Nat):v j=(tM G a).getD j false:=by
 obtain⟨_,⟨ρ',b⟩,c⟩:=xB ok d
 obtain⟨ρ,T,e,_⟩:=h.pg
 exact yI ok e b (λk=>h.full k) c (G.num j+1) j (adC _)
theorem iT.model(ok:G.OK)(h:iT G v [])(i:Nat)(e:i<G.n):v i=(G.f i&&G.ex i v):=by
 rw[acK,acv]
 constructor
 ·intro l
  obtain⟨ρ,T,k,_⟩:=h.pg
  obtain⟨c,a,d⟩:=k i l
  refine⟨a,ok.up i c a _ v (λj _ b=>?_) (λj _ g=>?_) d⟩
  ·simp only[acv]at b;exact b.1
  ·simp[g]
 ·intro⟨hf,he⟩
  exact h.full (G.num i) i e hf (acC _) he
end
section
variable(p:bQ)(user:ByteArray)(v:Nat->Bool)
def pI(w:List Bool)(n:Nd):List Bool:=
 w++[if n.kind=1 then(p.iC.any λs=>decide (s=user))||(p.leads.getD w.length []).any v
  else if n.kind=2\/n.kind=3 then(p.leads.getD w.length []).any v
  else if n.kind=4 then w.getD n.a.toNat false||w.getD n.b.toNat false
  else if n.kind=5 then w.getD n.a.toNat false&&w.getD n.b.toNat false
  else if n.kind=6 then w.getD n.a.toNat false&& !w.getD n.b.toNat false
  else false]
end
section
variable{p:bQ}{user:ByteArray}{v:Nat->Bool}{W:ByteArray->Bool}
theorem Av(w:List Bool)(n:Nd):(pI p user v w n).length=w.length+1:=by unfold pI;simp
theorem Pn{w:List Bool}{n:Nd}{t:Option (Nat×Nat)}(l:p.nodes[w.length]? =some n)(j:(tree W p.nodes (w.length+1)).isSome=true)(m:∀e,e<w.length->w.getD e false=eg p user v (e+1)):
  ∀e,e<(pI p user v w n).length->(pI p user v w n).getD e false=eg p user v (e+1):=λe u=>by
 rw[Av]at u
 unfold pI
 rw[rO]
 split
 ·exact m e (by assumption)
 ·have q:e=w.length:=by omega
  rw[acp q,q,eg]
  simp only[l]
  by_cases d:n.op=true
  ·obtain⟨r,z⟩:=Option.isSome_iff_exists.1 j
   obtain⟨b,x,y,c,o,f,C,D,_⟩:=nI l d z
   obtain⟨E,_,A,_⟩:=iY _ _ c
   obtain⟨F,_,B,_⟩:=iY _ _ f
   simp only at A B
   simp only[d,acR]
   rw[acN (by omega), <-m n.a.toNat (by omega), <-m n.b.toNat (by omega)]
   unfold Nd.op at d
   simp only[acx,acU]at d
   rw[aco (by omega),aco (by omega)]
   by_cases g:n.kind=4
   ·rw[acp g,acp g]
   ·rw[aco g,aco g]
    by_cases i:n.kind=5
    ·rw[acp i,acp i]
    ·rw[aco i,aco i,acp (by omega)]
  ·have s:n.op=false:=by simpa using d
   rw[lp l s]at j
   have k:n.leaf W=true:=by
    cases h:n.leaf W with
    |true=>rfl
    |false=>rw[h]at j;cases j
   simp only[s,adu,if_false]
   unfold Nd.leaf at k
   simp only[acv]at k
   by_cases c:n.kind=1
   ·rw[acp c];simp[c]
   ·rw[aco c]
    by_cases o:n.kind=2\/n.kind=3
    ·rw[acp o];simp[c]
    ·exfalso
     have f:=k.2
     rw[aco c,aco (by omega),aco (by omega)]at f
     cases f
end
def dF(l:List Nat):Nat:=l.foldr (· + ·) 0
theorem sd(a b:List Nat):dF (a++b)=dF a+dF b:=by
 induction a with
 |nil=>simp[dF]
 |cons x a ih=>simp only[dF,adF,acT]at *;omega
theorem og{α:Type}{f g:α->Nat}:∀{l:List α},(∀x∈l,f x<=g x)->dF (l.map f)<=dF (l.map g)
 |[],_=>acC _
 |x::l,h=>by
  have b:=h x acz
  have c:=og (f:=f) (g:=g) λy a=>h y (acF x a)
  simp only[dF,acw,acT]at *
  omega
theorem oe{α:Type}(k:Nat):∀l:List α,dF (l.map λ_=>k)=l.length*k
 |[]=>by simp[dF]
 |x::l=>by
  have:=oe k l
  simp only[dF,acw,acT,acX]at *
  rw[this,Nat.add_mul];omega
theorem rZ{α:Type}(f g:α->Nat):∀l:List α,dF (l.map λx=>f x+g x)=dF (l.map f)+dF (l.map g)
 |[]=>rfl
 |x::l=>by
  have:=rZ f g l
  simp only[dF,acw,acT]at *
  omega
theorem zp{α:Type}(k:Nat)(f:α->Nat):∀l:List α,dF (l.map λx=>k*f x)=k*dF (l.map f)
 |[]=>by simp[dF]
 |x::l=>by
  have:=zp k f l
  simp only[dF,acw,acT]at *
  rw[this,Nat.mul_add]
theorem se{α β:Type}(r:α->β->Bool)(b:List β):∀a:List α,dF (a.map λx=>b.countP (r x))=dF (b.map λy=>a.countP λx=>r x y)
 |[]=>by
  rw[ac5]
  have:=oe 0 b
  simpa[dF]using this.symm
 |x::a=>by
  rw[acw]
  have c:dF (b.countP (r x)::a.map λx=>b.countP (r x))=b.countP (r x)+dF (a.map λx=>b.countP (r x)):=rfl
  rw[c,se r b a]
  have d:∀y,(x::a).countP (λx=>r x y)=(a.countP λx=>r x y)+(if r x y then 1 else 0):=λy=>by rw[adk]
  have e:(b.map λy=>(x::a).countP λx=>r x y)=b.map λy=>(a.countP λx=>r x y)+(if r x y then 1 else 0):=adl λy _=>d y
  rw[e,rZ]
  have f:∀b:List β,dF (b.map λy=>if r x y then 1 else 0)=b.countP (r x):=λb=>by
   induction b with
   |nil=>rfl
   |cons y b ih=>
    rw[adk, <-ih]
    simp only[dF,acw,acT]
    omega
  rw[f]
  omega
theorem NE(l:List Nat):kX l<=l.length:=by
 obtain⟨a,b⟩:=qG l [] List.nodup_nil
 exact oo a λx c=>((b x).1 c).resolve_left (by simp)
section
variable{c:Cf}{num:List Nat}{sub:aW->List Sub}
def cost(c:Cf)(num:List Nat)(sub:aW->List Sub)(k:aW):Nat:=dF ((one c num k).nodes.map λn=>(eC c sub k n).length)
theorem wN(k:aW):∀(ns:List Nd) (ps:List bQ),(dC c num sub k ps ns).2.flatten.length=dF (ns.map λn=>(eC c sub k n).length)
 |[],_=>rfl
 |n::ns,ps=>by
  rw[dC]
  simp only[adG,adm,tu,wN k ns,acw,dF,acT]
theorem zO{k:aW}:∀i,(∀j,j<i->j<(opened c num sub k j).1.length)->(opened c num sub k i).2<=dF ((((opened c num sub k i).1.map (·.k)).take i).map (cost c num sub))
 |0,_=>acM _
 |i+1,hlt=>by
  have m:=zO i λj f=>hlt j (by omega)
  have d:=qL (c:=c) (num:=num) (sub:=sub) i λj f=>hlt j (by omega)
  have e:=hlt i (by omega)
  obtain⟨a,b⟩:∃a,a=(opened c num sub k i).1:=⟨_,rfl⟩
  have n:(opened c num sub k (i+1)).1=(eJ c num sub a i).1:=by rw[b];rfl
  have o:(opened c num sub k (i+1)).2=(opened c num sub k i).2+(eJ c num sub a i).2:=by rw[b];rfl
  rw[n,o]
  rw[<-b]at m d e
  obtain⟨p,h⟩:=ca e
  have r:eJ c num sub a i=((dC c num sub p.k a p.nodes).1.set i {p with iC:=if p.found then kJ c sub p.k else [],leads:=(dC c num sub p.k a p.nodes).2},kX (dC c num sub p.k a p.nodes).2.flatten):=by
   unfold eJ;simp only[h]
  rw[r]
  simp only
  obtain⟨⟨l,g,_⟩,_⟩:=lD (c:=c) (num:=num) (sub:=sub) p.k p.nodes a
  have s:kX (dC c num sub p.k a p.nodes).2.flatten<=cost c num sub p.k:=by
   refine acJ (NE _) ?_
   rw[wN]
   unfold cost
   rw[(d.one p (aR h)).2.1]
   exact acC _
  have q:(((dC c num sub p.k a p.nodes).1.set i {p with iC:=if p.found then kJ c sub p.k else [],leads:=(dC c num sub p.k a p.nodes).2}).map (·.k)).take (i+1)=(a.map (·.k)).take i++[p.k]:=by
   rw[acZ]
   congr 1
   ·refine adr λj=>?_
    rw[List.getElem?_take,List.getElem?_take]
    split
    ·rename_i f
     rw[acy,acy,List.getElem?_set_ne (by omega),g,ac6 (by omega)]
    ·rfl
   ·rw[acy,List.getElem?_set_self (by rw[g];simp;omega)]
    rfl
  rw[q,acE,sd]
  simp only[acw,ac5,dF,acT,List.foldr_nil,Nat.add_zero]at m⊢
  omega
theorem wT{s:ByteArray}{b:Nat}:∀{l:List Sp},(l.map (·.name)).Nodup->(∀x∈l,x.bS.length<=b)->((l.flatMap λs=>s.bS.map λr=>(s.name,r)).filter λx=>decide (x.1=s)).length<=b
 |[],_,_=>acM _
 |x::l,hn,hb=>by
  rw[acw]at hn
  obtain⟨f,g⟩:=adg.1 hn
  rw[adH,ac0,adm]
  by_cases e:x.name=s
  ·have c:((l.flatMap λs=>s.bS.map λr=>(s.name,r)).filter λx=>decide (x.1=s))=[]:=adx.2 λy a=>by
    obtain⟨z,c,a⟩:=ac7.1 a
    obtain⟨r,_,rfl⟩:=acq.1 a
    have:z.name≠s:=λd=>f (by rw[e, <-d];exact acq.2 ⟨z,c,rfl⟩)
    simpa using this
   rw[c,List.length_nil,Nat.add_zero]
   exact acJ (ac8 _ _) (by rw[acB];exact hb x acz)
  ·have c:((x.bS.map λr=>(x.name,r)).filter λx=>decide (x.1=s))=[]:=adx.2 λy a=>by
    obtain⟨r,_,rfl⟩:=acq.1 a
    simpa using e
   rw[c,List.length_nil,Nat.zero_add]
   exact wT g λy a=>hb y (acF _ a)
def qS(c:Cf)(s:ByteArray):List ByteArray:=(c.all.filter λx=>decide (x.1=s)).map (·.2.name)
theorem OP{b:Nat}(d:c.dN)(a:∀x∈c.aV,x.bS.length<=b)(s:ByteArray):(qS c s).length<=b:=by
 unfold qS
 rw[acB]
 exact wT d.1 a
theorem Np{s b:ByteArray}{i:Nat}(h:bV c.all ⟨s,b⟩=some i):b∈qS c s:=by
 obtain⟨x,e,a⟩:=ot h
 unfold qS
 refine acq.2 ⟨x,acA.2 ⟨aR e,?_⟩,acs Ty.rel a⟩
 have d:x.1=s:=acs Ty.space a
 simpa using d
theorem MX{b:Nat}(u:c.dN)(h:∀x∈c.aV,x.bS.length<=b){ks:List aW}(q:ks.Nodup)(j:∀k∈ks,(bV c.all ⟨k.os,k.rel⟩).isSome=true)(o:ByteArray×ByteArray):(ks.countP λk=>decide ((k.os,k.oi)=o))<=b:=by
 rw[List.countP_eq_length_filter]
 have g:((ks.filter λk=>decide ((k.os,k.oi)=o)).map (·.rel)).Nodup:=by
  refine ac1.2 ((q.filter _).imp_of_mem λ{x y} v w s e=>s ?_)
  have f:=(acA.1 v).2
  have a:=(acA.1 w).2
  simp only[acu]at f a
  rw[<-f]at a
  cases x;cases y
  simp only[Prod.mk.injEq]at a e
  rw[a.1,a.2,e]
 have:=oo (m:=qS c o.1) g λr t=>by
  obtain⟨k,n,rfl⟩:=acq.1 t
  obtain⟨p,d⟩:=acA.1 n
  obtain⟨i,l⟩:=Option.isSome_iff_exists.1 (j k p)
  have:k.os=o.1:=by
   simp only[acu]at d
   rw[<-d]
  rw[<-this]
  exact Np l
 rw[acB]at this
 exact acJ this (OP u h _)
end
def aW.obj(k:aW):ByteArray×ByteArray:=(k.os,k.oi)
def fJ(L:List (aW×Sub))(k:aW):List Sub:=(L.filter λx=>decide (x.1=k)).map (·.2)
theorem filter_le{α:Type}{p q:α->Bool}(h:∀x,p x=true->q x=true):∀l:List α,(l.filter p).length<=l.countP q
 |[]=>acC _
 |x::l=>by
  have b:=filter_le h l
  rw[ac2,adk]
  split
  ·rename_i a
   rw[acp (h x a)]
   simp only[acX];omega
  ·omega
theorem Ng{l:List Nat}(i:Nat):dF (l.take i)<=dF l:=by
 have:=sd (l.take i) (l.drop i)
 rw[List.take_append_drop]at this
 omega
section
variable{c:Cf}{num:List Nat}{L:List (aW×Sub)}
theorem AM(k:aW):(gD c (fJ L) k).length<=L.countP λx=>decide (x.1.obj=k.obj):=by
 unfold gD fitting
 refine acJ (ac8 _ _) (acJ (ac8 _ _) ?_)
 unfold fJ
 rw[acB]
 refine filter_le (λx a=>?_) L
 simp only[acu]at a⊢
 rw[a]
theorem BQ(k:aW)(n:Nd):(eC c (fJ L) k n).length<=1+L.countP λx=>decide (x.1.obj=k.obj):=by
 unfold eC
 split
 ·rw[acB];have:=AM (c:=c) (L:=L) k;omega
 ·split
  ·rw[acB];have:=AM (c:=c) (L:=L) ⟨k.os,k.oi,n.rel⟩
   have e:(⟨k.os,k.oi,n.rel⟩:aW).obj=k.obj:=rfl
   rw[e]at this;omega
  ·split
   ·simp
   ·simp
theorem CD{W:ByteArray->Bool}{F:ByteArray->ByteArray->Bool}(e:c.right W F=true)(k:aW):cost c num (fJ L) k<=64*(1+L.countP λx=>decide (x.1.obj=k.obj)):=by
 have f:(one c num k).nodes.length<=64:=by
  cases hr:bV c.all ⟨k.os,k.rel⟩with
  |none=>
   have:(one c num k).nodes=[]:=by unfold one;rw[hr]
   rw[this];simp
  |some r=>
   obtain⟨z,b,_⟩:=ot hr
   have d:(one c num k).nodes=z.2.nodes:=by
    unfold one;rw[hr]
    simp only[acO,acy,b]
    rfl
   have a:=(ou e z (aR b)).2
   unfold iI at a
   simp only[Bool.or_eq_false_iff,adE]at a
   rw[d];omega
 unfold cost
 refine acJ (og (g:=λ_=>1+L.countP λx=>decide (x.1.obj=k.obj)) λn _=>BQ k n) ?_
 rw[oe]
 exact Nat.mul_le_mul_right _ f
theorem BP{W:ByteArray->Bool}{F:ByteArray->ByteArray->Bool}{sub:aW->List Sub}{E:List Ed}(b:c.gM=some E)(o:c.right W F=true){k x:aW}{n:Nd}(d:n∈(one c num k).nodes)(g:x∈eC c sub k n):(bV c.all ⟨x.os,x.rel⟩).isSome=true:=by
 cases hr:bV c.all ⟨k.os,k.rel⟩with
 |none=>
  have:(one c num k).nodes=[]:=by unfold one;rw[hr]
  rw[this]at d
  cases d
 |some r=>
  obtain⟨y,j,_⟩:=ot hr
  have m:(one c num k).nodes=y.2.nodes:=by
   unfold one;rw[hr]
   simp only[acO,acy,j]
   rfl
  rw[m]at d
  obtain⟨e,l⟩:=List.mem_iff_getElem?.1 d
  have q:n.op=false:=by
   cases h:n.op with
   |false=>rfl
   |true=>
    exfalso
    unfold Nd.op at h
    simp only[acx,acU]at h
    unfold eC at g
    rw[aco (by omega),aco (by omega),aco (by omega)]at g
    cases g
  have p:fT W y.2.nodes≠0:=by
   have:=(ou o y (aR j)).1
   unfold nD at this
   simp only[acv,bne_iff_ne,ne_eq]at this
   exact this.1.2
  obtain⟨z,w⟩:=Bo p l q
  unfold Cf.gM at b
  split at b
  ·obtain⟨u,a,A⟩:=qj b (rG (i:=0) j)
   simp only[Nat.zero_add]at a
   unfold lL at a
   split at a
   ·obtain⟨v,f,B⟩:=qj a w
    simp only[l,acQ]at f
    unfold fv at f
    cases ht:targets c.all y.1 y.2.types n with
    |none=>rw[ht]at f;cases f
    |some ts=>
     obtain⟨t,_,s⟩:=wR hr j ht g
     rw[s];rfl
   ·cases a
  ·cases b
theorem Bh{W:ByteArray->Bool}{F:ByteArray->ByteArray->Bool}{E:List Ed}(hE:c.gM=some E)(hc:c.right W F=true)(hu:c.dN)(hb:∀x∈c.aV,x.bS.length<=6)(hL:L.length<=1000)(k:aW)(i:Nat)(hlt:∀j,j<i->j<(opened c num (fJ L) k j).1.length):
  (opened c num (fJ L) k i).1.length+(opened c num (fJ L) k i).2<=1048576:=by
 by_cases hk:(bV c.all ⟨k.os,k.rel⟩).isSome=true
 ·have hobj:∀k',∀s∈fJ L k',s∈L.map (·.2):=λk' s hs=>by
   obtain⟨x,hx,rfl⟩:=acq.1 hs
   exact acq.2 ⟨x,(acA.1 hx).1,rfl⟩
  have hcl:pX c num (fJ L) λx=>(bV c.all ⟨x.os,x.rel⟩).isSome=true/\x.obj∈k.obj::L.map λy=>(y.2.ss,y.2.si):=λx hx n hn y hy=>by
   refine⟨BP hE hc hn hy,?_⟩
   have hm:∀z s,s∈gD c (fJ L) z->(s.ss,s.si)∈k.obj::L.map λy=>(y.2.ss,y.2.si):=λz s hs=>by
    obtain⟨w,hw,rfl⟩:=acq.1 (sj hobj hs)
    exact acF _ (acq.2 ⟨w,hw,rfl⟩)
   unfold eC at hy
   split at hy
   ·obtain⟨s,hs,rfl⟩:=acq.1 hy
    exact hm _ s hs
   ·split at hy
    ·obtain⟨s,hs,rfl⟩:=acq.1 hy
     exact hm _ s hs
    ·split at hy
     ·rw[acD]at hy
      subst hy
      exact hx.2
     ·cases hy
  have hpi:=uY (num:=num) hcl ⟨hk,acz⟩ i
  obtain⟨ks,hks⟩:∃ks,ks=(opened c num (fJ L) k i).1.map (·.k):=⟨_,rfl⟩
  have hnd:ks.Nodup:=hks▸hpi.nd
  have hu2:∀x∈ks,(bV c.all ⟨x.os,x.rel⟩).isSome=true/\x.obj∈k.obj::L.map λy=>(y.2.ss,y.2.si):=λx hx=>by
   rw[hks]at hx
   obtain⟨p,hp,rfl⟩:=acq.1 hx
   exact(hpi.u p hp).1
  have hcnt:∀o,(ks.countP λx=>decide (x.obj=o))<=6:=λo=>MX hu hb hnd (λx hx=>(hu2 x hx).1) o
  have hlen:(opened c num (fJ L) k i).1.length=ks.length:=by rw[hks,acB]
  -- how many places
  have hP:ks.length<=(L.length+1)*6:=by
   have h1:=se (λ(x:aW) (o:ByteArray×ByteArray)=>decide (x.obj=o)) (k.obj::L.map λy=>(y.2.ss,y.2.si)) ks
   have h2:dF (ks.map λ_=>1)<=dF (ks.map λx=>(k.obj::L.map λy=>(y.2.ss,y.2.si)).countP λo=>decide (x.obj=o)):=og λx hx=>List.countP_pos_iff.2 ⟨_,(hu2 x hx).2,by simp⟩
   have h3:dF ((k.obj::L.map λy=>(y.2.ss,y.2.si)).map λo=>ks.countP λx=>decide (x.obj=o))<=dF ((k.obj::L.map λy=>(y.2.ss,y.2.si)).map λ_=>6):=og λo _=>hcnt o
   rw[oe,Nat.mul_one]at h2
   rw[oe]at h3
   simp only[acX,acB]at h3
   omega
  have hcost:=zO (c:=c) (num:=num) (sub:=fJ L) (k:=k) i hlt
  rw[<-hks,List.map_take]at hcost
  have h4:dF (ks.map (cost c num (fJ L)))<=dF (ks.map λx=>64*(1+L.countP λy=>decide (y.1.obj=x.obj))):=og λx _=>CD hc x
  rw[zp,rZ,oe]at h4
  have h5:dF (ks.map λx=>L.countP λy=>decide (y.1.obj=x.obj))<=L.length*6:=by
   rw[se (λ(x:aW) (y:aW×Sub)=>decide (y.1.obj=x.obj)) L ks]
   refine acJ (og (g:=λ_=>6) λy _=>?_) (by rw[oe];exact acC _)
   have:=hcnt y.1.obj
   refine acJ (Nat.le_of_eq ?_) this
   congr 1
   funext x
   exact decide_eq_decide.2 ⟨Eq.symm,Eq.symm⟩
  have h6:=Ng (l:=ks.map (cost c num (fJ L))) i
  rw[hlen]
  omega
 ·have h0:∀i,opened c num (fJ L) k i=([one c num k],0)\/(opened c num (fJ L) k i).1.length=1/\(opened c num (fJ L) k i).2=0/\∀p∈(opened c num (fJ L) k i).1,p.nodes=[]:=by
   intro i
   have hno:(one c num k).nodes=[]:=by
    unfold one
    cases hr:bV c.all ⟨k.os,k.rel⟩with
    |none=>rfl
    |some r=>rw[hr]at hk;exact absurd rfl hk
   right
   induction i with
   |zero=>exact⟨rfl,rfl,λp hp=>by simp only[opened,acD]at hp;rw[hp];exact hno⟩
   |succ i ih=>
    obtain⟨h1,h2,h3⟩:=ih
    obtain⟨ps,hps⟩:∃ps,ps=(opened c num (fJ L) k i).1:=⟨_,rfl⟩
    have g1:(opened c num (fJ L) k (i+1)).1=(eJ c num (fJ L) ps i).1:=by rw[hps];rfl
    have g2:(opened c num (fJ L) k (i+1)).2=(opened c num (fJ L) k i).2+(eJ c num (fJ L) ps i).2:=by rw[hps];rfl
    rw[g1,g2,h2]
    rw[<-hps]at h1 h3
    unfold eJ
    cases hp:ps[i]? with
    |none=>exact⟨h1,rfl,h3⟩
    |some p=>
     have hpn:=h3 p (aR hp)
     simp only[hpn,dC]
     refine⟨by rw[adf];exact h1,rfl,λq hq=>?_⟩
     rcases adB hq with hq|rfl
     ·exact h3 q hq
     ·rfl
  rcases h0 i with h|⟨h1,h2,_⟩
  ·rw[h];simp
  ·rw[h1,h2];omega
end
def Ty.enc(t:Ty):List Value:=[.string t.space,.string t.rel]
def Nd.enc(n:Nd):List Value:=[.int .i64 n.kind,.string n.rel,.string n.ec,.int .i64 n.a,.int .i64 n.b]
def Sc.enc(s:Sc):List Value:=[.string s.name,.string s.kb,.string s.sC,.string s.rel]
def Ty.fits(t:Ty):Prop:=t.space.size<=9223372036854775807/\t.rel.size<=9223372036854775807
def Nd.fits(n:Nd):Prop:=n.rel.size<=9223372036854775807/\n.ec.size<=9223372036854775807
def Sc.fits(s:Sc):Prop:=s.name.size<=9223372036854775807/\s.kb.size<=9223372036854775807/\s.sC.size<=9223372036854775807/\s.rel.size<=9223372036854775807
structure cm where
 vt:Value
 vn:Value
 r:Rl
def cm.enc(p:cm):List Value:=[.string p.r.name,p.vt,p.vn]
structure cm.is(R:aA)(p:cm):Prop where
 n:p.r.name.size<=9223372036854775807
 t:RS R 2 Ty.enc p.vt p.r.types
 d:RS R 5 Nd.enc p.vn p.r.nodes
 ft:∀x∈p.r.types,x.fits
 fd:∀x∈p.r.nodes,x.fits
structure cF where
 name:ByteArray
 v:Value
 bS:List cm
def cF.enc(s:cF):List Value:=[.string s.name,s.v]
def cF.plain(s:cF):Sp:=⟨s.name,s.bS.map (·.r)⟩
structure cF.is(R:aA)(s:cF):Prop where
 n:s.name.size<=9223372036854775807
 rs:RS R 3 cm.enc s.v s.bS
 all:∀r∈s.bS,r.is R
structure bO where
 vs:Value
 vc:Value
 aV:List cF
 scopes:List Sc
def bO.enc(c:bO):List Value:=[c.vs,c.vc]
def bO.plain(c:bO):Cf:=⟨c.aV.map (·.plain),c.scopes⟩
structure bO.is(R:aA)(c:bO):Prop where
 ss:RS R 2 cF.enc c.vs c.aV
 sc:RS R 4 Sc.enc c.vc c.scopes
 all:∀s∈c.aV,s.is R
 fc:∀s∈c.scopes,s.fits
section
variable{R R':aA}
theorem cm.is.mono{p:cm}(h:p.is R)(a:∀b o,R b o->R' b o):p.is R':=⟨h.n,h.t.mono a,h.d.mono a,h.ft,h.fd⟩
theorem cF.is.mono{s:cF}(h:s.is R)(a:∀b o,R b o->R' b o):s.is R':=⟨h.n,h.rs.mono a,λr c=>(h.all r c).mono a⟩
theorem bO.is.mono{c:bO}(h:c.is R)(a:∀b o,R b o->R' b o):c.is R':=⟨h.ss.mono a,h.sc.mono a,λs d=>(h.all s d).mono a,h.fc⟩
instance Ty.one(t:Ty):cM t.enc:=⟨by simp[Ty.enc,ay]⟩
instance Nd.one(n:Nd):cM n.enc:=⟨by simp[Nd.enc,ay]⟩
instance Sc.one(s:Sc):cM s.enc:=⟨by simp[Sc.enc,ay]⟩
theorem cm.is.dl{p:cm}(h:p.is R):∀u∈p.enc,ay u=true:=by
 have b:=h.t.ay
 have c:=h.d.ay
 intro u a
 simp only[cm.enc,acG,adI,or_false]at a
 rcases a with rfl|rfl|rfl
 ·rfl
 ·exact b.h
 ·exact c.h
theorem cF.is.dl{s:cF}(h:s.is R):∀u∈s.enc,ay u=true:=by
 have b:=h.rs.ay
 intro u a
 simp only[cF.enc,acG,adI,or_false]at a
 rcases a with rfl|rfl
 ·rfl
 ·exact b.h
theorem bO.is.dl{c:bO}(h:c.is R):∀u∈c.enc,ay u=true:=by
 have b:=h.ss.ay
 have d:=h.sc.ay
 intro u a
 simp only[bO.enc,acG,adI,or_false]at a
 rcases a with rfl|rfl
 ·exact b.h
 ·exact d.h
end
set_option linter.unusedSimpArgs false
def tA(o:Option (Nat×Nat)):Int:=match o with|none=> -1|some r=>r.1
def tB(o:Option (Nat×Nat)):Nat:=match o with|none=>0|some r=>r.2
theorem Bb{o:Option (Nat×Nat)}(h:tA o<0):o=none:=by
 cases o with
 |none=>rfl
 |some r=>simp only[tA]at h;omega
theorem Bc{o:Option (Nat×Nat)}(h:¬tA o<0):∃b x,o=some (b,x):=by
 cases o with
 |none=>simp[tA]at h
 |some r=>exact⟨r.1,r.2,rfl⟩
theorem nJ{W:ByteArray->Bool}{l:List Nd}{m b x:Nat}(h:tree W l m=some (b,x)):b<m/\m<=l.length:=⟨(iY m _ h).2.2.1,(iY m _ h).2.1⟩
theorem we{W:ByteArray->Bool}{l:List Nd}{e:Nat}{n:Nd}(c:l[e]? =some n)(h:n.op=true):tree W l (e+1)=(tree W l e).bind λp=>(tree W l p.1).bind λq=>if n.a≠(p.1:Int)-1\/n.b≠(e:Int)-1\/n.rel≠⟨#[]⟩\/n.ec≠⟨#[]⟩then none else some (q.1,max p.2 q.2+1):=by
 rw[tree]
 simp only[c,h,acR]
 cases ht:tree W l e with
 |none=>rfl
 |some p=>
  obtain⟨b,x⟩:=p
  have d:=nJ ht
  simp only[acQ]
  rw[acN (by omega:b<=e)]
  cases tree W l b with
  |none=>rfl
  |some q=>rfl
theorem v9{W:ByteArray->Bool}{l:List Nd}:∀(m b x:Nat),tree W l m=some (b,x)->x<=m:=by
 intro m
 induction m using Nat.strongRecOn with
 |_ m ih=>
  intro b x h
  have o:=nJ h
  obtain⟨e,rfl⟩:∃e,m=e+1:=⟨m-1,by omega⟩
  obtain⟨n,a⟩:∃n,l[e]? =some n:=⟨_,bk (by omega)⟩
  cases ho:n.op with
  |false=>
   rw[lp a ho]at h
   split at h
   ·cases h;omega
   ·cases h
  |true=>
   obtain⟨c,p,y,d,i,f,_,_,_,_,g⟩:=nI a ho h
   have j:=ih e (by omega) _ _ d
   have k:=ih c (by omega) _ _ f
   simp only at g
   omega
theorem Po(v:Value)(l:List Nd)(R:aA)(h:RS R 5 Nd.enc v l)(hf:∀x∈l,x.fits):∀(m:Nat),m<=l.length->∀j:Int,j=(m:Int)-1->
  Spec prog 187 [v,.int .i64 j] R [] λu H'=>u=.tuple [.int .i64 (tA (tree isWord l m)),.int .i64 (tB (tree isWord l m):Nat)].toArray/\H'=[]:=by
 intro m
 induction m using Nat.strongRecOn with
 |_ m ih=>
 intro hm j hj
 have a2:=h.le
 refine Spec.body func187 rfl results187 ntmps187 rfl<|.sr<|.ag rfl<|.ag rfl<|.zs<|.sr<|.mo rfl<|.q .lss<|.zn<|.cond rfl (λH=>?_) λH=>?_
 have h0:m=0:=by have:=cL H;omega
 subst h0
 refine .sr<|.ag rfl<|.az rfl<|.ret (aJ (br _ (.two (.tmp rfl) (.tmp rfl)) (.none _) ?_))
 ·exact⟨by rw[tree];rfl,rfl⟩
 obtain⟨e,rfl⟩:∃e,m=e+1:=⟨m-1,by have:=bI H;omega⟩
 have a0:j=(e:Int):=by omega
 subst a0
 obtain⟨n,G⟩:∃n,l[e]? =some n:=⟨_,bk (by omega)⟩
 have S:=hf n (aR G)
 refine .kn<|.sr<|.mo rfl<|.mo rfl ?_
 refine .bF e h G (λa5=>?_)
 refine .q (.aL rfl) ?_
 refine .cq (λI=>?_)
 refine .bZ rfl rfl<|.zs<|.seq ?_
 refine bu.dc [(0,_),(1,_),(6,_)] kE.c.c.c (X:=Unit) (λ_=>True) (λ_ E=>(30,.bool n.op)::E) (λ_=>[bl I n.enc 199]) ?_ ?_
 refine .region<|.fa rfl<|.lo rfl<|.q .cr<|.mo rfl<|.split (t:=21) rfl (λi=>?_) (λi=>?_)
 refine .gF i<|.gF i<|.gF i<|.q (.aU i)<|.mo rfl<|.gX<|.gX<|.gX<|.q .dj<|.nil ?_
 ·exact aD () acr (kE.c.c.c.cj rfl (by simp[Nd.op,H,i])) rH
 refine .gT i<|.fa rfl<|.gT i<|.lo rfl<|.gT i<|.q .cr<|.q (.aN i)<|.mo rfl<|.split (t:=26) rfl (λo=>?_) (λo=>?_)
 refine .gF o<|.gF o<|.gF o<|.q (.aU o)<|.nil ?_
 ·exact aD () acr (kE.c.c.c.cj rfl (by simp[Nd.op,H,i,o])) rH
 refine .gT o<|.fa rfl<|.gT o<|.lo rfl<|.gT o<|.q .cr<|.q (.aN o)<|.nil ?_
 ·exact aD () acr (kE.c.c.c.cj rfl (by simp[Nd.op,H,i,o])) rH
 intro y Z
 refine au<|.cond rfl (λD=>?_) λD=>?_
 refine .sr<|.mo rfl<|.mo rfl<|.q (.i64 ((e:Int)-1) .sub ⟨rfl,by omega,by omega⟩)<|.aQ ((ih e (by omega) (by omega) _ rfl).weaken dt) (λu d=>?_)
 subst d
 refine .mo rfl<|.q .extract<|.q .extract<|.ag rfl<|.ag rfl<|.zs<|.sr<|.mo rfl<|.q .lss<|.zn<|.cond rfl (λL=>?_) λL=>?_
 have F:=Bb (cL L)
 refine .sr<|.ag rfl<|.az rfl<|.ret (aJ (aJ (br _ (.two (.tmp rfl) (.tmp rfl)) (.none _) ?_)))
 ·exact⟨by rw[we G D,F];rfl,rfl⟩
 obtain⟨b,x,F⟩:=Bc (bI L)
 have W:tA (tree isWord l e)=(b:Int):=by rw[F];rfl
 have U:tB (tree isWord l e)=x:=by rw[F];rfl
 have a1:=nJ F
 have a3:=v9 _ _ _ F
 refine .kn<|.sr<|.mo rfl<|.mo rfl<|.q (.i64 ((b:Int)-1) .sub ⟨by rw[W],by omega,by omega⟩)<|.aQ ((ih b (by omega) (by omega) _ rfl).weaken dt) (λu d=>?_)
 subst d
 refine .mo rfl<|.q .extract<|.q .extract<|.ag rfl<|.ag rfl<|.zs<|.seq ?_
 refine bu.dc [(8,_),(9,_),(10,_)] kE.c.c.c (X:=Unit) (λ_=>True) (λ_ E=>(72,.bool (decide (tA (tree isWord l b)<0\/n.a≠(b:Int)-1\/n.b≠(e:Int)-1\/n.rel≠⟨#[]⟩\/n.ec≠⟨#[]⟩)))::E) (λ_=>[bl I n.enc 199]) ?_ ?_
 refine .region<|.mo rfl<|.q .lss<|.mo rfl<|.split (t:=49) rfl (λf=>?_) (λf=>?_)
 refine .gF f<|.gF f<|.gF f<|.gF f<|.gF f<|.q (.aU f)<|.mo rfl<|.gX<|.gX<|.gX<|.gX<|.gX<|.q .dj<|.mo rfl<|.gX<|.gX<|.gX<|.q .dj<|.mo rfl<|.gX<|.gX<|.gX<|.q .dj<|.nil ?_
 ·exact aD () acr (kE.c.c.c.cj rfl (by clear ih;grind)) rH
 refine .gT f<|.fa rfl<|.gT f<|.lo rfl<|.gT f<|.mo rfl<|.gT f<|.q (.i64 ((b:Int)-1) .sub ⟨by rw[W],by omega,by omega⟩)<|.gT f<|.q .de<|.q (.aN f)<|.mo rfl<|.split (t:=56) rfl (λg=>?_) (λg=>?_)
 refine .gF g<|.gF g<|.gF g<|.gF g<|.gF g<|.q (.aU g)<|.mo rfl<|.gX<|.gX<|.gX<|.q .dj<|.mo rfl<|.gX<|.gX<|.gX<|.q .dj<|.nil ?_
 ·exact aD () acr (kE.c.c.c.cj rfl (by clear ih;grind)) rH
 refine .gT g<|.fa rfl<|.gT g<|.lo rfl<|.gT g<|.mo rfl<|.gT g<|.q (.i64 ((e:Int)-1) .sub ⟨rfl,by omega,by omega⟩)<|.gT g<|.q .de<|.q (.aN g)<|.mo rfl<|.split (t:=63) rfl (λB=>?_) (λB=>?_)
 refine .gF B<|.gF B<|.gF B<|.q (.aU B)<|.mo rfl<|.gX<|.gX<|.gX<|.q .dj<|.nil ?_
 ·exact aD () acr (kE.c.c.c.cj rfl (by clear ih;grind)) rH
 refine .gT B<|.fa rfl<|.gT B<|.lo rfl<|.gT B<|.q .iJ<|.q (.aN B)<|.mo rfl<|.split (t:=68) rfl (λC=>?_) (λC=>?_)
 refine .gF C<|.gF C<|.gF C<|.q (.aU C)<|.nil ?_
 ·exact aD () acr (kE.c.c.c.cj rfl (by clear ih;grind)) rH
 refine .gT C<|.fa rfl<|.gT C<|.lo rfl<|.gT C<|.q .iJ<|.q (.aN C)<|.nil ?_
 ·exact aD () acr (kE.c.c.c.cj rfl (by clear ih;grind)) rH
 intro y Z
 refine au<|.cond rfl (λM=>?_) λM=>?_
 have hc:=cL M
 refine .sr<|.ag rfl<|.az rfl<|.ret (aJ (aJ (br _ (.two (.tmp rfl) (.tmp rfl)) (.none _) ?_)))
 ·refine⟨?_,rfl⟩
  have J:tree isWord l (e+1)=none:=by
   rw[we G D,F,acQ]
   rcases hc with hc|hc
   ·rw[Bb hc];rfl
   ·cases tree isWord l b with
    |none=>rfl
    |some q=>rw[acQ,acp hc]
  rw[J]
  rfl
 have hc:=bI M
 simp only[not_or]at hc
 obtain⟨a,y,d⟩:=Bc hc.1
 have Y:tA (tree isWord l b)=(a:Int):=by rw[d];rfl
 have V:tB (tree isWord l b)=y:=by rw[d];rfl
 have a4:=v9 _ _ _ d
 have J:tree isWord l (e+1)=some (a,max x y+1):=by rw[we G D,F,acQ,d,acQ,aco (by simp only[not_or];exact hc.2)]
 refine .kn<|.seq<|.sr<|.mo rfl<|.mo rfl<|.q .gtr<|.zn<|.cond rfl (λN=>?_) λN=>?_
 refine .sr<|.mo rfl<|.mo rfl<|.q (.i64 ((y+1:Nat):Int) .add ⟨by rw[V];rfl,by omega,by omega⟩)<|.ag rfl<|.az rfl<|.ret (aJ (aJ (br _ (.two (.tmp rfl) (.tmp rfl)) (.none _) ?_)))
 ·refine⟨?_,rfl⟩
  have T:=cL N
  rw[V,U]at T
  rw[J,Y]
  simp only[tA,tB]
  rw[show max x y=y by omega]
 refine .kn<|.sr<|.mo rfl<|.mo rfl<|.q (.i64 ((x+1:Nat):Int) .add ⟨by rw[U];rfl,by omega,by omega⟩)<|.ag rfl<|.az rfl<|.ret (aJ (br _ (.two (.tmp rfl) (.tmp rfl)) (.none _) ?_))
 ·refine⟨?_,rfl⟩
  have T:=bI N
  rw[V,U]at T
  rw[J,Y]
  simp only[tA,tB]
  rw[show max x y=x by omega]
 refine .kn<|.seq ?_
 refine bu.dc [(1,_),(6,_)] kE.c.c (X:=Unit) (λ_=>True) (λ_ E=>(11,.bool (n.a==0&&n.b==0))::E) (λ_=>[bl I n.enc 199]) ?_ ?_
 refine .region<|.fa rfl<|.lo rfl<|.q .cr<|.mo rfl<|.split (t:=85) rfl (λk=>?_) (λk=>?_)
 refine .gT k<|.fa rfl<|.gT k<|.lo rfl<|.gT k<|.q .cr<|.q (.aU k)<|.ag rfl<|.nil ?_
 ·exact aD () acr (kE.c.c.cj rfl (by simp[D,k])) rH
 refine .gF k<|.gF k<|.gF k<|.q (.aN k)<|.ag rfl<|.nil ?_
 ·exact aD () acr (kE.c.c.cj rfl (by simp[D,k])) rH
 intro y Z
 refine au<|.seq<|.sr<|.fa rfl<|.lo rfl<|.q .cr<|.zn ?_
 refine bu.dc [(1,_)] kE.c (X:=Unit) (λ_=>True) (λ_ E=>(11,.bool (n.leaf isWord))::E) (λ_=>[bl I n.enc 199]) ?_ ?_
 refine .cond rfl (λh6=>?_) λh6=>?_
 refine .region<|.mo rfl<|.mo rfl<|.split (t:=94) rfl (λp=>?_) (λp=>?_)
 refine .gT p<|.fa rfl<|.gT p<|.lo rfl<|.gT p<|.q .fb<|.q (.aU p)<|.mo rfl<|.split (t:=99) rfl (λr=>?_) (λr=>?_)
 refine .gT r<|.fa rfl<|.gT r<|.lo rfl<|.gT r<|.q .fb<|.q (.aU r)<|.ag rfl<|.nil ?_
 ·exact aD () acr (kE.c.cj rfl (by clear ih;grind[Nd.leaf])) rH
 refine .gF r<|.gF r<|.gF r<|.q (.aN r)<|.ag rfl<|.nil ?_
 ·exact aD () acr (kE.c.cj rfl (by clear ih;grind[Nd.leaf])) rH
 refine .gF p<|.gF p<|.gF p<|.q (.aN p)<|.mo rfl<|.gX<|.gX<|.gX<|.q .dq<|.ag rfl<|.nil ?_
 ·exact aD () acr (kE.c.cj rfl (by clear ih;grind[Nd.leaf])) rH
 refine .sr<|.fa rfl<|.lo rfl<|.q .cr<|.zn<|.cond rfl (λh7=>?_) λh7=>?_
 refine .region<|.mo rfl<|.mo rfl<|.split (t:=108) rfl (λs=>?_) (λs=>?_)
 refine .gT s<|.fa rfl<|.gT s<|.lo rfl<|.gT s<|.aQ (ke n.rel S.1 _) (λu d=>?_)
 subst d
 refine .q (.aU s)<|.mo rfl<|.split (t:=113) rfl (λw=>?_) (λw=>?_)
 refine .gT w<|.fa rfl<|.gT w<|.lo rfl<|.gT w<|.q .fb<|.q (.aU w)<|.ag rfl<|.nil ?_
 ·exact aD () acr (kE.c.cj rfl (by clear ih;grind[Nd.leaf])) rH
 refine .gF w<|.gF w<|.gF w<|.q (.aN w)<|.ag rfl<|.nil ?_
 ·exact aD () acr (kE.c.cj rfl (by clear ih;grind[Nd.leaf])) rH
 refine .gF s<|.gF s<|.gF s<|.q (.aN s)<|.mo rfl<|.gX<|.gX<|.gX<|.q .dq<|.ag rfl<|.nil ?_
 ·exact aD () acr (kE.c.cj rfl (by clear ih;grind[Nd.leaf])) rH
 refine .sr<|.fa rfl<|.lo rfl<|.q .cr<|.zn<|.cond rfl (λh8=>?_) λh8=>?_
 refine .region<|.mo rfl<|.mo rfl<|.split (t:=122) rfl (λz=>?_) (λz=>?_)
 refine .gT z<|.fa rfl<|.gT z<|.lo rfl<|.gT z<|.aQ (ke n.rel S.1 _) (λu d=>?_)
 subst d
 refine .q (.aU z)<|.mo rfl<|.split (t:=127) rfl (λA=>?_) (λA=>?_)
 refine .gT A<|.fa rfl<|.gT A<|.lo rfl<|.gT A<|.aQ (ke n.ec S.2 _) (λu d=>?_)
 subst d
 refine .q (.aU A)<|.ag rfl<|.nil ?_
 ·exact aD () acr (kE.c.cj rfl (by clear ih;grind[Nd.leaf])) rH
 refine .gF A<|.gF A<|.gF A<|.q (.aN A)<|.ag rfl<|.nil ?_
 ·exact aD () acr (kE.c.cj rfl (by clear ih;grind[Nd.leaf])) rH
 refine .gF z<|.gF z<|.gF z<|.q (.aN z)<|.mo rfl<|.gX<|.gX<|.gX<|.q .dq<|.ag rfl<|.nil ?_
 ·exact aD () acr (kE.c.cj rfl (by clear ih;grind[Nd.leaf])) rH
 refine .region<|.ag rfl<|.nil ?_
 ·exact aD () acr (kE.c.cj rfl (by clear ih;grind[Nd.leaf])) rH
 intro x hx
 refine au<|.seq<|.sr<|.mo rfl<|.q .not<|.zn<|.cond rfl (λO=>?_) λO=>?_
 refine .sr<|.ag rfl<|.az rfl<|.ret (aJ (br _ (.two (.tmp rfl) (.tmp rfl)) (.none _) ?_))
 ·refine⟨?_,rfl⟩
  have K:n.op=false:=D
  have Q:¬n.leaf isWord=true:=by simpa using O
  rw[lp G K,aco Q]
  rfl
 refine .kn<|.sr<|.mo rfl<|.ag rfl<|.az rfl<|.ret (br _ (.two (.tmp rfl) (.tmp rfl)) (.none _) ?_)
 ·refine⟨?_,rfl⟩
  have K:n.op=false:=D
  have Q:n.leaf isWord=true:=by simpa using O
  rw[lp G K,acp Q]
  rfl
theorem Ag(v:Value)(l:List Nd)(R:aA)(h:RS R 5 Nd.enc v l)(c:∀x∈l,x.fits):
  Spec prog 138 [v] R [] λu H'=>u=.int .i64 (fT isWord l:Nat)/\H'=[]:=by
 have e:=h.le
 refine Spec.body func138 rfl results138 ntmps138 rfl<|.sr<|.ag rfl<|.z<|.mo rfl<|.mo rfl<|.q (.bK h)<|.q (.i64 ((l.length:Int)-1) .sub ⟨rfl,by omega,by omega⟩)<|.aQ ((Po v l R h c l.length (acC _) _ rfl).weaken dt) (λu d=>?_)
 subst d
 refine .mo rfl<|.q .extract<|.q .extract<|.ag rfl<|.ag rfl<|.zs<|.sr<|.mo rfl<|.q .de<|.zn<|.cond rfl (λa=>?_) λa=>?_
 refine .sr<|.az rfl<|.ret (aJ (aP rfl ?_))
 ·refine⟨?_,rfl⟩
  unfold fT
  cases ht:tree isWord l l.length with
  |none=>rfl
  |some r=>
   rw[ht]at a
   simp only[tA]at a
   have b:¬r.1=0:=by simp at a;omega
   simp[b]
 refine .kn<|.sr<|.mo rfl<|.az rfl<|.ret (aP rfl ?_)
 ·refine⟨?_,rfl⟩
  unfold fT
  cases ht:tree isWord l l.length with
  |none=>rfl
  |some r=>
   rw[ht]at a
   simp only[tA]at a
   have b:r.1=0:=by simp at a;omega
   simp[b,tB]
structure bf where
 t:aw
 fr:Int
 to:Int
def bf.enc(x:bf):List Value:=x.t.enc++[.int .u64 x.fr,.int .u64 x.to]
structure cz where
 put:Bool
 t:aw
def cz.enc(c:cz):List Value:=.bool c.put::c.t.enc
instance cz.one(c:cz):cM c.enc:=⟨by simp[cz.enc,aw.enc,ay]⟩
def jh(b:Nat):List Value:=[pT b]
def bf.there(x:bf)(r:Int):Bool:=decide (x.fr<=r)&&(x.to==0||decide (r<x.to))
def bf.eS(t:aw)(x:bf):Bool:=decide (x.t=t)&&x.to==0
def dE(L:List bf)(t:aw):Bool:=L.any (bf.eS t)
def fQ(bj no:List aw)(cs:List cz):Int:=
 if 32<cs.length\/cs.length=0\/32<bj.length\/32<no.length then 25
 else if bj.any (λt=> !eQ t)||no.any (λt=> !eQ t)||cs.any (λc=> !eQ c.t)then 9
 else if ¬(cs.map (·.t)).Nodup then 2 else 0
def fx(cs:List cz):Nat:=(cs.filter (·.put)).length
def fj(L:List bf)(head:Int)(bj no:List aw)(cs:List cz):Int:=
 if bj.any (λt=> !dE L t)||no.any (λt=>dE L t)then 13
 else if cs.any (λc=>c.put&&dE L c.t)then 10
 else if cs.any (λc=> !c.put&& !dE L c.t)then 11
 else if 4611686018427387903<=head\/4096<L.length+fx cs/\0<fx cs then 8 else 0
def bf.close(t:aw)(r:Int)(x:bf):bf:=if x.eS t then⟨x.t,x.fr,r⟩else x
def fi(r:Int)(L:List bf)(c:cz):List bf:=if c.put then L++[⟨c.t,r,0⟩]else L.map (bf.close c.t r)
structure cE where
 rows:List bf
 head:Int
 dV:Int
def fY(S:cE)(bj no:List aw)(cs:List cz):Int:=if fQ bj no cs≠0 then fQ bj no cs else fj S.rows S.head bj no cs
def fy(S:cE)(bj no:List aw)(cs:List cz):cE:=if fY S bj no cs=0 then⟨cs.foldl (fi (S.head+1)) S.rows,S.head+1,S.dV⟩else S
def scan(S:cE)(r:Int):Bool:=decide (S.dV<=r)&&decide (r<=S.head)
structure eH(S:cE):Prop where
 ok:∀x∈S.rows,eQ x.t=true/\1<=x.fr/\x.fr<=S.head/\(x.to=0\/(x.fr<x.to/\S.dV<x.to/\x.to<=S.head))
 pw:S.rows.Pairwise λx y=>x.t=y.t->x.to≠0/\x.to<=y.fr
 len:S.rows.length<=4096
 h0:0<=S.dV
 h1:S.dV<=S.head
 h2:S.head<=4611686018427387903
def mT(S:cE)(f:aw)(r:Int):List aw:=(S.rows.filter λx=>x.there r&&gl f x.t).map (·.t)
def gV(cs:List cz)(r:Int)(x:bf):bf:=if x.to=0/\cs.any (λc=> !c.put&&decide (c.t=x.t))=true then⟨x.t,x.fr,r⟩else x
def news(cs:List cz)(r:Int):List bf:=(cs.filter (·.put)).map λc=>⟨c.t,r,0⟩
theorem mD{cs:List cz}{r:Int}{x:bf}:(gV cs r x).t=x.t/\(gV cs r x).fr=x.fr:=by unfold gV;split<;>exact⟨rfl,rfl⟩
theorem qk{cs:List cz}{r:Int}{x:bf}(h:x.to≠0):gV cs r x=x:=by unfold gV;rw[aco λa=>h a.1]
theorem Cz{r:Int}{x:bf}:gV [] r x=x:=by unfold gV;rw[aco (by simp)]
theorem vJ{r:Int}(l:r≠0):∀(cs:List cz) (L:List bf),(cs.map (·.t)).Nodup->cs.foldl (fi r) L=L.map (gV cs r)++news cs r
 |[],L,_=>by
  have:L.map (gV [] r)=L:=by
   conv=>rhs;rw[<-List.map_id L]
   exact adl λx _=>Cz
  simp[news,this]
 |c::cs,L,hn=>by
  rw[acw,adg]at hn
  rw[adt,vJ l cs _ hn.2]
  have p:∀x:bf,x.t=c.t->gV cs r x=x:=λx m=>by
   unfold gV
   rw[aco]
   rintro⟨_,h⟩
   obtain⟨d,o,k⟩:=acP.1 h
   simp only[acv,acu]at k
   exact hn.1 (acq.2 ⟨d,o,k.2.trans m⟩)
  cases hp:c.put with
  |true=>
   have n:gV (c::cs) r=gV cs r:=by
    funext x
    unfold gV
    simp only[List.any_cons,hp,Bool.not_true,Bool.false_and,acW]
   have f:news (c::cs) r=⟨c.t,r,0⟩::news cs r:=by unfold news;rw[ac2,acp hp];rfl
   rw[n,f]
   unfold fi
   rw[acp hp,acE,ade]
   congr 1
   rw[acw,ac5,p _ rfl];rfl
  |false=>
   have f:news (c::cs) r=news cs r:=by unfold news;rw[ac2,aco (by simp[hp])]
   rw[f]
   unfold fi
   rw[aco (by simp[hp]),List.map_map]
   congr 1
   refine adl λx m=>?_
   simp only[Function.comp]
   by_cases b:x.eS c.t=true
   ·have e:x.t=c.t/\x.to=0:=by unfold bf.eS at b;simpa using b
    have g:bf.close c.t r x=⟨x.t,x.fr,r⟩:=by unfold bf.close;rw[acp b]
    rw[g,qk l]
    unfold gV
    rw[acp ⟨e.2,by simp[hp,e.1]⟩]
   ·have g:bf.close c.t r x=x:=by unfold bf.close;rw[aco b]
    rw[g]
    unfold gV
    have e:x.to=0->¬c.t=x.t:=λa i=>b (by unfold bf.eS;simp[a,i])
    by_cases a:x.to=0
    ·have i:=e a
     simp[a,hp,i]
    ·rw[aco λj=>a j.1,aco λj=>a j.1]
structure oL(S:cE)(cs:List cz):Prop where
 right:∀c∈cs,eQ c.t=true
 nd:(cs.map (·.t)).Nodup
 ry:∀c∈cs,c.put=true->dE S.rows c.t=false
 there:∀c∈cs,c.put=false->dE S.rows c.t=true
 head:S.head<4611686018427387903
 len:S.rows.length+fx cs<=4096\/fx cs=0
theorem sU{S:cE}{bj no:List aw}{cs:List cz}(h:fY S bj no cs=0):oL S cs:=by
 unfold fY at h
 split at h
 ·rename_i a;exact absurd h a
 ·rename_i a
  have a:fQ bj no cs=0:=Classical.byContradiction a
  unfold fQ at a
  split at a
  ·cases a
  ·split at a
   ·cases a
   ·split at a
    ·cases a
    ·rename_i j e i
     simp only[acx,not_or,acP,not_exists,not_and,adj,Bool.not_eq_false]at e
     unfold fj at h
     split at h
     ·cases h
     ·split at h
      ·cases h
      ·split at h
       ·cases h
       ·split at h
        ·cases h
        ·rename_i k f g l
         simp only[acP,not_exists,not_and,acv,adj,Bool.not_eq_true,Bool.not_eq_false]at f g
         refine⟨λc b=>e.2 c b,Classical.byContradiction i,λc b d=>f c b d,λc b d=>g c b d,by omega,by omega⟩
theorem vW{L:List bf}{t:aw}:dE L t=false↔∀x∈L,x.t=t->x.to≠0:=by
 unfold dE
 rw[adn]
 refine forall_congr' λx=>forall_congr' λa=>?_
 unfold bf.eS
 simp
theorem vY{S:cE}(a:eH S){bj no:List aw}{cs:List cz}(h:fY S bj no cs=0):fy S bj no cs=⟨S.rows.map (gV cs (S.head+1))++news cs (S.head+1),S.head+1,S.dV⟩:=by
 unfold fy
 rw[acp h,vJ (by have:=a.h0;have:=a.h1;omega) _ _ (sU h).nd]
theorem pP{S:cE}{bj no:List aw}{cs:List cz}(h:fY S bj no cs≠0):fy S bj no cs=S:=by unfold fy;rw[aco h]
theorem qH{cs:List cz}{r:Int}{x:bf}:x∈news cs r↔∃c∈cs,c.put=true/\x=⟨c.t,r,0⟩:=by
 unfold news
 rw[acq]
 constructor
 ·rintro⟨c,a,rfl⟩
  have:=acA.1 a
  exact⟨c,this.1,this.2,rfl⟩
 ·rintro⟨c,a,b,rfl⟩
  exact⟨c,acA.2 ⟨a,b⟩,rfl⟩
theorem eH.write{S:cE}(a:eH S)(bj no:List aw)(cs:List cz):eH (fy S bj no cs):=by
 by_cases h:fY S bj no cs=0
 ·have e:=sU h
  rw[vY a h]
  have o:=a.h0;have v:=a.h1;have w:=a.h2;have A:=e.head
  refine⟨λx hx=>?_,?_,?_,o,by simp only;omega,by simp only;omega⟩
  ·simp only at hx⊢
   rcases acI.1 hx with hx|hx
   ·obtain⟨y,j,rfl⟩:=acq.1 hx
    obtain⟨p,q,B,b4⟩:=a.ok y j
    obtain⟨d,f⟩:=mD (cs:=cs) (r:=S.head+1) (x:=y)
    rw[d,f]
    refine⟨p,q,by omega,?_⟩
    unfold gV
    split
    ·right;simp only;omega
    ·rcases b4 with b4|b4
     ·exact .inl b4
     ·right;omega
   ·obtain⟨c,g,m,rfl⟩:=qH.1 hx
    exact⟨e.right c g,by simp only;omega,by simp only;omega,.inl rfl⟩
  ·simp only
   rw[List.pairwise_append]
   refine⟨?_,?_,λx hx y j=>?_⟩
   ·rw[ac1]
    refine a.pw.imp λ{x y} i b=>?_
    obtain⟨d,f⟩:=mD (cs:=cs) (r:=S.head+1) (x:=x)
    obtain⟨s,t⟩:=mD (cs:=cs) (r:=S.head+1) (x:=y)
    rw[d,s]at b
    obtain⟨k,u⟩:=i b
    rw[qk k,t]
    exact⟨k,u⟩
   ·unfold news
    rw[ac1]
    have:=e.nd
    rw[List.Nodup,ac1]at this
    exact(this.sublist List.filter_sublist).imp λ{x y} i b=>absurd b i
   ·intro b
    obtain⟨z,n,rfl⟩:=acq.1 hx
    obtain⟨c,g,m,rfl⟩:=qH.1 j
    obtain⟨d,f⟩:=mD (cs:=cs) (r:=S.head+1) (x:=z)
    rw[d]at b
    have l:=vW.1 (e.ry c g m) z n b
    rw[qk l]
    refine⟨l,?_⟩
    obtain⟨_,_,_,C⟩:=a.ok z n
    simp only
    omega
  ·simp only[adm,acB,news]
   have D:=a.len
   have:=e.len
   unfold fx at this
   omega
 ·rw[pP h];exact a
theorem Qy{L:List bf}{g:bf->bf}{r:Int}{f:aw}(b:∀x∈L,(g x).t=x.t/\(g x).there r=x.there r):((L.map g).filter λx=>x.there r&&gl f x.t).map (·.t)=(L.filter λx=>x.there r&&gl f x.t).map (·.t):=by
 rw[List.filter_map,List.map_map]
 have c:L.filter ((λx=>x.there r&&gl f x.t)∘g)=L.filter λx=>x.there r&&gl f x.t:=List.filter_congr λx a=>by
  simp only[Function.comp,(b x a).1,(b x a).2]
 rw[c]
 exact adl λx a=>(b x (acA.1 a).1).1
theorem Qz{S:cE}(d:eH S)(bj no:List aw)(cs:List cz)(f:aw){r:Int}(i:r<=S.head):mT (fy S bj no cs) f r=mT S f r:=by
 by_cases h:fY S bj no cs=0
 ·rw[vY d h]
  unfold mT
  simp only
  rw[ac0,acE,Qy λx b=>?_]
  ·have:(news cs (S.head+1)).filter (λx=>x.there r&&gl f x.t)=[]:=by
    rw[adx]
    intro x b
    obtain⟨c,e,g,rfl⟩:=qH.1 b
    unfold bf.there
    simp only[acv,acu,not_and]
    intro a;omega
   rw[this];simp
  ·refine⟨mD.1,?_⟩
   unfold gV
   split
   ·rename_i a
    unfold bf.there
    simp only[a.1]
    have:decide (r<S.head+1)=true:=adb (by omega)
    rw[this];simp
   ·rfl
 ·rw[pP h]
theorem Qx{cs:List cz}{i:Nat}:fx (cs.take i)<=fx cs:=(List.Sublist.filter _ (adJ i cs)).length_le
theorem oL.take{S:cE}{cs:List cz}(h:oL S cs)(i:Nat):oL S (cs.take i):=by
 have b:∀c∈cs.take i,c∈cs:=λc a=>(adJ i cs).subset a
 refine⟨λc a=>h.right c (b c a),h.nd.sublist ((adJ i cs).map _),λc a=>h.ry c (b c a),λc a=>h.there c (b c a),h.head,?_⟩
 have d:=h.len
 have e:=Qx (cs:=cs) (i:=i)
 omega
theorem eH.fold{S:cE}(a:eH S){cs:List cz}(d:oL S cs):eH ⟨cs.foldl (fi (S.head+1)) S.rows,S.head+1,S.dV⟩:=by
 have n:=a.h0;have u:=a.h1;have v:=a.h2;have w:=d.head
 rw[vJ (by omega) _ _ d.nd]
 refine⟨λx hx=>?_,?_,?_,n,by simp only;omega,by simp only;omega⟩
 ·simp only at hx⊢
  rcases acI.1 hx with hx|hx
  ·obtain⟨y,i,rfl⟩:=acq.1 hx
   obtain⟨o,p,A,b4⟩:=a.ok y i
   obtain⟨e,f⟩:=mD (cs:=cs) (r:=S.head+1) (x:=y)
   rw[e,f]
   refine⟨o,p,by omega,?_⟩
   unfold gV
   split
   ·right;simp only;omega
   ·rcases b4 with b4|b4
    ·exact .inl b4
    ·right;omega
  ·obtain⟨c,g,l,rfl⟩:=qH.1 hx
   exact⟨d.right c g,by simp only;omega,by simp only;omega,.inl rfl⟩
 ·simp only
  rw[List.pairwise_append]
  refine⟨?_,?_,λx hx y i=>?_⟩
  ·rw[ac1]
   refine a.pw.imp λ{x y} h b=>?_
   obtain⟨e,f⟩:=mD (cs:=cs) (r:=S.head+1) (x:=x)
   obtain⟨q,s⟩:=mD (cs:=cs) (r:=S.head+1) (x:=y)
   rw[e,q]at b
   obtain⟨j,t⟩:=h b
   rw[qk j,s]
   exact⟨j,t⟩
  ·unfold news
   rw[ac1]
   have:=d.nd
   rw[List.Nodup,ac1]at this
   exact(this.sublist List.filter_sublist).imp λ{x y} h b=>absurd b h
  ·intro b
   obtain⟨z,m,rfl⟩:=acq.1 hx
   obtain⟨c,g,l,rfl⟩:=qH.1 i
   obtain⟨e,f⟩:=mD (cs:=cs) (r:=S.head+1) (x:=z)
   rw[e]at b
   have k:=vW.1 (d.ry c g l) z m b
   rw[qk k]
   refine⟨k,?_⟩
   obtain⟨_,_,_,B⟩:=a.ok z m
   simp only
   omega
 ·simp only[adm,acB,news]
  have C:=a.len
  have:=d.len
  unfold fx at this
  omega
theorem N8{t u:aw}{r:Int}{x:bf}(h:u≠t):(bf.close u r x).eS t=x.eS t:=by
 unfold bf.close
 split
 ·rename_i a
  unfold bf.eS at a⊢
  simp only[acv,acu]at a
  have b:¬x.t=t:=λe=>h (a.1.symm.trans e)
  simp[b]
 ·rfl
theorem vX{r:Int}{t:aw}:∀(cs:List cz) (L:List bf),t∉cs.map (·.t)->dE (cs.foldl (fi r) L) t=dE L t
 |[],_,_=>rfl
 |c::cs,L,h=>by
  rw[acw,acG,not_or]at h
  rw[adt,vX cs _ h.2]
  unfold fi dE
  split
  ·rw[List.any_append]
   have:bf.eS t ⟨c.t,r,0⟩=false:=by
    unfold bf.eS
    have a:¬c.t=t:=λe=>h.1 e.symm
    simp[a]
   simp[this]
  ·rw[List.any_map]
   congr 1
   funext x
   exact N8 λe=>h.1 e.symm
theorem xm{L:List bf}(m:L.Pairwise λx y=>x.t=y.t->x.to≠0/\x.to<=y.fr){j:Nat}{x:bf}(f:L[j]? =some x){t:aw}(ho:x.eS t=true)(r:Int):L.map (bf.close t r)=L.set j ⟨x.t,x.fr,r⟩:=by
 have d:x.t=t/\x.to=0:=by unfold bf.eS at ho;simpa using ho
 obtain⟨b,g⟩:=acL.1 f
 apply adr
 intro k
 rw[acy,ads]
 by_cases c:j=k
 ·subst c
  rw[acp rfl,acp b,f]
  simp only[acS]
  unfold bf.close
  rw[acp ho]
 ·rw[aco c]
  cases hy:L[k]? with
  |none=>rfl
  |some y=>
   simp only[acS,acY]
   unfold bf.close
   rw[aco]
   intro e
   have a:y.t=t/\y.to=0:=by unfold bf.eS at e;simpa using e
   obtain⟨h,i⟩:=acL.1 hy
   have l:=List.pairwise_iff_getElem.1 m
   rcases Nat.lt_or_gt_of_ne c with h4|h4
   ·have:=l j k b h h4
    rw[g,i]at this
    exact(this (d.1.trans a.1.symm)).1 d.2
   ·have:=l k j h b h4
    rw[g,i]at this
    exact(this (a.1.trans d.1.symm)).1 a.2
section
variable{κ β:Type} [DecidableEq κ]
def kx(k:κ)(A:List (κ×β)):List (κ×β):=A.filter λp=>decide (p.1≠k)
def pb(k:κ)(x:β)(A:List (κ×β)):List (κ×β):=kx k A++[(k,x)]
theorem zb{k:κ}{A:List (κ×β)}(h:k∉A.map (·.1)):kx k A=A:=by
 unfold kx
 rw[adK]
 intro p a
 simp only[acu]
 exact λe=>h (e▸List.mem_map_of_mem a)
theorem yZ{k:κ}{x:β}{A:List (κ×β)}(h:k∉A.map (·.1)):kx k ((k,x)::A)=A:=by
 have:=zb h
 unfold kx at *
 rw[ac2,aco (by simp)]
 exact this
theorem MV{k:κ}{x:β}{A B:List (κ×β)}(a:((A++(k,x)::B).map (·.1)).Nodup):kx k (A++(k,x)::B)=A++B:=by
 simp only[acE,acw,adq,adg,acG]at a
 obtain⟨_,⟨d,_⟩,e⟩:=a
 have b:kx k A=A:=zb λf=>e k f k (.inl rfl) rfl
 have c:kx k ((k,x)::B)=B:=yZ d
 unfold kx at *
 rw[ac0,b,c]
end
section
variable{κ β γ:Type}
variable [DecidableEq κ]
theorem sx{k:κ}{x:β}:∀{M:List (κ×β)},(M.map (·.1)).Nodup->(dy k x M).Perm (pb k x M)
 |[],_=>by simp[dy,pb,kx]
 |(k',x')::M,hn=>by
  rw[acw,adg]at hn
  simp only[dy]
  split
  ·rename_i h
   subst h
   unfold pb
   rw[yZ hn.1]
   exact adL (l₁:=[(k,x)])
  ·rename_i h
   have a:=(sx (k:=k) (x:=x) hn.2).cons (k',x')
   refine a.trans (List.Perm.of_eq ?_)
   unfold pb kx
   have:decide ((k',x').1≠k)=true:=adb λe=>h e.symm
   rw[ac2,acp this]
   rfl
theorem uP{k:κ}{x:β}{M:List (κ×β)}(a:(M.map (·.1)).Nodup){p:κ×β}(h:p∈dy k x M):p∈M\/p=(k,x):=by
 have:=(sx a).mem_iff.1 h
 rcases acI.1 this with h|h
 ·exact .inl (acA.1 h).1
 ·exact .inr (by simpa using h)
end
def texts(l:List ByteArray)(n k:Nat):List ByteArray:=(l.take n).map λs=>short s k
abbrev RB:Type:=Nat×bf
def tS(p:RB):List Value:=jh p.1
theorem RS.of_map{α β:Type}{R:aA}{sz:Nat}{enc:α->List Value}{f:β->α}{v:Value}{xs:List β}(h:RS R sz enc v (xs.map f)):RS R sz (λx=>enc (f x)) v xs:=by
 refine⟨λx a=>h.len _ (acq.2 ⟨x,a,rfl⟩),λx a=>h.one _ (acq.2 ⟨x,a,rfl⟩),?_⟩
 obtain⟨p,g,d,e,j,h4⟩:=h.h
 rw[acB]at d e
 refine⟨p,g,d,e,j,?_⟩
 rcases h4 with h4|⟨b,n,c,E,i,k,l,m⟩
 ·exact .inl (List.map_eq_nil_iff.1 h4)
 ·exact .inr ⟨b,n,c,E,i,k,l,by rwa [List.flatMap_map]at m⟩
def lg(x:bf):Obj:=.cells x.enc.toArray 150 (0,0)
def jJ(ps:List RB):av:=ps.map λp=>(p.1,lg p.2)
def ids{κ:Type} [DecidableEq κ](key:bf->κ)(k:κ)(ps:List RB):List Nat:=(ps.filter λx=>decide (key x.2=k)).map (·.1)
section
variable{κ:Type} [DecidableEq κ]{encK:κ->Value}{key:bf->κ}
structure iR(encK:κ->Value)(key:bf->κ)(ps:List RB)(vm:Value)(M:List (κ×(Value×av)))(Tm Ts:av):Prop where
 ms:MS encK (λp:Value×av=>p.1) vm M Tm
 pm:Ts.Perm (M.flatMap λp=>p.2.2)
 os:∀p∈M,OS 151 1 jh p.2.1 (ids key p.1 ps) p.2.2
 ne:∀p∈M,ids key p.1 ps≠[]
 al:∀x∈ps,key x.2∈M.map (·.1)
theorem MD{k:κ}{ps:List RB}(h:∀x∈ps,key x.2≠k):ids key k ps=[]:=by
 unfold ids
 rw[adx.2 λx a=>by simpa using h x a];rfl
theorem rP{k:κ}{ps:List RB}{b:Nat}{x:bf}:ids key k (ps++[(b,x)])=ids key k ps++if key x=k then [b]else []:=by
 unfold ids
 rw[ac0,acE,ac2]
 by_cases h:key x=k
 ·rw[acp (by simpa using h),acp h];rfl
 ·rw[aco (by simpa using h),aco h];rfl
theorem iR.nil{b:Nat}:iR encK key [] (.map (some b)) [] [(b,.map #[] 0)] []:=⟨MS.nil,by simp,by simp,by simp,by simp⟩
theorem iR.get{ps:List RB}{vm:Value}{M:List (κ×(Value×av))}{f a:av}(h:iR encK key ps vm M f a)(k:κ):∃v Tk Tr,((cG k M).map λp:Value×av=>p.1).getD (sZ)=v/\OS 151 1 jh v (ids key k ps) Tk/\a.Perm (Tk++Tr)/\(∀v' Tk',((dy k (v',Tk') M).flatMap λp=>p.2.2).Perm (Tk'++Tr)):=by
 cases hm:cG k M with
 |none=>
  have d:=pi.1 hm
  have i:ids key k ps=[]:=MD λx j g=>d (g▸h.al x j)
  refine⟨sZ,[],a,rfl,by rw[i];exact OS.nil,.refl _,λv' Tk'=>?_⟩
  rw[mM d,ady]
  exact(adL).trans (by simpa using h.pm.symm.append_left Tk')
 |some p=>
  obtain⟨v,Tk⟩:=p
  have e:=uO hm
  obtain⟨X,Y,c⟩:=List.append_of_mem e
  have b:=h.ms.nd
  refine⟨v,Tk,(X.flatMap λp=>p.2.2)++(Y.flatMap λp=>p.2.2),rfl,h.os _ e,?_,λv' Tk'=>?_⟩
  ·refine h.pm.trans ?_
   rw[c,ady,adH]
   exact List.perm_append_comm_assoc _ _ _
  ·refine((sx b).flatMap_right _).trans ?_
   unfold pb
   rw[c]at b⊢
   rw[MV b,ady,ady]
   simp only[adH,List.flatMap_nil,ado]
   exact adL
theorem iR.add{ps:List RB}{vm:Value}{M:List (κ×(Value×av))}{k l:av}(h:iR encK key ps vm M k l){b:Nat}{x:bf}{v':Value}{c d f:av}(i:MS encK (λp:Value×av=>p.1) vm (dy (key x) (v',c) M) d)(n:OS 151 1 jh v' (ids key (key x) ps++[b]) c)(hp:f.Perm ((dy (key x) (v',c) M).flatMap λp=>p.2.2)):iR encK key (ps++[(b,x)]) vm (dy (key x) (v',c) M) d f:=by
 have j:=h.ms.nd
 refine⟨i,hp,λp hp=>?_,λp hp=>?_,λy hy=>?_⟩
 ·by_cases a:p.1=key x
  ·have g:cG p.1 (dy (key x) (v',c) M)=some p.2:=sq i.nd (by exact hp)
   rw[kV,acp a]at g
   have m:=Option.some.inj g
   rw[rP,a,acp rfl, <-m];exact n
  ·rcases uP j hp with hp|hp
   ·rw[rP,aco (λe=>a e.symm),ado];exact h.os p hp
   ·exact absurd (by rw[hp]) a
 ·by_cases a:p.1=key x
  ·rw[rP,a,acp rfl];simp
  ·rcases uP j hp with hp|hp
   ·rw[rP,aco (λe=>a e.symm),ado];exact h.ne p hp
   ·exact absurd (by rw[hp]) a
 ·rw[qE]
  rcases acI.1 hy with hy|hy
  ·have:=h.al y hy
   split<;>simp[this]
  ·simp only[acD]at hy
   subst hy
   split
   ·assumption
   ·simp
theorem iR.rows{ps qs:List RB}{vm:Value}{M:List (κ×(Value×av))}{b c:av}(h:iR encK key ps vm M b c)(f:qs.map (λp=>(p.1,key p.2))=ps.map (λp=>(p.1,key p.2))):iR encK key qs vm M b c:=by
 have d:∀k,ids key k qs=ids key k ps:=λk=>by
  have e:∀L:List RB,ids key k L=((L.map λp=>(p.1,key p.2)).filter λp=>decide (p.2=k)).map (·.1):=λL=>by
   unfold ids
   rw[List.filter_map,List.map_map];rfl
  rw[e,e,f]
 refine⟨h.ms,h.pm,λp a=>by rw[d];exact h.os p a,λp a=>by rw[d];exact h.ne p a,λx i=>?_⟩
 have:(x.1,key x.2)∈ps.map (λp=>(p.1,key p.2)):=f▸acq.2 ⟨x,i,rfl⟩
 obtain⟨y,j,l⟩:=acq.1 this
 have g:key y.2=key x.2:=acs Prod.snd l
 rw[<-g]
 exact h.al y j
end
def SI(g:Nat)(S:cE)(T:av):Prop:=∃ps vf vr Mf Mr Tf Tr Sf Sr,T=(g,.cells [.bool true,.int .u64 S.head,.int .u64 S.dV,iN ps.length,vf,vr].toArray 147 (0,0))::(Tf++(Sf++(Tr++(Sr++jJ ps))))/\
 iR (λk:aW=>.agg k.enc.toArray) (λx=>x.t.di) ps vf Mf Tf Sf/\iR (λk:Sub=>.agg k.enc.toArray) (λx=>x.t.sub) ps vr Mr Tr Sr/\ps.map (·.2)=S.rows
theorem yQ(a:Int)(R:aA):Spec prog 272 [.int .i64 a] R [] λu H'=>u=.bool false/\H'=[]:=by
 refine Spec.body func272 rfl results272 ntmps272 rfl<|.sr<|.ag rfl<|.z<|.mo rfl<|.mo rfl<|.q .de<|.az rfl<|.ret (aP rfl ?_)
 ·exact⟨by simp,rfl⟩
theorem CB(a b:Int)(R:aA):Spec prog 262 [.int .i64 a,.int .i64 b] R [] λu H'=>u=.int .i64 (kw a b)/\H'=[]:=by
 refine Spec.body func262 rfl results262 ntmps262 rfl<|.sr<|.ag rfl<|.z<|.mo rfl<|.aQ (yQ a _) (λv e=>?_)
 subst e
 refine .ag rfl<|.z<|.mo rfl<|.aQ (yQ b _) (λv e=>?_)
 subst e
 refine .ag rfl<|.zs<|.sr<|.mo rfl<|.zn<|.dA<|.kn<|.seq<|.sr<|.mo rfl<|.zn<|.dA<|.kn<|.seq<|.sr<|.mo rfl<|.mo rfl<|.q .lss<|.zn<|.cond rfl (λc=>?_) λc=>?_
 refine .sr<|.az rfl<|.ret (aJ (aP rfl ?_))
 ·refine⟨?_,rfl⟩
  simp at c
  try simp at d
  unfold kw
  congr 1
  split
  ·first|rfl|omega
  ·first|rfl|(exfalso;omega)|(split<;>first|rfl|omega)
 refine .kn<|.seq<|.sr<|.mo rfl<|.mo rfl<|.q .gtr<|.zn<|.cond rfl (λd=>?_) λd=>?_
 refine .sr<|.az rfl<|.ret (aJ (aP rfl ?_))
 ·refine⟨?_,rfl⟩
  simp at c
  try simp at d
  unfold kw
  congr 1
  split
  ·first|rfl|omega
  ·first|rfl|(exfalso;omega)|(split<;>first|rfl|omega)
 refine .kn<|.sr<|.az rfl<|.ret (aP rfl ?_)
 ·refine⟨?_,rfl⟩
  simp at c
  try simp at d
  unfold kw
  congr 1
  split
  ·first|rfl|omega
  ·first|rfl|(exfalso;omega)|(split<;>first|rfl|omega)
def aw.fits(t:aw):Prop:=t.os.size<=9223372036854775807/\t.oi.size<=9223372036854775807/\t.rel.size<=9223372036854775807/\t.us.size<=9223372036854775807/\t.ss.size<=9223372036854775807/\t.si.size<=9223372036854775807/\t.sr.size<=9223372036854775807
theorem Ad(s:Sub)(R:aA):Spec prog 263 [.agg s.enc.toArray] R [] λv H'=>v=.int .i64 (kF s.us)/\H'=[]:=by
 refine Spec.body func263 rfl results263 ntmps263 rfl<|.sr ?_
 refine .cg rfl (λc=>?_)
 refine .ag rfl<|.zs<|.sr<|.fa rfl<|.lo rfl<|.q .iJ<|.zn<|.cond rfl (λa=>?_) λa=>?_
 refine .sr<|.az rfl<|.ret (aJ (aP rfl ?_))
 ·have b:¬s.us=⟨#[]⟩:=by simpa using a
  exact⟨by unfold kF;rw[aco b],rfl⟩
 refine .kn<|.sr<|.az rfl<|.ret (aP rfl ?_)
 ·have b:s.us=⟨#[]⟩:=by simpa using a
  exact⟨by unfold kF;rw[acp b],rfl⟩
theorem QU(a b:aw)(R:aA):Spec prog 241 [.agg a.enc.toArray,.agg b.enc.toArray] R [] λv H'=>v=.int .i64 (kH a b)/\H'=[]:=by
 obtain⟨o,p,q,e,g,h,i⟩:=a
 obtain⟨r,s,t,f,j,k,l⟩:=b
 have A:cM (Sub.enc ⟨e,g,h,i⟩):=inferInstance
 have B:cM (Sub.enc ⟨f,j,k,l⟩):=inferInstance
 refine Spec.body func241 rfl results241 ntmps241 rfl<|.sr ?_
 refine .cg rfl (λu=>?_)
 refine .cg rfl (λw=>?_)
 refine .ag rfl<|.zs ?_
 refine bu.cut (X:=Nat×Nat) (λ_=>True) (λy=>[(2,pT u),(3,pT w),(5,.pointer (some ⟨y.1,0,none⟩)),(6,.pointer (some ⟨y.2,0,none⟩))]) (λy=>[[(y.1,.cells (Sub.enc ⟨e,g,h,i⟩).toArray 117 (0,0))],[(y.2,.cells (Sub.enc ⟨f,j,k,l⟩).toArray 117 (0,0))],bl w (aw.enc ⟨r,s,t,f,j,k,l⟩) 119,bl u (aw.enc ⟨o,p,q,e,g,h,i⟩) 119]) ?_ ?_
 refine .sK [] [6,7] mixed ?_
 conv=>arg 3;simp only[take,rest,bN,adv,adw]
 conv=>arg 5;simp only[take,rest,bN,adv,adw]
 conv=>arg 9;simp only[take,rest,bN,adv,adw]
 refine .tO 0 rfl (.fieldAddr rfl)<|.tO 1 rfl (.loadT rfl)<|.tK 2 rfl (.kr rfl)<|.tK 3 rfl (.loadT rfl)<|RA.lN 4 5 rfl rfl (by kernel_rfl) rfl ?_ ?_
 refine .cq (λm=>?_)
 refine .nil<|Next.sub<|.sT 5 rfl ?_
 refine .cq (λn=>?_)
 refine .nil<|Next.sub<|.sT 6 rfl<|.bZ rfl rfl<|.nil<|Next.mod rfl<|.sT 7 rfl<|.bZ rfl rfl<|.nil<|Next.mod rfl<|RA.nil (by kernel_rfl) ?_
 ·exact aD (m,n) acr kE.c.c.c.c (aK [1,0,0,0])
 refine .cq (λn=>?_)
 refine .nil<|Next.sub<|.sT 4 rfl ?_
 refine .cq (λm=>?_)
 refine .nil<|Next.sub<|.sT 6 rfl<|.bZ rfl rfl<|.nil<|Next.mod rfl<|.sT 7 rfl<|.bZ rfl rfl<|.nil<|Next.mod rfl<|RA.nil (by kernel_rfl) ?_
 ·exact aD (m,n) acr kE.c.c.c.c (aK [0,0,0,0])
 intro y z
 obtain⟨m,n⟩:=y
 simp only
 refine au<|.seq<|.dz [] mixed<|.tO 0 rfl (.fieldAddr rfl)<|.tO 1 rfl (.fieldAddr rfl)<|.tO 2 rfl (.cI rfl)<|.tO 3 rfl (.fieldAddr rfl)<|.tO 4 rfl (.fieldAddr rfl)<|.tO 5 rfl (.cI rfl)<|.tO 7 rfl (.fieldAddr rfl)<|.tO 8 rfl (.fieldAddr rfl)<|.tO 9 rfl (.cI rfl)<|.tO 10 rfl (.fieldAddr rfl)<|.tO 11 rfl (.fieldAddr rfl)<|.tO 12 rfl (.cI rfl)<|.tO 14 rfl (.fieldAddr rfl)<|.tO 15 rfl (.cI rfl)<|.tO 16 rfl (.fieldAddr rfl)<|.tO 17 rfl (.cI rfl)<|.tO 19 rfl (.aL rfl)<|.tO 21 rfl (.aL rfl)<|.tO 24 rfl (.fieldAddr rfl)<|.tO 25 rfl (.cI rfl)<|.tO 26 rfl (.fieldAddr rfl)<|.tO 27 rfl (.cI rfl)<|.tO 29 rfl (.fieldAddr rfl)<|.tO 30 rfl (.fieldAddr rfl)<|.tO 31 rfl (.cI rfl)<|.tO 32 rfl (.fieldAddr rfl)<|.tO 33 rfl (.fieldAddr rfl)<|.tO 34 rfl (.cI rfl)<|.tO 36 rfl (.fieldAddr rfl)<|.tO 37 rfl (.fieldAddr rfl)<|.tO 38 rfl (.cI rfl)<|.tO 39 rfl (.fieldAddr rfl)<|.tO 40 rfl (.fieldAddr rfl)<|.tO 41 rfl (.cI rfl)<|.tO 43 rfl (.fieldAddr rfl)<|.tO 44 rfl (.cI rfl)<|.tO 45 rfl (.fieldAddr rfl)<|.tO 46 rfl (.cI rfl)<|.sT 6 rfl<|.aQ (nU o r _) (λv d=>?_)
 subst d
 refine .nil<|Next.sub<|.sT 13 rfl<|.aQ (nU p s _) (λv d=>?_)
 subst d
 refine .nil<|Next.sub<|.sT 18 rfl<|.aQ (nU q t _) (λv d=>?_)
 subst d
 refine .nil<|Next.sub<|.sT 20 rfl<|.aQ (Ad ⟨e,g,h,i⟩ _) (λv d=>?_)
 subst d
 refine .nil<|Next.sub<|.sT 22 rfl<|.aQ (Ad ⟨f,j,k,l⟩ _) (λv d=>?_)
 subst d
 refine .nil<|Next.sub<|.sT 23 rfl<|.aQ (CB (kF e) (kF f) _) (λv d=>?_)
 subst d
 refine .nil<|Next.sub<|.sT 28 rfl<|.aQ (nU e f _) (λv d=>?_)
 subst d
 refine .nil<|Next.sub<|.sT 35 rfl<|.aQ (nU g j _) (λv d=>?_)
 subst d
 refine .nil<|Next.sub<|.sT 42 rfl<|.aQ (nU h k _) (λv d=>?_)
 subst d
 refine .nil<|Next.sub<|.sT 47 rfl<|.aQ (nU i l _) (λv d=>?_)
 subst d
 refine .nil<|Next.sub<|.sT 48 rfl ?_
 refine .w8 [_,_,_,_,_,_,_,_] (λx=>?_)
 refine .nil<|Next.sub<|.sT 49 rfl<|.aQ (Og _ [fC o r,fC p s,fC q t,kw (kF e) (kF f),fC e f,fC g j,fC h k,fC i l] _ (RS.lits rfl (by simp[tR]) (by simp[tR,ay]))) (λv d=>?_)
 subst d
 refine .nil<|Next.sub<|.tO 50 rfl .assign<|RA.nil (by kernel_rfl)<|au<|.ret (aP rfl ?_)
 ·exact⟨rfl,rfl⟩
theorem Bf(a b:aw)(R:aA):Spec prog 186 [.agg a.enc.toArray,.agg b.enc.toArray] R [] λv H'=>v=.bool (gz a b)/\H'=[]:=by
 refine Spec.body func186 rfl results186 ntmps186 rfl<|.sr ?_
 refine .cg rfl (λd=>?_)
 refine .cg rfl (λe=>?_)
 refine .ag rfl<|.z<|.q (.aL rfl)<|.q (.aL rfl)<|.aQ (QU a b _) (λv c=>?_)
 subst c
 refine .q .lss<|.az rfl<|.ret (aP rfl ?_)
 ·exact⟨rfl,rfl⟩
theorem mW(b:Bool)(R:aA):Spec prog 223 [.bool b] R [] λv H'=>v=.int .i64 (if b then 0 else 9)/\H'=[]:=by
 refine Spec.body func223 rfl results223 ntmps223 rfl<|.sr<|.ag rfl<|.zs<|.sr<|.mo rfl<|.zn<|.cond rfl (λa=>?_) λa=>?_
 refine .sr<|.az rfl<|.ret (aJ (aP rfl ?_))
 ·exact⟨by rw[a];rfl,rfl⟩
 refine .kn<|.sr<|.az rfl<|.ret (aP rfl ?_)
 ·exact⟨by rw[a];rfl,rfl⟩
theorem tI(s i:ByteArray)(e:s.size<=9223372036854775807)(d:i.size<=9223372036854775807)(R:aA):Spec prog 180 [.agg [.string s,.string i].toArray] R [] λv H'=>v=.int .i64 (if dd s i then 0 else 9)/\H'=[]:=by
 refine Spec.body func180 rfl results180 ntmps180 rfl<|.sr ?_
 refine .cg rfl (λf=>?_)
 refine .ag rfl<|.z<|.fa rfl<|.lo rfl<|.aQ (lq s e _) (λv b=>?_)
 subst b
 refine .mo rfl<|.split (t:=6) rfl (λa=>?_) (λa=>?_)
 have c:dd s i=iG i:=by unfold dd;rw[a];rfl
 refine .gT a<|.fa rfl<|.gT a<|.lo rfl<|.gT a<|.aQ (uv i d _) (λv b=>?_)
 subst b
 refine .q (.aU a)<|.aQ (mW _ _) (λv b=>?_)
 subst b
 refine .az rfl<|.ret (aP rfl ?_)
 ·exact⟨by rw[c],rfl⟩
 have c:dd s i=false:=by unfold dd;rw[a];rfl
 refine .gF a<|.gF a<|.gF a<|.q (.aN a)<|.aQ (mW _ _) (λv b=>?_)
 subst b
 refine .az rfl<|.ret (aP rfl ?_)
 ·exact⟨by rw[c],rfl⟩
theorem wo(b:Bool):((if b=true then(0:Int)else 9)==0)=b:=by cases b<;>rfl
theorem Cq(s:Sub)(k:s.us.size<=9223372036854775807)(l:s.ss.size<=9223372036854775807)(m:s.si.size<=9223372036854775807)(n:s.sr.size<=9223372036854775807)(R:aA):Spec prog 224 [.agg s.enc.toArray] R [] λv H'=>v=.int .i64 (if iH s then 0 else 9)/\H'=[]:=by
 obtain⟨a,f,g,e⟩:=s
 simp only at k l m n
 refine Spec.body func224 rfl results224 ntmps224 rfl<|.sr ?_
 refine .cg rfl (λo=>?_)
 refine .ag rfl<|.zs<|.sr<|.fa rfl<|.lo rfl<|.q .iJ<|.zn<|.cond rfl (λj=>?_) λj=>?_
 have i:¬a=⟨#[]⟩:=by simpa using j
 refine .sr<|.fa rfl<|.lo rfl<|.aQ (uv a k _) (λv c=>?_)
 subst c
 refine .mo rfl<|.split (t:=9) rfl (λb=>?_) (λb=>?_)
 have h:iH ⟨a,f,g,e⟩=decide ((⟨a,f,g,e⟩:Sub)=⟨a,⟨#[]⟩,⟨#[]⟩,⟨#[]⟩⟩):=by
  unfold iH
  simp only
  rw[aco i,b,ada,acK]
  simp[and_assoc]
 refine .gT b<|.q (.aL rfl)<|.gT b<|.fa rfl<|.gT b<|.lo rfl<|.gT b ?_
 refine .q .dw ?_
 refine .gT b<|.q (.nq rfl rfl (Sub.kinds ⟨a,f,g,e⟩) (Sub.kinds ⟨a,⟨#[]⟩,⟨#[]⟩,⟨#[]⟩⟩)) ?_
 rw[show eI (Sub.enc ⟨a,f,g,e⟩) (du [.string ⟨#[]⟩,.string ⟨#[]⟩,.string ⟨#[]⟩,.string ⟨#[]⟩] 0 [.string a])=_ from Sub.eq ⟨a,f,g,e⟩ ⟨a,⟨#[]⟩,⟨#[]⟩,⟨#[]⟩⟩]
 refine .q (.aU b)<|.aQ (mW _ _) (λv c=>?_)
 subst c
 refine .az rfl<|.ret (aJ (aP rfl ?_))
 ·exact⟨by rw[h],rfl⟩
 have h:iH ⟨a,f,g,e⟩=false:=by
  unfold iH
  simp only
  rw[aco i,b];rfl
 refine .gF b<|.gF b<|.gF b<|.gF b<|.gF b<|.q (.aN b)<|.aQ (mW _ _) (λv c=>?_)
 subst c
 refine .az rfl<|.ret (aJ (aP rfl ?_))
 ·exact⟨by rw[h],rfl⟩
 have i:a=⟨#[]⟩:=by simpa using j
 refine .kn<|.sr<|.fa rfl<|.q (.loadT rfl)<|.aQ (tI f g l m _) (λv c=>?_)
 subst c
 refine .q .cr ?_
 rw[wo]
 refine .mo rfl<|.split (t:=21) rfl (λd=>?_) (λd=>?_)
 have h:iH ⟨a,f,g,e⟩=isWord e:=by
  unfold iH
  simp only
  rw[acp i,d,ada]
 refine .gT d<|.fa rfl<|.gT d<|.lo rfl<|.gT d<|.aQ (lq e n _) (λv c=>?_)
 subst c
 refine .q (.aU d)<|.aQ (mW _ _) (λv c=>?_)
 subst c
 refine .az rfl<|.ret (aP rfl ?_)
 ·exact⟨by rw[h],rfl⟩
 have h:iH ⟨a,f,g,e⟩=false:=by
  unfold iH
  simp only
  rw[acp i,d];rfl
 refine .gF d<|.gF d<|.gF d<|.q (.aN d)<|.aQ (mW _ _) (λv c=>?_)
 subst c
 refine .az rfl<|.ret (aP rfl ?_)
 ·exact⟨by rw[h],rfl⟩
theorem Cr(t:aw)(u:t.fits)(R:aA):Spec prog 171 [.agg t.enc.toArray] R [] λv H'=>v=.int .i64 (if eQ t then 0 else 9)/\H'=[]:=by
 obtain⟨i,j,k,d,e,f,g⟩:=t
 obtain⟨l,m,n,o,p,r,s⟩:=u
 simp only at l m n o p r s
 refine Spec.body func171 rfl results171 ntmps171 rfl<|.sr ?_
 refine .cg rfl (λw=>?_)
 refine .ag rfl<|.z<|.fa rfl<|.q (.loadT rfl)<|.aQ (tI i j l m _) (λv c=>?_)
 subst c
 refine .q .cr ?_
 rw[wo]
 refine .mo rfl<|.split (t:=7) rfl (λb=>?_) (λb=>?_)
 refine .gT b<|.fa rfl<|.gT b<|.lo rfl<|.gT b<|.aQ (lq k n _) (λv c=>?_)
 subst c
 refine .q (.aU b)<|.mo rfl<|.split (t:=12) rfl (λa=>?_) (λa=>?_)
 have h:eQ ⟨i,j,k,d,e,f,g⟩=iH ⟨d,e,f,g⟩:=by unfold eQ;simp only;rw[b,a];rfl
 refine .gT a<|.fa rfl<|.gT a<|.q (.loadT rfl)<|.gT a<|.aQ (Cq ⟨d,e,f,g⟩ o p r s _) (λv c=>?_)
 subst c
 refine .gT a<|.q .cr ?_
 rw[wo]
 refine .q (.aU a)<|.aQ (mW _ _) (λv c=>?_)
 subst c
 refine .az rfl<|.ret (aP rfl ?_)
 ·exact⟨by rw[h],rfl⟩
 have h:eQ ⟨i,j,k,d,e,f,g⟩=false:=by unfold eQ;simp only;rw[b,a];rfl
 refine .gF a<|.gF a<|.gF a<|.gF a<|.q (.aN a)<|.aQ (mW _ _) (λv c=>?_)
 subst c
 refine .az rfl<|.ret (aP rfl ?_)
 ·exact⟨by rw[h],rfl⟩
 have h:eQ ⟨i,j,k,d,e,f,g⟩=false:=by unfold eQ;simp only;rw[b];rfl
 refine .gF b<|.gF b<|.gF b<|.q (.aN b)<|.mo rfl<|.gX<|.gX<|.gX<|.gX<|.q .dq<|.aQ (mW _ _) (λv c=>?_)
 subst c
 refine .az rfl<|.ret (aP rfl ?_)
 ·exact⟨by rw[h],rfl⟩
theorem oF(a s:ByteArray)(R:aA):Spec prog 184 [.string a,.string s] R [] λv H'=>v=.bool (decide (a=⟨#[]⟩)||decide (a=s))/\H'=[]:=by
 refine Spec.body func184 rfl results184 ntmps184 rfl<|.sr<|.ag rfl<|.z<|.mo rfl<|.q .fb<|.mo rfl<|.split (t:=7) rfl (λb=>?_) (λb=>?_)
 refine .gF b<|.gF b<|.gF b<|.q (.aU b)<|.az rfl<|.ret (aP rfl ?_)
 ·refine⟨acs _ ?_,rfl⟩
  simp_all
 refine .gT b<|.mo rfl<|.gT b<|.mo rfl<|.gT b<|.q .fb<|.q (.aN b)<|.az rfl<|.ret (aP rfl ?_)
 ·refine⟨acs _ ?_,rfl⟩
  simp_all
theorem Q1(f t:aw)(R:aA):Spec prog 130 [.agg f.enc.toArray,.agg t.enc.toArray] R [] λv H'=>v=.bool (gl f t)/\H'=[]:=by
 refine Spec.body func130 rfl results130 ntmps130 rfl<|.sr ?_
 refine .cg rfl (λi=>?_)
 refine .cg rfl (λj=>?_)
 refine .ag rfl<|.z<|.fa rfl<|.q (.loadT rfl) ?_
 refine .cq (λk=>?_)
 refine .bZ rfl rfl<|.z<|.fa rfl<|.lo rfl<|.fa rfl<|.fa rfl<|.lo rfl<|.aQ (oF (f.os) (t.os) _) (λv h=>?_)
 subst h
 refine .mo rfl<|.split (t:=14) rfl (λc=>?_) (λc=>?_)
 refine .gT c<|.fa rfl<|.gT c<|.lo rfl<|.gT c<|.fa rfl<|.gT c<|.fa rfl<|.gT c<|.lo rfl<|.gT c<|.aQ (oF (f.oi) (t.oi) _) (λv h=>?_)
 subst h
 refine .q (.aU c)<|.mo rfl<|.split (t:=22) rfl (λd=>?_) (λd=>?_)
 refine .gT d<|.fa rfl<|.gT d<|.lo rfl<|.gT d<|.fa rfl<|.gT d<|.lo rfl<|.gT d<|.aQ (oF (f.rel) (t.rel) _) (λv h=>?_)
 subst h
 refine .q (.aU d)<|.mo rfl<|.split (t:=29) rfl (λe=>?_) (λe=>?_)
 refine .gT e<|.fa rfl<|.gT e<|.lo rfl<|.gT e<|.fa rfl<|.gT e<|.lo rfl<|.gT e<|.aQ (oF (f.us) (t.us) _) (λv h=>?_)
 subst h
 refine .q (.aU e)<|.mo rfl<|.split (t:=36) rfl (λa=>?_) (λa=>?_)
 refine .gT a<|.fa rfl<|.gT a<|.fa rfl<|.gT a<|.lo rfl<|.gT a<|.fa rfl<|.gT a<|.fa rfl<|.gT a<|.lo rfl<|.gT a<|.aQ (oF (f.ss) (t.ss) _) (λv h=>?_)
 subst h
 refine .q (.aU a)<|.mo rfl<|.split (t:=45) rfl (λb=>?_) (λb=>?_)
 refine .gT b<|.fa rfl<|.gT b<|.fa rfl<|.gT b<|.lo rfl<|.gT b<|.fa rfl<|.gT b<|.fa rfl<|.gT b<|.lo rfl<|.gT b<|.aQ (oF (f.si) (t.si) _) (λv h=>?_)
 subst h
 refine .q (.aU b)<|.mo rfl<|.split (t:=54) rfl (λg=>?_) (λg=>?_)
 refine .gT g<|.fa rfl<|.gT g<|.lo rfl<|.gT g<|.fa rfl<|.gT g<|.lo rfl<|.gT g<|.aQ (oF (f.sr) (t.sr) _) (λv h=>?_)
 subst h
 refine .q (.aU g)<|.az rfl<|.ret (aP rfl ?_)
 ·refine⟨acs _ ?_,rfl⟩
  unfold gl
  simp_all
 refine .gF g<|.gF g<|.gF g<|.gF g<|.gF g<|.q (.aN g)<|.az rfl<|.ret (aP rfl ?_)
 ·refine⟨acs _ ?_,rfl⟩
  unfold gl
  simp_all
 refine .gF b<|.gF b<|.gF b<|.gF b<|.gF b<|.gF b<|.gF b<|.q (.aN b)<|.mo rfl<|.gX<|.gX<|.gX<|.gX<|.gX<|.q .dq<|.az rfl<|.ret (aP rfl ?_)
 ·refine⟨acs _ ?_,rfl⟩
  unfold gl
  simp_all
 refine .gF a<|.gF a<|.gF a<|.gF a<|.gF a<|.gF a<|.gF a<|.q (.aN a)<|.mo rfl<|.gX<|.gX<|.gX<|.gX<|.gX<|.gX<|.gX<|.q .dq<|.mo rfl<|.gX<|.gX<|.gX<|.gX<|.gX<|.q .dq<|.az rfl<|.ret (aP rfl ?_)
 ·refine⟨acs _ ?_,rfl⟩
  unfold gl
  simp_all
 refine .gF e<|.gF e<|.gF e<|.gF e<|.gF e<|.q (.aN e)<|.mo rfl<|.gX<|.gX<|.gX<|.gX<|.gX<|.gX<|.gX<|.q .dq<|.mo rfl<|.gX<|.gX<|.gX<|.gX<|.gX<|.gX<|.gX<|.q .dq<|.mo rfl<|.gX<|.gX<|.gX<|.gX<|.gX<|.q .dq<|.az rfl<|.ret (aP rfl ?_)
 ·refine⟨acs _ ?_,rfl⟩
  unfold gl
  simp_all
 refine .gF d<|.gF d<|.gF d<|.gF d<|.gF d<|.q (.aN d)<|.mo rfl<|.gX<|.gX<|.gX<|.gX<|.gX<|.q .dq<|.mo rfl<|.gX<|.gX<|.gX<|.gX<|.gX<|.gX<|.gX<|.q .dq<|.mo rfl<|.gX<|.gX<|.gX<|.gX<|.gX<|.gX<|.gX<|.q .dq<|.mo rfl<|.gX<|.gX<|.gX<|.gX<|.gX<|.q .dq<|.az rfl<|.ret (aP rfl ?_)
 ·refine⟨acs _ ?_,rfl⟩
  unfold gl
  simp_all
 refine .gF c<|.gF c<|.gF c<|.gF c<|.gF c<|.gF c<|.q (.aN c)<|.mo rfl<|.gX<|.gX<|.gX<|.gX<|.gX<|.q .dq<|.mo rfl<|.gX<|.gX<|.gX<|.gX<|.gX<|.q .dq<|.mo rfl<|.gX<|.gX<|.gX<|.gX<|.gX<|.gX<|.gX<|.q .dq<|.mo rfl<|.gX<|.gX<|.gX<|.gX<|.gX<|.gX<|.gX<|.q .dq<|.mo rfl<|.gX<|.gX<|.gX<|.gX<|.gX<|.q .dq<|.az rfl<|.ret (aP rfl ?_)
 ·refine⟨acs _ ?_,rfl⟩
  unfold gl
  simp_all
theorem tJ{α:Type}{ys xs:List α}{i j:Nat}{z:α}{q:α->Bool}(a:ys.take i=(xs.take j).filter q)(d:xs[j]? =some z)(b:i<ys.length)(c:q z=true):(ys.set i z).take (i+1)=(xs.take (j+1)).filter q:=by
 rw[acZ,acZ,d,ac0,List.take_set_of_le (acC _),a]
 simp[c,b]
theorem qm{α:Type}{ys xs:List α}{i j:Nat}{z:α}{q:α->Bool}(a:ys.take i=(xs.take j).filter q)(c:xs[j]? =some z)(b:q z=false):ys.take i=(xs.take (j+1)).filter q:=by
 rw[acZ,c,ac0,a]
 simp[b]
theorem ql{α:Type}{ys xs:List α}{j:Nat}(h:ys.drop j=xs.drop j):ys.drop (j+1)=xs.drop (j+1):=by
 have:=acs (List.drop 1) h
 simpa[List.drop_drop,Nat.add_comm]using this
theorem xx{α:Type}{ys xs:List α}{j:Nat}(h:ys.drop j=xs.drop j):ys[j]? =xs[j]? :=by
 have:=acs (λl=>l[0]?) h
 simpa using this
theorem xy{α:Type}{xs:List α}{p:α->Bool}(h:∀y∈xs,p y=false):xs.filter (λy=> !p y)=xs:=by
 rw[adK]
 intro y a
 simp[h y a]
theorem xw{α:Type}{xs:List α}{p:α->Bool}{i:Nat}{x:α}(d:xs[i]? =some x)(c:p x=true)(h:∀j y,j<i->xs[j]? =some y->p y=false):xs.take i=(xs.take (i+1)).filter (λy=> !p y):=by
 have a:xs.take i=(xs.take i).filter (λy=> !p y):=by
  rw[eq_comm,adK]
  intro y e
  obtain⟨j,b,rfl⟩:=acV.1 e
  simp only[adM]at b
  rw[List.getElem_take,h j _ (by omega) (bk (by omega))]
  rfl
 exact qm a d (by simp[c])
instance aW.rU:eF prog 236 (λk:aW=>.agg k.enc.toArray):=eF.agg xV underlying236 rfl aW.kinds aW.eq
instance Sub.rU:eF prog 117 (λk:Sub=>.agg k.enc.toArray):=eF.agg tY underlying117 rfl Sub.kinds Sub.eq
instance aw.rU:eF prog 119 (λk:aw=>.agg k.enc.toArray):=eF.agg xT underlying119 rfl aw.kinds aw.eq
def kR{κ:Type} [DecidableEq κ](key:bf->κ)(k:κ)(ps:List RB):List RB:=ps.filter λx=>decide (key x.2=k)
theorem uw{κ:Type} [DecidableEq κ]{key:bf->κ}{k:κ}{ps:List RB}:ids key k ps=(kR key k ps).map (·.1):=rfl
theorem iR.look{κ:Type} [DecidableEq κ]{encK:κ->Value}{key:bf->κ}{ps:List RB}{vm:Value}{M:List (κ×(Value×av))}{d a:av}{R:aA}(h:iR encK key ps vm M d a)(j:∀p∈a,R p.1 p.2)(k:κ):∃p c,((cG k M).map λp:Value×av=>p.1).getD (sZ)=.slice p (ids key k ps).length c/\RS R 1 jh (.slice p (ids key k ps).length c) (ids key k ps):=by
 obtain⟨v,m,n,f,g,i,_⟩:=h.get k
 have b:RS R 1 jh v (ids key k ps):=g.rs λp l=>j p (i.mem_iff.2 (adh _ l))
 obtain⟨p,c,e⟩:=b.val
 subst e
 exact⟨p,c,f,b⟩
structure SV(R:aA)(g:Nat)(S:cE)(ps:List RB)(vf vr:Value)(Mf:List (aW×(Value×av)))(Mr:List (Sub×(Value×av))):Prop where
 pc:PC R (pT g) [.bool true,.int .u64 S.head,.int .u64 S.dV,iN ps.length,vf,vr]
 of:One vf
 or:One vr
 mf:RM R (λk:aW=>.agg k.enc.toArray) (λp:Value×av=>p.1) vf Mf
 mr:RM R (λk:Sub=>.agg k.enc.toArray) (λp:Value×av=>p.1) vr Mr
 lf:∀k,∃p c,((cG k Mf).map λp:Value×av=>p.1).getD (sZ)=.slice p (ids (λx=>x.t.di) k ps).length c/\RS R 1 jh (.slice p (ids (λx=>x.t.di) k ps).length c) (ids (λx=>x.t.di) k ps)
 lr:∀k,∃p c,((cG k Mr).map λp:Value×av=>p.1).getD (sZ)=.slice p (ids (λx=>x.t.sub) k ps).length c/\RS R 1 jh (.slice p (ids (λx=>x.t.sub) k ps).length c) (ids (λx=>x.t.sub) k ps)
 af:∀x∈ps,x.2.t.di∈Mf.map (·.1)
 nf:(Mf.map (·.1)).Nodup
 pr:∀p∈ps,PC R (.pointer (some ⟨p.1,0,none⟩)) p.2.enc
 eq:ps.map (·.2)=S.rows
theorem SV.mono{R R':aA}{g:Nat}{S:cE}{ps:List RB}{vf m:Value}{j:List (aW×(Value×av))}{l:List (Sub×(Value×av))}(h:SV R g S ps vf m j l)(e:∀b o,R b o->R' b o):SV R' g S ps vf m j l:=by
 refine⟨h.pc.mono e,h.of,h.or,?_,?_,λk=>?_,λk=>?_,h.af,h.nf,λp n=>(h.pr p n).mono e,h.eq⟩
 ·obtain⟨b,f,c,a,d,i⟩:=h.mf
  exact⟨b,f,c,a,e _ _ d,i⟩
 ·obtain⟨b,f,c,a,d,i⟩:=h.mr
  exact⟨b,f,c,a,e _ _ d,i⟩
 ·obtain⟨p,c,a,d⟩:=h.lf k
  exact⟨p,c,a,d.mono e⟩
 ·obtain⟨p,c,a,d⟩:=h.lr k
  exact⟨p,c,a,d.mono e⟩
theorem SI.view{g:Nat}{S:cE}{T:av}{R:aA}(h:SI g S T)(b:∀p∈T,R p.1 p.2):∃ps vf vr Mf Mr,SV R g S ps vf vr Mf Mr:=by
 obtain⟨ps,vf,vr,Mf,Mr,j,l,f,i,rfl,c,d,e⟩:=h
 refine⟨ps,vf,vr,Mf,Mr,⟨PC.of (E:=147) (fr:=(0,0)) (b (g,_) (by simp)),c.ms.one,d.ms.one,c.ms.rm λp a=>b p (by simp[a]),d.ms.rm λp a=>b p (by simp[a]),λk=>c.look (λp a=>b p (by simp[a])) k,λk=>d.look (λp a=>b p (by simp[a])) k,c.al,c.ms.nd,λp a=>?_,e⟩⟩
 exact PC.of (E:=150) (fr:=(0,0)) (b (p.1,lg p.2) (by
  have:(p.1,lg p.2)∈jJ ps:=acq.2 ⟨p,a,rfl⟩
  simp[this]))
theorem Qk(g:Nat)(R:aA)(a b c d e:Value) [i1:One a] [i2:One b] [f:One c] [h:One d] [i:One e] [pc:PC R (pT g) [.bool true,a,b,c,d,e]]:Spec prog 61 [pT g] R [] λv H'=>v=.bool true/\H'=[]:=by
 refine Spec.body func61 rfl results61 ntmps61 rfl<|.sr<|.ag rfl<|.z<|.mo rfl<|.q (.uQ rfl rfl)<|.mo rfl<|.gt rfl<|.mo rfl<|.gt rfl<|.nc rfl<|.gt rfl<|.fa rfl<|.gt rfl<|.lo rfl<|.q .dj<|.az rfl<|.ret (aP rfl ?_)
 ·exact⟨rfl,rfl⟩
section
variable{R:aA}{g:Nat}{S:cE}{ps:List RB}{vf vr:Value}{Mf:List (aW×(Value×av))}{Mr:List (Sub×(Value×av))}
theorem SV.ok(h:SV R g S ps vf vr Mf Mr):Spec prog 61 [pT g] R [] λv H'=>v=.bool true/\H'=[]:=by
 have:=h.pc
 have:=h.of
 have:=h.or
 exact Qk g R _ _ _ _ _
theorem SV.head(h:SV R g S ps vf vr Mf Mr):Spec prog 21 [pT g] R [] λv H'=>v=.int .u64 S.head/\H'=[]:=by
 have d:=h.pc
 refine Spec.body func21 rfl results21 ntmps21 rfl<|.sr<|.ag rfl<|.zs<|.sr<|.mo rfl<|.aQ (h.mono λb o a=>.inl a).ok (λv c=>?_)
 subst c
 refine .q .not<|.zn<|.dA<|.kn<|.sr<|.mo rfl<|.nc rfl<|.fa rfl<|.lo rfl<|.az rfl<|.ret (aP rfl ?_)
 ·exact⟨rfl,rfl⟩
theorem SV.can(h:SV R g S ps vf vr Mf Mr)(r:Int):Spec prog 128 [pT g,.int .u64 r] R [] λv H'=>v=.bool (scan S r)/\H'=[]:=by
 have f:=h.pc
 refine Spec.body func128 rfl results128 ntmps128 rfl<|.sr<|.ag rfl<|.z<|.mo rfl<|.aQ (h.mono λb o d=>.inl d).ok (λv e=>?_)
 subst e
 refine .mo rfl<|.split (t:=7) rfl (λc=>?_) (λc=>?_)
 refine .gT c<|.mo rfl<|.gT c<|.mo rfl<|.gT c<|.nc rfl<|.gT c<|.fa rfl<|.gT c<|.lo rfl<|.gT c<|.q .geq<|.q (.aU c)<|.mo rfl<|.split (t:=15) rfl (λa=>?_) (λa=>?_)
 refine .gT a<|.mo rfl<|.gT a<|.mo rfl<|.gT a<|.nc rfl<|.gT a<|.fa rfl<|.gT a<|.lo rfl<|.gT a<|.q .leq<|.q (.aU a)<|.az rfl<|.ret (aP rfl ?_)
 ·refine⟨acs _ ?_,rfl⟩
  unfold scan
  simp_all
  try omega
 refine .gF a<|.gF a<|.gF a<|.gF a<|.gF a<|.gF a<|.q (.aN a)<|.az rfl<|.ret (aP rfl ?_)
 ·refine⟨acs _ ?_,rfl⟩
  unfold scan
  simp_all
  try omega
 refine .gF c<|.gF c<|.gF c<|.gF c<|.gF c<|.gF c<|.q (.aN c)<|.mo rfl<|.gX<|.gX<|.gX<|.gX<|.gX<|.gX<|.q .dq<|.az rfl<|.ret (aP rfl ?_)
 ·refine⟨acs _ ?_,rfl⟩
  unfold scan
  simp_all
  try omega
end
theorem QY(x:bf)(r:Int)(R:aA):Spec prog 183 [.agg x.enc.toArray,.int .u64 r] R [] λv H'=>v=.bool (x.there r)/\H'=[]:=by
 obtain⟨⟨c,d,e,f,g,h,i⟩,k,l⟩:=x
 refine Spec.body func183 rfl results183 ntmps183 rfl<|.sr ?_
 refine .cg rfl (λj=>?_)
 refine .ag rfl<|.z<|.fa rfl<|.lo rfl<|.mo rfl<|.q .leq<|.mo rfl<|.split (t:=9) rfl (λa=>?_) (λa=>?_)
 refine .gT a<|.fa rfl<|.gT a<|.lo rfl<|.gT a<|.q .cr<|.gT a<|.mo rfl<|.split (t:=13) rfl (λb=>?_) (λb=>?_)
 refine .gF b<|.gF b<|.gF b<|.gF b<|.gT a<|.q (.aU b)<|.q (.aU a)<|.az rfl<|.ret (aP rfl ?_)
 ·refine⟨acs _ ?_,rfl⟩
  unfold bf.there
  simp_all
  try omega
 refine .gT b<|.fa rfl<|.gT b<|.lo rfl<|.gT b<|.mo rfl<|.gT b<|.q .gtr<|.gT a<|.q (.aN b)<|.q (.aU a)<|.az rfl<|.ret (aP rfl ?_)
 ·refine⟨acs _ ?_,rfl⟩
  unfold bf.there
  simp_all
  try omega
 refine .gF a<|.gF a<|.gF a<|.gF a<|.dB rfl<|.dB rfl<|.dB rfl<|.dB rfl<|.gF a<|.q (.aN a)<|.az rfl<|.ret (aP rfl ?_)
 ·refine⟨acs _ ?_,rfl⟩
  unfold bf.there
  simp_all
  try omega
theorem zK(t:aw)(R:aA):Spec prog 119 [.agg t.enc.toArray] R [] λv H'=>v=.agg t.di.enc.toArray/\H'=[]:=by
 obtain⟨a,b,c,d,e,f,g⟩:=t
 refine Spec.body func119 rfl results119 ntmps119 rfl<|.sr ?_
 refine .cg rfl (λh=>?_)
 refine .cq (λi=>?_)
 refine .z<|.fa rfl<|.q (.loadT rfl)<|.fa rfl<|.lo rfl ?_
 refine .q .dw ?_
 refine .bZ rfl rfl<|.zn ?_
 refine .ret (br _ (.one (.iU rfl rfl)) (.none _) ?_)
 ·exact⟨rfl,rfl⟩
theorem Qh(R:aA):Spec prog 49 [] R [] λv H'=>∃T,H'=[T]/\∃g,v=pT g/\SI g ⟨[],0,0⟩ T:=by
 refine Spec.body func49 rfl results49 ntmps49 rfl<|.sr<|.ag rfl<|.z ?_
 refine .makeMap (λa=>?_)
 refine .makeMap (λb=>?_)
 refine .q .dw ?_
 refine .cg rfl (λc=>?_)
 refine .az rfl<|.ret (br _ (.one (.tmp rfl)) ((aK [0,1,0]).trans (bz.fH (H':=[(c,.cells [.bool true,.int .u64 0,.int .u64 0,.int .i64 0,.map (some a),.map (some b)].toArray 147 (0,0))::([(a,.map #[] 0)]++([]++([(b,.map #[] 0)]++([]++jJ []))))]) (by simp[take,bN,du,jJ]))) ?_)
 ·exact⟨_,rfl,c,rfl,[],_,_,[],[],_,_,_,_,rfl,iR.nil,iR.nil,rfl⟩
theorem uW(t:aw)(a:t.fits)(R:aA):Spec prog 113 [.agg t.enc.toArray] R [] λv H'=>v=.bool (!eQ t)/\H'=[]:=by
 refine Spec.body func113 rfl results113 ntmps113 rfl<|.sr ?_
 refine .cg rfl (λc=>?_)
 refine .ag rfl<|.z<|.q (.aL rfl)<|.aQ (Cr t a _) (λv b=>?_)
 subst b
 refine .q .de<|.az rfl<|.ret (aP rfl ?_)
 ·refine⟨acs _ ?_,rfl⟩
  cases eQ t<;>rfl
def tj(ps:List RB)(S:cE)(t:aw)(u:Value):Prop:=(∃b x,(b,x)∈ps/\x.eS t=true/\u=pT b)\/(dE S.rows t=false/\u=.pointer none)
theorem tj.ptr{ps:List RB}{S:cE}{t:aw}{u:Value}(h:tj ps S t u)(d:ps.map (·.2)=S.rows):∃o,u=.pointer o/\dE S.rows t= !o.isNone:=by
 rcases h with⟨b,x,a,c,rfl⟩|⟨a,rfl⟩
 ·exact⟨_,rfl,by rw[dE,acP.2 ⟨x,d▸acq.2 ⟨_,a,rfl⟩,c⟩];rfl⟩
 ·exact⟨_,rfl,by rw[a];rfl⟩
theorem find_spec{R:aA}{g:Nat}{S:cE}{ps:List RB}{vf M:Value}{B:List (aW×(Value×av))}{C:List (Sub×(Value×av))}(h:SV R g S ps vf M B C)(t:aw):
  Spec prog 65 [pT g,.agg t.enc.toArray] R [] λu H'=>tj ps S t u/\H'=[]:=by
 have T:=h.pc
 obtain⟨L,D,I,w⟩:=h.lf t.di
 have O:=w.le
 refine Spec.body func65 rfl results65 ntmps65 rfl<|.sr ?_
 refine .cg rfl (λz=>?_)
 refine .ag rfl<|.zs<|.seq<|.dz [5] mixed<|.tK 0 rfl .move<|.tK 1 rfl (.ml rfl)<|.tK 2 rfl (.kr rfl)<|.tK 3 rfl (.cI rfl)<|.tO 4 rfl (.aL rfl)<|.tK 8 rfl .move<|.sT 5 rfl<|.aQ (zK t _) (λu K=>?_)
 subst K
 refine .nil<|Next.mod rfl<|.tK 6 rfl (.od (h.mono λb o s=>.inl s).mf rfl rfl I)<|.tK 7 rfl (.bK w)<|RA.nil (by kernel_rfl)<|au<|.block<|.loop (X:=Nat) (λi=>i<=(ids (λx=>x.t.di) t.di ps).length/\∀j b x,j<i->(kR (λx=>x.t.di) t.di ps)[j]? =some (b,x)->x.eS t=false) (λi=>[(0,pT g),(3,pT z),(13,.slice L (ids (λx=>x.t.di) t.di ps).length D),(14,.int .i64 ((ids (λx=>x.t.di) t.di ps).length:Nat)),(15,iN i)]) (λ_=>[bl z t.enc 119]) (λi=>(ids (λx=>x.t.di) t.di ps).length-i) 0 ⟨acM _,by omega⟩ kE.c.c.c.c.c rH ?_
 rintro i ⟨N,v⟩
 refine .sr<|.q .lss<|.zs<|.cond rfl (λp=>?_) λp=>?_
 have m:i<(ids (λx=>x.t.di) t.di ps).length:=by simpa using p
 obtain⟨⟨b,x⟩,d⟩:∃y,(kR (λx=>x.t.di) t.di ps)[i]? =some y:=⟨_,bk (by rw[uw,acB]at m;exact m)⟩
 have s:(ids (λx=>x.t.di) t.di ps)[i]? =some b:=by rw[uw,acy,d];rfl
 have A:=acA.1 (aR d)
 have U:PC R (pT b) x.enc:=h.pr _ A.1
 refine .kn<|.seq<|.block<|.sr ?_
 refine .bF i w s (λQ=>?_)
 refine .lo rfl<|.ag rfl<|.zs<|.fX mixed (by kernel_rfl) ?_
 refine .mo rfl<|.nc rfl<|.fa rfl<|.q (.loadT rfl) ?_
 refine .q (.aL rfl)<|.q (.nq rfl rfl (aw.kinds x.t) (aw.kinds t)) ?_
 rw[show eI (List.take 7 (List.drop 0 x.enc)) t.enc=decide (x.t=t)from aw.eq x.t t]
 refine .mo rfl<|.split (t:=25) rfl (λa=>?_) (λa=>?_)
 refine .gT a<|.mo rfl<|.gT a<|.nc rfl<|.gT a<|.fa rfl<|.gT a<|.lo rfl<|.gT a<|.q .cr<|.q (.aU a)<|.zn<|.cond rfl (λr=>?_) λr=>?_
 refine .sr<|.mo rfl<|.az rfl<|.ret (bA (aJ (cW (bA (aJ (aP rfl ?_))))))
 ·exact⟨.inl ⟨b,x,A.1,by unfold bf.eS;simp_all,rfl⟩,rfl⟩
 refine .skip<|ba<|au<|.region<|.ia (i+1) .add<|.mo rfl<|.nil ?_
 ·exact bp (i+1) ⟨m,λj n f l e=>by
   rcases acH j i with hh|hh
   ·exact v j n f hh e
   ·obtain rfl:j=i:=by omega
    rw[d]at e
    cases e
    unfold bf.eS
    first
     |exact(by rw[a];exact r)
     |exact(by rw[a];rfl)⟩ (by omega) kE.c.c.c.c.c rH
 refine .gF a<|.gF a<|.gF a<|.gF a<|.gF a<|.q (.aN a)<|.zn<|.dA<|.skip<|ba<|au<|.region<|.ia (i+1) .add<|.mo rfl<|.nil ?_
 ·exact bp (i+1) ⟨m,λj n f l e=>by
   rcases acH j i with hh|hh
   ·exact v j n f hh e
   ·obtain rfl:j=i:=by omega
    rw[d]at e
    cases e
    unfold bf.eS
    first
     |exact(by rw[a];exact r)
     |exact(by rw[a];rfl)⟩ (by omega) kE.c.c.c.c.c rH
 refine .exit<|bD<|bG<|bE<|au<|.sr<|.az rfl<|.ret (aP rfl ?_)
 ·refine⟨.inr ⟨?_,rfl⟩,rfl⟩
  have G:i=(ids (λx=>x.t.di) t.di ps).length:=by have:=bI p;omega
  rw[dE,adn]
  intro x d k
  rw[<-h.eq]at d
  obtain⟨⟨b,f⟩,E,rfl⟩:=acq.1 d
  have H:f.t=t:=by unfold bf.eS at k;simp only[acv,acu]at k;exact k.1
  have J:(b,f)∈kR (λx=>x.t.di) t.di ps:=acA.2 ⟨E,by simp[H]⟩
  obtain⟨j,l,F⟩:=acV.1 J
  have:=v j b f (by rw[G,uw,acB];exact l) (by rw[bk l,F])
  rw[this]at k
  cases k
theorem BO(g:Nat)(S:cE)(T:av)(h:SI g S T)(x:bf)(p:S.rows.length<=5000)(R:aA):
  Spec prog 64 [pT g,.agg x.enc.toArray] R [T] λu H'=>∃T',H'=[T']/\u=.tuple #[]/\SI g ⟨S.rows++[x],S.head,S.dV⟩ T':=by
 obtain⟨a,e,f,U,V,r,v,W,X,rfl,c,d,o⟩:=h
 obtain⟨vk,j,k,G,H,I,J⟩:=c.get x.t.di
 obtain⟨wk,m,n,K,L,M,N⟩:=d.get x.t.sub
 have a4:a.length<=5000:=by rw[<-o,acB]at p;exact p
 have a2:(ids (λx=>x.t.di) x.t.di a).length<=a.length:=by rw[ids,acB];exact ac8 _ _
 have a3:(ids (λx=>x.t.sub) x.t.sub a).length<=a.length:=by rw[ids,acB];exact ac8 _ _
 refine Spec.Oq (H':=[bl g [.bool true,.int .u64 S.head,.int .u64 S.dV,iN a.length,e,f] 147,r,j,k,v,m,n,jJ a]) ?_ ?_
 ·simp only[adG,List.flatten_nil,ado,adF,List.nil_append]
  refine .cons _ (.append_left _ ?_)
  rw[<-ade j]
  refine .append I (.append_left _ ?_)
  rw[<-ade m]
  exact .append_right _ M
 refine Spec.body func64 rfl results64 ntmps64 rfl<|.sr ?_
 refine .cg rfl (λb=>?_)
 refine .z<|.ag rfl<|.z<|.fa rfl<|.q (.loadT rfl)<|.aQ (zK x.t _) (λu F=>?_)
 subst F
 refine .cq (λb5=>?_)
 refine .bZ rfl rfl<|.zs<|.dz [7,9,11] mixed<|.tO 0 rfl .move<|.tO 1 rfl (.nilCheck rfl)<|.tO 2 rfl (.fieldAddr rfl)<|.tO 3 rfl (.cI rfl)<|.tO 4 rfl (.aL rfl)<|.tO 5 rfl .move<|.sT 6 rfl ?_
 refine .jB (λa0=>?_)
 refine .nil<|Next.sub<|.sT 7 rfl<|.mapEntry (key:=x.t.di) (u0:=(sZ,[])) c.ms rfl rfl rfl (λY s1 y=>?_)
 rw[G]
 refine .nil<|Next.mod rfl<|.tK 8 rfl .extract<|.tK 10 rfl .extract<|.sT 9 rfl ?_
 refine .append H (RS.lits (xs:=[b]) rfl (by simp[jh]) (by simp[jh,ay])) (by simp;omega) (λO i D=>?_)
 refine .nil<|Next.mod rfl<|.sT 11 rfl ?_
 refine .entryStore (u:=(O,i)) y rfl rfl rfl (λs B=>?_)
 refine .nil<|Next.mod rfl<|RA.nil (by kernel_rfl)<|au<|.seq<|.dz [9,11,13] mixed<|.tO 0 rfl .move<|.tO 1 rfl (.nilCheck rfl)<|.tO 2 rfl (.fieldAddr rfl)<|.tO 3 rfl (.cI rfl)<|.tO 4 rfl (.fieldAddr rfl)<|.tO 5 rfl (.fieldAddr rfl)<|.tO 6 rfl (.loadT rfl)<|.tO 7 rfl .move<|.sT 8 rfl ?_
 refine .jB (λa1=>?_)
 refine .nil<|Next.sub<|.sT 9 rfl<|.mapEntry (key:=x.t.sub) (u0:=(sZ,[])) d.ms rfl rfl rfl (λZ s2 A=>?_)
 rw[K]
 refine .nil<|Next.mod rfl<|.tK 10 rfl .extract<|.tK 12 rfl .extract<|.sT 11 rfl ?_
 refine .append L (RS.lits (xs:=[b]) rfl (by simp[jh]) (by simp[jh,ay])) (by simp;omega) (λQ l E=>?_)
 refine .nil<|Next.mod rfl<|.sT 13 rfl ?_
 refine .entryStore (u:=(Q,l)) A rfl rfl rfl (λw C=>?_)
 refine .nil<|Next.mod rfl<|RA.nil (by kernel_rfl) ?_
 refine au<|.region<|.mo rfl<|.nc rfl<|.fa rfl<|.lo rfl ?_
 refine .ia (a.length+1) .add ?_
 refine .nc rfl<|.fa rfl<|.ek rfl rfl<|.nil<|gC _ .none ((aK [4,4,4,4,4,4,4,4,3]).trans (bz.fH (H':=[(g,.cells [.bool true,.int .u64 S.head,.int .u64 S.dV,.int .i64 ((a++[(b,x)]).length:Nat),e,f].toArray 147 (0,0))::(s++((i++k)++(w++((l++n)++jJ (a++[(b,x)])))))]) (by simp[take,bN,du,jJ,lg]))) ?_
 ·exact⟨_,rfl,rfl,a++[(b,x)],e,f,_,_,_,_,_,_,rfl,c.add B D (J _ _).symm,d.add C E (N _ _).symm,by simp[o]⟩
namespace LTP
theorem mK(f:FuncId)(caps:List Value) [e:aT prog f](p:aw->Bool)(v:Value)(l:List aw)(R:aA)(h:RS R 7 aw.enc v l)(C:∀s∈l,∀R',(∀b o,R b o->R' b o)->Spec prog f ((λt:aw=>Value.agg t.enc.toArray) s::caps) R' [] λu H'=>u=.bool (p s)/\H'=[]):
  Spec prog 170 [v,.func (.func f) #[] caps.toArray] R [] λu H'=>(∃k:Int,u=.int .i64 k/\((∃(i:Nat) (x:aw),l[i]? =some x/\p x=true/\(∀j y,j<i->l[j]? =some y->p y=false)/\k=i)\/((∀y∈l,p y=false)/\k= -1)))/\H'=[]:=by
 have H:=h.le
 refine Spec.body func170 rfl results170 ntmps170 rfl<|.sr<|.ag rfl<|.zs<|.sr<|.mo rfl<|.q (.bK h)<|.mo rfl<|.zn<|.block<|.loop (X:=Nat) (λi=>i<=l.length/\∀j z,j<i->l[j]? =some z->p z=false) (λi=>[(0,v),(1,.func (.func f) #[] caps.toArray),(7,.int .i64 l.length),(8,iN i)]) (λ_=>[]) (λi=>l.length-i) 0 ⟨by omega,by omega⟩ kE.c.c.c.c rH ?_
 rintro i ⟨G,w⟩
 refine .sr<|.q .lss<|.zs<|.cond rfl (λg=>?_) λg=>?_
 have D:i<l.length:=by simp at g;omega
 obtain⟨z,d⟩:=ca D
 have F:=aR d
 refine .kn<|.seq<|.block<|.sr<|.mo rfl<|.ag rfl<|.z<|.mo rfl<|.mo rfl<|.mo rfl ?_
 refine .bF i h d (λI=>?_)
 refine .q (.aL rfl)<|.gx (first:=[]) (captured:=caps) (vs:=[(λt:aw=>Value.agg t.enc.toArray) z]) (C z F _ λb o A=>.inl A) (λu E=>?_)
 subst E
 refine .zn<|.cond rfl (λm=>?_) λm=>?_
 refine .sr<|.mo rfl<|.az rfl<|.ret (bA (aJ (cW (bA (aJ (aP rfl ?_))))))
 ·exact⟨⟨_,rfl,.inl ⟨i,z,d,m,w,rfl⟩⟩,rfl⟩
 refine .skip<|ba<|au<|.region<|.q (.inc (n:=i) (by omega))<|.mo rfl<|.nil ?_
 ·exact bp (i+1) ⟨by omega,λj y r a=>by
   rcases acH j i with hh|hh
   ·exact w j y hh a
   ·obtain rfl:j=i:=by omega
    rw[d]at a;cases a;exact m⟩ (by omega) kE.c.c.c.c rH
 refine .exit<|bD<|bG<|bE<|au<|.sr<|.az rfl<|.ret (aP rfl ?_)
 ·have B:i=l.length:=by simp at g;omega
  subst B
  refine⟨⟨_,rfl,.inr ⟨λy a=>?_,rfl⟩⟩,rfl⟩
  obtain⟨j,r,rfl⟩:=acV.1 a
  exact w j _ r (bk r)
theorem jU(f:FuncId)(caps:List Value) [e:aT prog f](p:aw->Bool)(v:Value)(l:List aw)(R:aA)(h:RS R 7 aw.enc v l)(j:∀s∈l,∀R',(∀b o,R b o->R' b o)->Spec prog f ((λt:aw=>Value.agg t.enc.toArray) s::caps) R' [] λu H'=>u=.bool (p s)/\H'=[]):
  Spec prog 112 [v,.func (.func f) #[] caps.toArray] R [] λu H'=>u=.bool (l.any p)/\H'=[]:=by
 refine Spec.body func112 rfl results112 ntmps112 rfl<|.sr<|.ag rfl<|.z<|.mo rfl<|.mo rfl<|.aQ (mK f caps p v l _ h.rx λs r R' d=>j s r R' λb o g=>d b o (.inl g)) (λu w=>?_)
 obtain⟨k,rfl,m⟩:=w
 have n:decide (0<=k)=l.any p:=by
  rcases m with⟨i,x,a,c,_,rfl⟩|⟨a,rfl⟩
  ·rw[acP.2 ⟨x,aR a,c⟩];simp
  ·rw[adn.2 λy A=>by rw[a y A];simp];rfl
 refine .q .geq<|.az rfl<|.ret (aP rfl ?_)
 ·exact⟨by simp only[n],rfl⟩
end LTP
namespace LCH
theorem mK(f:FuncId)(caps:List Value) [e:aT prog f](p:cz->Bool)(v:Value)(l:List cz)(R:aA)(h:RS R 8 cz.enc v l)(C:∀s∈l,∀R',(∀b o,R b o->R' b o)->Spec prog f ((λt:cz=>Value.agg t.enc.toArray) s::caps) R' [] λu H'=>u=.bool (p s)/\H'=[]):
  Spec prog 172 [v,.func (.func f) #[] caps.toArray] R [] λu H'=>(∃k:Int,u=.int .i64 k/\((∃(i:Nat) (x:cz),l[i]? =some x/\p x=true/\(∀j y,j<i->l[j]? =some y->p y=false)/\k=i)\/((∀y∈l,p y=false)/\k= -1)))/\H'=[]:=by
 have H:=h.le
 refine Spec.body func172 rfl results172 ntmps172 rfl<|.sr<|.ag rfl<|.zs<|.sr<|.mo rfl<|.q (.bK h)<|.mo rfl<|.zn<|.block<|.loop (X:=Nat) (λi=>i<=l.length/\∀j z,j<i->l[j]? =some z->p z=false) (λi=>[(0,v),(1,.func (.func f) #[] caps.toArray),(7,.int .i64 l.length),(8,iN i)]) (λ_=>[]) (λi=>l.length-i) 0 ⟨by omega,by omega⟩ kE.c.c.c.c rH ?_
 rintro i ⟨G,w⟩
 refine .sr<|.q .lss<|.zs<|.cond rfl (λg=>?_) λg=>?_
 have D:i<l.length:=by simp at g;omega
 obtain⟨z,d⟩:=ca D
 have F:=aR d
 refine .kn<|.seq<|.block<|.sr<|.mo rfl<|.ag rfl<|.z<|.mo rfl<|.mo rfl<|.mo rfl ?_
 refine .bF i h d (λI=>?_)
 refine .q (.aL rfl)<|.gx (first:=[]) (captured:=caps) (vs:=[(λt:cz=>Value.agg t.enc.toArray) z]) (C z F _ λb o A=>.inl A) (λu E=>?_)
 subst E
 refine .zn<|.cond rfl (λm=>?_) λm=>?_
 refine .sr<|.mo rfl<|.az rfl<|.ret (bA (aJ (cW (bA (aJ (aP rfl ?_))))))
 ·exact⟨⟨_,rfl,.inl ⟨i,z,d,m,w,rfl⟩⟩,rfl⟩
 refine .skip<|ba<|au<|.region<|.q (.inc (n:=i) (by omega))<|.mo rfl<|.nil ?_
 ·exact bp (i+1) ⟨by omega,λj y r a=>by
   rcases acH j i with hh|hh
   ·exact w j y hh a
   ·obtain rfl:j=i:=by omega
    rw[d]at a;cases a;exact m⟩ (by omega) kE.c.c.c.c rH
 refine .exit<|bD<|bG<|bE<|au<|.sr<|.az rfl<|.ret (aP rfl ?_)
 ·have B:i=l.length:=by simp at g;omega
  subst B
  refine⟨⟨_,rfl,.inr ⟨λy a=>?_,rfl⟩⟩,rfl⟩
  obtain⟨j,r,rfl⟩:=acV.1 a
  exact w j _ r (bk r)
theorem jU(f:FuncId)(caps:List Value) [e:aT prog f](p:cz->Bool)(v:Value)(l:List cz)(R:aA)(h:RS R 8 cz.enc v l)(j:∀s∈l,∀R',(∀b o,R b o->R' b o)->Spec prog f ((λt:cz=>Value.agg t.enc.toArray) s::caps) R' [] λu H'=>u=.bool (p s)/\H'=[]):
  Spec prog 116 [v,.func (.func f) #[] caps.toArray] R [] λu H'=>u=.bool (l.any p)/\H'=[]:=by
 refine Spec.body func116 rfl results116 ntmps116 rfl<|.sr<|.ag rfl<|.z<|.mo rfl<|.mo rfl<|.aQ (mK f caps p v l _ h.rx λs r R' d=>j s r R' λb o g=>d b o (.inl g)) (λu w=>?_)
 obtain⟨k,rfl,m⟩:=w
 have n:decide (0<=k)=l.any p:=by
  rcases m with⟨i,x,a,c,_,rfl⟩|⟨a,rfl⟩
  ·rw[acP.2 ⟨x,aR a,c⟩];simp
  ·rw[adn.2 λy A=>by rw[a y A];simp];rfl
 refine .q .geq<|.az rfl<|.ret (aP rfl ?_)
 ·exact⟨by simp only[n],rfl⟩
end LCH
def te(M:List (aw×Bool))(l:List aw):Prop:=∀k,cG k M=if k∈l then some true else none
theorem te.add{M:List (aw×Bool)}{l:List aw}(h:te M l)(t:aw):te (dy t true M) (l++[t]):=λk=>by
 rw[kV,h k]
 by_cases a:k=t<;>by_cases b:k∈l<;>simp[a,b]
theorem zF{l:List aw}{a:aw}:(!decide (l++[a]).Nodup)=((!decide l.Nodup)||decide (a∈l)):=by
 have h:(l++[a]).Nodup↔l.Nodup/\a∉l:=by
  rw[adq]
  constructor
  ·rintro⟨b,_,f⟩
   exact⟨b,λh=>f a h a (by simp) rfl⟩
  ·rintro⟨b,c⟩
   refine⟨b,by simp,λx g y d=>?_⟩
   simp only[acD]at d
   subst d
   exact λe=>c (e▸g)
 by_cases b:l.Nodup<;>by_cases c:a∈l<;>simp[h,b,c]
theorem nE{bj no:List aw}{cs:List cz}(h:32<cs.length\/cs.length=0\/32<bj.length\/32<no.length):fQ bj no cs=25:=by unfold fQ;rw[acp h]
theorem pM{bj no:List aw}{cs:List cz}(h:¬(32<cs.length\/cs.length=0\/32<bj.length\/32<no.length))(a:(bj.any (λt=> !eQ t)||no.any (λt=> !eQ t)||cs.any (λc=> !eQ c.t))=true):fQ bj no cs=9:=by unfold fQ;rw[aco h,acp a]
theorem sR{bj no:List aw}{cs:List cz}(h:¬(32<cs.length\/cs.length=0\/32<bj.length\/32<no.length))(a:bj.any (λt=> !eQ t)=false)(d:no.any (λt=> !eQ t)=false)(e:∀c∈cs,eQ c.t=true)(b:Bool)(i:b= !decide (cs.map (·.t)).Nodup):fQ bj no cs=if b then 2 else 0:=by
 have f:cs.any (λc=> !eQ c.t)=false:=by
  rw[adn]
  intro c j
  rw[e c j];simp
 unfold fQ
 rw[aco h,a,d,f,aco (by simp),i]
 by_cases g:(cs.map (·.t)).Nodup<;>simp[g]
theorem Cs(vm S Q:Value)(bj no:List aw)(cs:List cz)(R:aA)(w:RS R 7 aw.enc vm bj)(B:RS R 7 aw.enc S no)(m:RS R 8 cz.enc Q cs)(U:∀t∈bj,t.fits)(V:∀t∈no,t.fits)(T:∀c∈cs,c.t.fits):
  Spec prog 62 [vm,S,Q] R [] λu H'=>u=.int .i64 (fQ bj no cs)/\H'=[]:=by
 have lm:=w.le
 have ln:=B.le
 have lc:=m.le
 obtain⟨pm,km,rfl⟩:=w.val
 obtain⟨pn,kn,rfl⟩:=B.val
 obtain⟨pc,Z,rfl⟩:=m.val
 refine Spec.body func62 rfl results62 ntmps62 rfl<|.sr<|.ag rfl<|.zs<|.sr<|.mo rfl<|.q (.bK m)<|.q .gtr<|.mo rfl<|.split (t:=14) rfl (λf=>?_) (λf=>?_)
 refine .gF f<|.gF f<|.gF f<|.q (.aU f)<|.mo rfl<|.gX<|.gX<|.gX<|.q .dj<|.mo rfl<|.gX<|.gX<|.gX<|.q .dj<|.zn<|.gL<|.sr<|.az rfl<|.ret (aJ (aP rfl ?_))
 ·exact⟨by rw[nE (.inl (by have:=cL f;omega))],rfl⟩
 refine .gT f<|.mo rfl<|.gT f<|.q (.bK m)<|.gT f<|.q .cr<|.q (.aN f)<|.mo rfl<|.split (t:=19) rfl (λg=>?_) (λg=>?_)
 refine .gF g<|.gF g<|.gF g<|.q (.aU g)<|.mo rfl<|.gX<|.gX<|.gX<|.q .dj<|.zn<|.gL<|.sr<|.az rfl<|.ret (aJ (aP rfl ?_))
 ·exact⟨by rw[nE (.inr (.inl (by have:=eq_of_beq g;omega)))],rfl⟩
 refine .gT g<|.mo rfl<|.gT g<|.q (.bK w)<|.gT g<|.q .gtr<|.q (.aN g)<|.mo rfl<|.split (t:=24) rfl (λe=>?_) (λe=>?_)
 refine .gF e<|.gF e<|.gF e<|.q (.aU e)<|.zn<|.gL<|.sr<|.az rfl<|.ret (aJ (aP rfl ?_))
 ·exact⟨by rw[nE (.inr (.inr (.inl (by have:=cL e;omega))))],rfl⟩
 refine .gT e<|.mo rfl<|.gT e<|.q (.bK B)<|.gT e<|.q .gtr<|.q (.aN e)<|.zn<|.cond rfl (λL=>?_) λL=>?_
 refine .sr<|.az rfl<|.ret (aJ (aP rfl ?_))
 ·exact⟨by rw[nE (.inr (.inr (.inr (by have:=cL L;omega))))],rfl⟩
 have o:¬(32<cs.length\/cs.length=0\/32<bj.length\/32<no.length):=by simp_all;try omega
 refine .kn<|.seq<|.sr<|.mo rfl<|.aQ (LTP.jU 113 [] (λt=> !eQ t) _ bj _ w.rx λt K C W=>uW t (U t K) C) (λu p=>?_)
 subst p
 refine .mo rfl<|.split (t:=31) rfl (λh=>?_) (λh=>?_)
 refine .gF h<|.gF h<|.q (.aU h)<|.zn<|.gL<|.sr<|.az rfl<|.ret (aJ (aP rfl ?_))
 ·exact⟨by rw[pM o (by rw[h];rfl)],rfl⟩
 refine .gT h<|.mo rfl<|.gT h<|.aQ (LTP.jU 113 [] (λt=> !eQ t) _ no _ B.rx λt K C W=>uW t (V t K) C) (λu p=>?_)
 subst p
 refine .q (.aN h)<|.zn<|.cond rfl (λr=>?_) λr=>?_
 refine .sr<|.az rfl<|.ret (aJ (aP rfl ?_))
 ·exact⟨by rw[pM o (by rw[r,Bool.or_true,ac4])],rfl⟩
 refine .kn<|.sr ?_
 refine .makeMap (λE=>?_)
 refine .ag rfl<|.z<|.ag rfl<|.zs<|.sr<|.mo rfl<|.q (.bK m)<|.mo rfl<|.zn<|.block<|.loop (X:=Nat×Bool×List (aw×Bool)×av) (λy=>(y.1<=cs.length/\∀c∈cs.take y.1,eQ c.t=true)/\y.2.1= !decide ((cs.take y.1).map (·.t)).Nodup/\te y.2.2.1 ((cs.take y.1).map (·.t))/\MS (λk:aw=>.agg k.enc.toArray) (λb:Bool=>.bool b) (.map (some E)) y.2.2.1 y.2.2.2) (λy=>[(7,.map (some E)),(8,.bool y.2.1),(36,.slice pc cs.length Z),(37,iN cs.length),(38,iN y.1)]) (λy=>[y.2.2.2]) (λy=>cs.length-y.1) (0,false,[],[(E,.map #[] 0)]) ⟨⟨acM _,by simp⟩,by simp,λk=>by simp[cG],MS.nil⟩ kE.c.c.c.c.c rH ?_
 rintro⟨i,O,M,Tm⟩ ⟨⟨Y,j⟩,l,x,A⟩
 simp only at Y j l x A⊢
 refine .sr<|.q .lss<|.zs<|.cond rfl (λs=>?_) λs=>?_
 have J:i<cs.length:=cK s
 obtain⟨c,H⟩:=ca J
 have N:=aR H
 have n:cs.take (i+1)=cs.take i++[c]:=by rw[acZ,H];rfl
 refine .kn<|.seq<|.block<|.sr ?_
 refine .bF i m H (λa1=>?_)
 refine .q (.aL rfl) ?_
 refine .cq (λa0=>?_)
 refine .bZ rfl rfl<|.zs<|.sr<|.fa rfl<|.q (.loadT rfl)<|.aQ (uW c.t (T c N) _) (λu p=>?_)
 subst p
 refine .zn<|.cond rfl (λv=>?_) λv=>?_
 refine .sr<|.az rfl<|.ret (aJ (bA (aJ (cW (bA (aJ (aP rfl ?_)))))))
 ·exact⟨by rw[pM o (by rw[acP.2 ⟨c,N,v⟩,Bool.or_true])],rfl⟩
 refine .kn<|.sr<|.mo rfl<|.mo rfl<|.split (t:=46) rfl (λa=>?_) (λa=>?_)
 refine .gF a<|.gF a<|.gF a<|.gF a<|.q (.aU a)<|.az rfl<|.region<|.mo rfl<|.fa rfl<|.q (.loadT rfl) ?_
 refine .update (key:=c.t) (u:=true) A rfl rfl rfl (λD G _=>?_)
 refine .nil<|ba<|au<|.region<|.ia (i+1) .add<|.mo rfl<|.nil ?_
 ·exact bp (i+1,_,dy c.t true M,D) ⟨⟨J,λd hd=>by
   rw[n]at hd
   rcases acI.1 hd with hd|hd
   ·exact j d hd
   ·simp only[acD]at hd
    subst hd;simpa using v⟩,by
   simp only
   rw[n,acE,acw,ac5,zF, <-l]
   first
    |(rw[a];rfl)
    |(rw[a,acW]),by simp only;rw[n,acE];exact x.add c.t,G⟩ (by simp only;omega) (((((kE.d rfl).d rfl).d rfl).d rfl).d rfl) (by first|exact bz.pick [1] _|exact bz.refl _)
 refine .gT a<|.mo rfl<|.gT a<|.fa rfl<|.gT a<|.q (.loadT rfl)<|.gT a<|.q (.od A.rx rfl (key:=c.t) rfl (show _=Value.bool (decide (c.t∈(cs.take i).map (·.t)))from by rw[x c.t];split<;>simp_all))<|.q (.aN a)<|.az rfl<|.region<|.mo rfl<|.fa rfl<|.q (.loadT rfl) ?_
 refine .update (key:=c.t) (u:=true) A rfl rfl rfl (λD G _=>?_)
 refine .nil<|ba<|au<|.region<|.ia (i+1) .add<|.mo rfl<|.nil ?_
 ·exact bp (i+1,_,dy c.t true M,D) ⟨⟨J,λd hd=>by
   rw[n]at hd
   rcases acI.1 hd with hd|hd
   ·exact j d hd
   ·simp only[acD]at hd
    subst hd;simpa using v⟩,by
   simp only
   rw[n,acE,acw,ac5,zF, <-l]
   first
    |(rw[a];rfl)
    |(rw[a,acW]),by simp only;rw[n,acE];exact x.add c.t,G⟩ (by simp only;omega) (((((kE.d rfl).d rfl).d rfl).d rfl).d rfl) (by first|exact bz.pick [1] _|exact bz.refl _)
 refine .exit<|bD<|bG<|bE<|au<|.seq<|.sr<|.mo rfl<|.zn<|.cond rfl (λF=>?_) λF=>?_
 refine .sr<|.az rfl<|.ret (aJ (aP rfl ?_))
 ·have I:i=cs.length:=by have:=bI s;omega
  subst I
  rw[adz]at j l
  exact⟨by rw[sR o h r j O l,F];rfl,rfl⟩
 refine .kn<|.sr<|.az rfl<|.ret (aP rfl ?_)
 ·have I:i=cs.length:=by have:=bI s;omega
  subst I
  rw[adz]at j l
  exact⟨by rw[sR o h r j O l,F];rfl,rfl⟩
section
variable{R:aA}{g:Nat}{S:cE}{ps:List RB}{vf vr:Value}{Mf:List (aW×(Value×av))}{Mr:List (Sub×(Value×av))}
theorem Be(h:SV R g S ps vf vr Mf Mr)(q:Nat) [pc:PC R (pT q) [pT g]](t:aw):
  Spec prog 114 [.agg t.enc.toArray,pT q] R [] λv H'=>v=.bool (dE S.rows t)/\H'=[]:=by
 refine Spec.body func114 rfl results114 ntmps114 rfl<|.sr ?_
 refine .cg rfl (λe=>?_)
 refine .ag rfl<|.z<|.lo rfl<|.q (.aL rfl)<|.aQ (find_spec (h.mono λb o a=>.inl a) t) (λv d=>?_)
 obtain⟨o,rfl,c⟩:=d.ptr h.eq
 refine .q (.NH rfl rfl)<|.az rfl<|.ret (aP rfl ?_)
 ·exact⟨by rw[c],rfl⟩
theorem wX(h:SV R g S ps vf vr Mf Mr)(q:Nat) [pc:PC R (pT q) [pT g]](t:aw):
  Spec prog 115 [.agg t.enc.toArray,pT q] R [] λv H'=>v=.bool (!dE S.rows t)/\H'=[]:=by
 refine Spec.body func115 rfl results115 ntmps115 rfl<|.sr ?_
 refine .cg rfl (λe=>?_)
 refine .ag rfl<|.z<|.lo rfl<|.q (.aL rfl)<|.aQ (find_spec (h.mono λb o a=>.inl a) t) (λv d=>?_)
 obtain⟨o,rfl,c⟩:=d.ptr h.eq
 refine .q (.CT rfl rfl)<|.az rfl<|.ret (aP rfl ?_)
 ·exact⟨by rw[c,Bool.not_not],rfl⟩
theorem OB(h:SV R g S ps vf vr Mf Mr)(q d:Nat) [pc:PC R (pT q) [pT g]] [j:PC R (pT d) [.func (.func 114) #[] [pT q].toArray]](c:cz):
  Spec prog 117 [.agg c.enc.toArray,pT d] R [] λv H'=>v=.bool (c.put&&dE S.rows c.t)/\H'=[]:=by
 refine Spec.body func117 rfl results117 ntmps117 rfl<|.sr ?_
 refine .cg rfl (λi=>?_)
 refine .ag rfl<|.z<|.fa rfl<|.lo rfl<|.mo rfl<|.split (t:=6) rfl (λa=>?_) (λa=>?_)
 refine .gT a<|.lo rfl<|.gT a<|.fa rfl<|.gT a<|.q (.loadT rfl)<|.gT a<|.gx (first:=[]) (captured:=[pT q]) (vs:=[.agg c.t.enc.toArray]) (Be (h.mono λb o e=>.inl e) q c.t) (λu f=>?_)
 subst f
 refine .q (.aU a)<|.az rfl<|.ret (aP rfl ?_)
 ·refine⟨acs _ ?_,rfl⟩
  simp_all
 refine .gF a<|.gF a<|.gF a<|.gF a<|.q (.aN a)<|.az rfl<|.ret (aP rfl ?_)
 ·refine⟨acs _ ?_,rfl⟩
  simp_all
theorem CG(h:SV R g S ps vf vr Mf Mr)(q d:Nat) [pc:PC R (pT q) [pT g]] [j:PC R (pT d) [.func (.func 115) #[] [pT q].toArray]](c:cz):
  Spec prog 118 [.agg c.enc.toArray,pT d] R [] λv H'=>v=.bool (!c.put&& !dE S.rows c.t)/\H'=[]:=by
 refine Spec.body func118 rfl results118 ntmps118 rfl<|.sr ?_
 refine .cg rfl (λi=>?_)
 refine .ag rfl<|.z<|.fa rfl<|.lo rfl<|.q .not<|.mo rfl<|.split (t:=7) rfl (λa=>?_) (λa=>?_)
 refine .gT a<|.lo rfl<|.gT a<|.fa rfl<|.gT a<|.q (.loadT rfl)<|.gT a<|.gx (first:=[]) (captured:=[pT q]) (vs:=[.agg c.t.enc.toArray]) (wX (h.mono λb o e=>.inl e) q c.t) (λu f=>?_)
 subst f
 refine .q (.aU a)<|.az rfl<|.ret (aP rfl ?_)
 ·refine⟨acs _ ?_,rfl⟩
  simp_all
 refine .gF a<|.gF a<|.gF a<|.gF a<|.q (.aN a)<|.az rfl<|.ret (aP rfl ?_)
 ·refine⟨acs _ ?_,rfl⟩
  simp_all
theorem A1{cs:List cz}{i:Nat}{c:cz}(h:cs[i]? =some c):fx (cs.take (i+1))=fx (cs.take i)+if c.put then 1 else 0:=by
 have a:cs.take (i+1)=cs.take i++[c]:=by rw[acZ,h];rfl
 unfold fx
 rw[a,ac0,adm]
 cases hp:c.put<;>simp[ac2,hp]
theorem Mh(h:SV R g S ps vf vr Mf Mr)(T:S.rows.length<=4096)(vm I H:Value)(bj no:List aw)(cs:List cz)(A:RS R 7 aw.enc vm bj)(B:RS R 7 aw.enc I no)(p:RS R 8 cz.enc H cs):
  Spec prog 63 [pT g,vm,I,H] R [] λu H'=>u=.int .i64 (fj S.rows S.head bj no cs)/\H'=[]:=by
 have lm:=A.le
 have ln:=B.le
 have lc:=p.le
 have pc:=h.pc
 have W:=h.of
 have Y:=h.or
 have U:ps.length=S.rows.length:=by rw[<-h.eq,acB]
 obtain⟨pm,Z,rfl⟩:=A.val
 obtain⟨pn,kn,rfl⟩:=B.val
 obtain⟨L,K,rfl⟩:=p.val
 refine Spec.body func63 rfl results63 ntmps63 rfl<|.sr ?_
 refine .tD rfl (λe=>?_)
 refine .ag rfl<|.z<|.q .makeFunc ?_
 refine .rn (λv=>?_)
 refine .ek rfl rfl<|.z<|.q .makeFunc ?_
 refine .rn (λs=>?_)
 refine .ek rfl rfl<|.zs<|.sr<|.mo rfl<|.lo rfl ?_
 refine .aQ (LTP.jU 115 [pT e] (λt=> !dE S.rows t) _ bj _ A.rx λt D j f=>by
  have:=PC.of (E:=31) (fr:=(0,0)) (R:=j) (b:=e) (vs:=[pT g]) (f _ _ (.inr (by simp[du])))
  exact wX (h.mono λb o l=>f _ _ (.inl l)) e t) (λu m=>?_)
 subst m
 refine .mo rfl<|.split (t:=19) rfl (λd=>?_) (λd=>?_)
 refine .gF d<|.gF d<|.gF d<|.q (.aU d)<|.zn<|.gL<|.sr<|.az rfl<|.ret (aJ (aP rfl ?_))
 ·exact⟨by unfold fj;rw[d,ac4,acp rfl],rfl⟩
 refine .gT d<|.mo rfl<|.gT d<|.lo rfl<|.gT d ?_
 refine .aQ (LTP.jU 114 [pT e] (λt=>dE S.rows t) _ no _ B.rx λt D j f=>by
  have:=PC.of (E:=31) (fr:=(0,0)) (R:=j) (b:=e) (vs:=[pT g]) (f _ _ (.inr (by simp[du])))
  exact Be (h.mono λb o l=>f _ _ (.inl l)) e t) (λu m=>?_)
 subst m
 refine .q (.aN d)<|.zn<|.cond rfl (λk=>?_) λk=>?_
 refine .sr<|.az rfl<|.ret (aJ (aP rfl ?_))
 ·exact⟨by unfold fj;rw[k,Bool.or_true,acp rfl],rfl⟩
 refine .kn<|.seq<|.sr<|.mo rfl<|.q .makeFunc ?_
 refine .aQ (LCH.jU 117 [pT v] (λc=>c.put&&dE S.rows c.t) _ cs _ p.rx λc D j f=>by
  have:=PC.of (E:=31) (fr:=(0,0)) (R:=j) (b:=e) (vs:=[pT g]) (f _ _ (.inr (by simp[du])))
  have:=PC.of (E:=231) (fr:=(0,0)) (R:=j) (b:=v) (vs:=[.func (.func 114) #[] [pT e].toArray]) (f _ _ (.inr (by simp[du])))
  exact OB (h.mono λb o l=>f _ _ (.inl l)) e v c) (λu m=>?_)
 subst m
 refine .zn<|.cond rfl (λn=>?_) λn=>?_
 refine .sr<|.az rfl<|.ret (aJ (aP rfl ?_))
 ·exact⟨by unfold fj;rw[d,k,adp,aco (by simp),n,acp rfl],rfl⟩
 refine .kn<|.seq<|.sr<|.mo rfl<|.q .makeFunc ?_
 refine .aQ (LCH.jU 118 [pT s] (λc=> !c.put&& !dE S.rows c.t) _ cs _ p.rx λc D j f=>by
  have:=PC.of (E:=31) (fr:=(0,0)) (R:=j) (b:=e) (vs:=[pT g]) (f _ _ (.inr (by simp[du])))
  have:=PC.of (E:=231) (fr:=(0,0)) (R:=j) (b:=s) (vs:=[.func (.func 115) #[] [pT e].toArray]) (f _ _ (.inr (by simp[du])))
  exact CG (h.mono λb o l=>f _ _ (.inl l)) e s c) (λu m=>?_)
 subst m
 refine .zn<|.cond rfl (λr=>?_) λr=>?_
 refine .sr<|.az rfl<|.ret (aJ (aP rfl ?_))
 ·exact⟨by unfold fj;rw[d,k,adp,aco (by simp),n,aco (by simp),r,acp rfl],rfl⟩
 refine .kn<|.sr<|.ag rfl<|.zs<|.sr<|.mo rfl<|.q (.bK p)<|.mo rfl<|.zn<|.block<|.loop (X:=Nat) (λi=>i<=cs.length) (λi=>[(4,pT e),(11,.int .i64 (fx (cs.take i):Nat)),(30,.slice L cs.length K),(31,iN cs.length),(32,iN i)]) (λ_=>[bl e [pT g] 31]) (λi=>cs.length-i) 0 (acM _) kE.c.c.c.c.c (aK [2]) ?_
 rintro i Q
 have V:fx (cs.take i)<=i:=acJ (ac8 _ _) (by rw[adM];omega)
 refine .sr<|.q .lss<|.zs<|.cond rfl (λw=>?_) λw=>?_
 have C:i<cs.length:=cK w
 obtain⟨c,F⟩:=ca C
 have G:=A1 F
 refine .kn<|.seq<|.block<|.sr ?_
 refine .bF i p F (λa0=>?_)
 refine .q (.aL rfl) ?_
 refine .cq (λM=>?_)
 refine .bZ rfl rfl<|.z<|.fa rfl<|.lo rfl<|.zn<|.cond rfl (λx=>?_) λx=>?_
 refine .region<|.mo rfl<|.ia (fx (cs.take i)+1) .add<|.ag rfl<|.nil<|ba<|au<|.region<|.ia (i+1) .add<|.mo rfl<|.nil ?_
 ·exact bp (i+1) C (by omega) (by rw[G,acp x];exact kE.c.c.c.c.c) (aK [1])
 refine .skip<|ba<|au<|.region<|.ia (i+1) .add<|.mo rfl<|.nil ?_
 ·exact bp (i+1) C (by omega) (by rw[G,aco (by rw[x];simp)];exact kE.c.c.c.c.c) (aK [1])
 have J:i=cs.length:=by have:=bI w;omega
 subst J
 rw[adz]
 refine .exit<|bD<|bG<|bE<|au<|.seq<|.sr<|.lo rfl<|.nc rfl<|.fa rfl<|.lo rfl<|.q .geq<|.mo rfl<|.split (t:=46) rfl (λa=>?_) (λa=>?_)
 refine .gF a<|.gF a<|.gF a<|.gF a<|.gF a<|.gF a<|.gF a<|.q (.aU a)<|.zn<|.gL<|.sr<|.az rfl<|.ret (aJ (aP rfl ?_))
 ·exact⟨by unfold fj;rw[d,k,adp,aco (by simp),n,aco (by simp),r,aco (by simp),acp (.inl (cL a))],rfl⟩
 refine .gT a<|.mo rfl<|.gT a<|.lo rfl<|.gT a<|.nc rfl<|.gT a<|.fa rfl<|.gT a<|.lo rfl<|.gT a ?_
 refine .ia (4096-(ps.length:Nat)) .sub ?_
 refine .gT a<|.q .gtr<|.q (.aN a)<|.zn<|.cond rfl (λy=>?_) λy=>?_
 refine .sr<|.az rfl<|.ret (aJ (aP rfl ?_))
 ·exact⟨by unfold fj;rw[d,k,adp,aco (by simp),n,aco (by simp),r,aco (by simp),acp (.inr (by have:=cL y;omega))],rfl⟩
 refine .kn<|.sr<|.az rfl<|.ret (aP rfl ?_)
 ·exact⟨by unfold fj;rw[d,k,adp,aco (by simp),n,aco (by simp),r,aco (by simp),aco (by have N:=bI y;have O:=bI a;omega)],rfl⟩
end
theorem Pf{ps:List RB}{j:Nat}{b:Nat}{x:bf}(h:ps[j]? =some (b,x)):(jJ ps).Perm ((b,lg x)::jJ (ps.eraseIdx j))/\∀y,(jJ (ps.set j (b,y))).Perm ((b,lg y)::jJ (ps.eraseIdx j)):=by
 obtain⟨a,d⟩:=acL.1 h
 have c:∀y,(jJ (ps.set j (b,y))).Perm ((b,lg y)::jJ (ps.eraseIdx j)):=λy=>by
  rw[List.set_eq_take_append_cons_drop,acp a,List.eraseIdx_eq_take_drop_succ]
  unfold jJ
  rw[acE,acw,acE]
  exact List.perm_middle
 refine⟨?_,c⟩
 have:=c x
 rwa [show ps.set j (b,x)=ps from by rw[<-d];exact List.set_getElem_self a]at this
theorem SI.Bn{g:Nat}{S:cE}{T:av}{R:aA}(h:SI g S T)(e:∀p∈T,R p.1 p.2):∃ps vf vr Mf Mr,SV R g S ps vf vr Mf Mr/\
  ∀b x,(b,x)∈ps->∃j Rest,S.rows[j]? =some x/\T.Perm ((b,lg x)::Rest)/\PS Rest (pT g) [.bool true,.int .u64 S.head,.int .u64 S.dV,iN ps.length,vf,vr]/\∀to',∃T',T'.Perm ((b,lg ⟨x.t,x.fr,to'⟩)::Rest)/\SI g ⟨S.rows.set j ⟨x.t,x.fr,to'⟩,S.head,S.dV⟩ T':=by
 obtain⟨ps,vf,vr,Mf,Mr,m,n,i,l,rfl,d,f,o⟩:=h
 refine⟨ps,vf,vr,Mf,Mr,⟨PC.of (E:=147) (fr:=(0,0)) (e (g,_) (by simp)),d.ms.one,f.ms.one,d.ms.rm λp a=>e p (by simp[a]),f.ms.rm λp a=>e p (by simp[a]),λk=>d.look (λp a=>e p (by simp[a])) k,λk=>f.look (λp a=>e p (by simp[a])) k,d.al,d.ms.nd,λp a=>?_,o⟩,λb x u=>?_⟩
 ·exact PC.of (E:=150) (fr:=(0,0)) (e (p.1,lg p.2) (by
   have:(p.1,lg p.2)∈jJ ps:=acq.2 ⟨p,a,rfl⟩
   simp[this]))
 ·obtain⟨j,v,w⟩:=acV.1 u
  have q:ps[j]? =some (b,x):=by rw[bk v,w]
  obtain⟨A,B⟩:=Pf q
  have s:∀(X:av) (y:oI) (Y:av),X.Perm (y::Y)->((g,Obj.cells [.bool true,.int .u64 S.head,.int .u64 S.dV,iN ps.length,vf,vr].toArray 147 (0,0))::(m++(i++(n++(l++X))))).Perm (y::((g,Obj.cells [.bool true,.int .u64 S.head,.int .u64 S.dV,iN ps.length,vf,vr].toArray 147 (0,0))::(m++(i++(n++(l++Y)))))):=λX y Y a=>by
   refine .trans (.cons _ (.append_left _ (.append_left _ (.append_left _ (.append_left _ a)))))<|.trans (.cons _ ?_) (.swap _ _ _)
   simp only[<-ade]
   exact List.perm_middle
  refine⟨j,_,by rw[<-o,acy,q];rfl,s _ _ _ A,PS.of (E:=147) (fr:=(0,0)) (by simp),λto'=>⟨_,s _ _ _ (B ⟨x.t,x.fr,to'⟩),?_⟩⟩
  have r:∀{κ:Type} (c:bf->κ),c ⟨x.t,x.fr,to'⟩=c x->(ps.set j (b,⟨x.t,x.fr,to'⟩)).map (λp=>(p.1,c p.2))=ps.map (λp=>(p.1,c p.2)):=λc z=>by
   rw[List.map_set]
   have:(ps.map λp=>(p.1,c p.2))[j]? =some (b,c x):=by rw[acy,q];rfl
   simp only[z]
   rw[<-(acL.1 this).2]
   exact List.set_getElem_self _
  refine⟨ps.set j (b,⟨x.t,x.fr,to'⟩),vf,vr,Mf,Mr,m,n,i,l,by rw[adf],d.rows (r (λx=>x.t.di) rfl),f.rows (r (λx=>x.t.sub) rfl),?_⟩
  rw[List.map_set,o]
theorem SI.cells{g:Nat}{S:cE}{T:av}(h:SI g S T):∃n vf vr Rest,One vf/\One vr/\T=(g,.cells [.bool true,.int .u64 S.head,.int .u64 S.dV,.int .i64 n,vf,vr].toArray 147 (0,0))::Rest/\∀head dV,SI g ⟨S.rows,head,dV⟩ ((g,.cells [.bool true,.int .u64 head,.int .u64 dV,.int .i64 n,vf,vr].toArray 147 (0,0))::Rest):=by
 obtain⟨l,vf,vr,c,d,i,j,e,f,rfl,a,b,k⟩:=h
 exact⟨_,vf,vr,_,a.ms.one,b.ms.one,rfl,λhead dV=>⟨l,vf,vr,c,d,i,j,e,f,rfl,a,b,k⟩⟩
theorem sS{S:cE}{bj no:List aw}{cs:List cz}(h:fQ bj no cs=0):fY S bj no cs=fj S.rows S.head bj no cs:=by unfold fY;rw[aco (by simp[h])]
theorem vM{S:cE}{bj no:List aw}{cs:List cz}(h:fQ bj no cs≠0):fY S bj no cs=fQ bj no cs:=by unfold fY;rw[acp h]
theorem PN{r:Int}{L:List bf}{c:cz}(h:c.put=true):fi r L c=L++[⟨c.t,r,0⟩]:=by unfold fi;rw[acp h]
theorem PL{r:Int}{L:List bf}{c:cz}(h:c.put=false):fi r L c=L.map (bf.close c.t r):=by unfold fi;rw[aco (by rw[h];simp)]
theorem AB{r:Int}{L:List bf}{cs:List cz}{i:Nat}{c:cz}(h:cs[i]? =some c):(cs.take (i+1)).foldl (fi r) L=fi r ((cs.take i).foldl (fi r) L) c:=by
 rw[acZ,h,Option.toList_some,List.foldl_append];rfl
theorem Bt(g:Nat)(S:cE)(T:av)(h:SI g S T)(s:eH S)(vm vn Y:Value)(bj no:List aw)(cs:List cz)(R:aA)(C:RS R 7 aw.enc vm bj)(D:RS R 7 aw.enc vn no)(l:RS R 8 cz.enc Y cs)(fm:∀t∈bj,t.fits)(fn:∀t∈no,t.fits)(fc:∀c∈cs,c.t.fits):
  Spec prog 19 [pT g,vm,vn,Y] R [T] λu H'=>∃T',H'=[T']/\u=.tuple [.int .u64 (if fY S bj no cs=0 then S.head+1 else 0),.int .i64 (fY S bj no cs)].toArray/\SI g (fy S bj no cs) T':=by
 have lm:=C.le
 have ln:=D.le
 have lc:=l.le
 have a0:=s.h0
 have a1:=s.h1
 have a2:=s.h2
 obtain⟨pm,km,rfl⟩:=C.val
 obtain⟨pn,kn,rfl⟩:=D.val
 obtain⟨pv,kc,rfl⟩:=l.val
 obtain⟨ps,vf,vr,Mf,Mr,Q,_⟩:=h.Bn (R:=Rx R [T]) λp L=>.inr (by simp[L])
 refine Spec.body func19 rfl results19 ntmps19 rfl<|.sr<|.ag rfl<|.ag rfl<|.zs<|.sr<|.mo rfl<|.aQ Q.ok (λv hv=>?_)
 subst hv
 refine .q .not<|.zn<|.dA<|.kn<|.seq<|.sr<|.mo rfl<|.mo rfl<|.mo rfl<|.aQ (Cs _ _ _ bj no cs _ C.rx D.rx l.rx fm fn fc) (λv hv=>?_)
 subst hv
 refine .ag rfl<|.z<|.mo rfl<|.q .de<|.zn<|.cond rfl (λG=>?_) λG=>?_
 have a:fQ bj no cs≠0:=by simpa using G
 refine .sr<|.mo rfl<|.ag rfl<|.az rfl<|.ret (aJ (br _ (.two (.tmp rfl) (.tmp rfl)) (.one [0] _) ?_))
 ·rw[vM a,pP (by rw[vM a];exact a),aco a]
  exact⟨T,by simp[take],rfl,h⟩
 have a:fQ bj no cs=0:=by simpa using G
 refine .kn<|.seq<|.sr<|.mo rfl<|.mo rfl<|.mo rfl<|.mo rfl<|.aQ (Mh Q s.len _ _ _ bj no cs C.rx D.rx l.rx) (λv hv=>?_)
 subst hv
 refine .ag rfl<|.z<|.mo rfl<|.q .de<|.zn<|.cond rfl (λH=>?_) λH=>?_
 have E:fj S.rows S.head bj no cs≠0:=by simpa using H
 refine .sr<|.mo rfl<|.ag rfl<|.az rfl<|.ret (aJ (br _ (.two (.tmp rfl) (.tmp rfl)) (.one [0] _) ?_))
 ·rw[sS a,pP (by rw[sS a];exact E),aco E]
  exact⟨T,by simp[take],rfl,h⟩
 have E:fj S.rows S.head bj no cs=0:=by simpa using H
 have J:fY S bj no cs=0:=by rw[sS a,E]
 have F:=sU J
 have c1:=F.head
 obtain⟨n,Z,a3,M,c2,c4,rfl,a5⟩:=h.cells
 refine bu.le (dS.refl _) (H':=[bl g [.bool true,.int .u64 S.head,.int .u64 S.dV,.int .i64 n,Z,a3] 147,M]) (bz.fH (by simp))<|.kn<|.sr<|.mo rfl<|.nc rfl<|.fa rfl<|.lo rfl<|.q (.u64 (S.head+1) .add ⟨rfl,by omega,by omega⟩)<|.nc rfl<|.fa rfl<|.ek rfl rfl<|.zs<|.sr<|.mo rfl<|.q (.bK l)<|.mo rfl<|.zn<|.block<|.loop (X:=Nat×av) (λy=>y.1<=cs.length/\SI g ⟨(cs.take y.1).foldl (fi (S.head+1)) S.rows,S.head+1,S.dV⟩ y.2) (λy=>[(0,pT g),(39,.slice pv cs.length kc),(40,iN cs.length),(41,iN y.1)]) (λy=>[y.2]) (λy=>cs.length-y.1) (0,(g,Obj.cells [Value.bool true,Value.int .u64 (S.head+1),Value.int .u64 S.dV,Value.int .i64 n,Z,a3].toArray 147 (0,0))::M) ⟨acM _,a5 (S.head+1) S.dV⟩ kE.c.c.c.c (bz.fH (by simp[du])) ?_
 rintro⟨i,e⟩ ⟨hi,m⟩
 simp only at hi m⊢
 have O:=s.fold (F.take i)
 obtain⟨W,b7,b8,b9,c0,w,a9⟩:=m.Bn (R:=sg e) λp L=>L
 have c3:=w.of
 have c5:=w.or
 have c8:PS e (pT g) [.bool true,.int .u64 (S.head+1),.int .u64 S.dV,iN W.length,b7,b8]:=⟨w.pc⟩
 refine .sr<|.q .lss<|.zs<|.cond rfl (λI=>?_) λI=>?_
 have K:i<cs.length:=cK I
 obtain⟨c,A⟩:=ca K
 have b1:=aR A
 refine .kn<|.seq<|.block<|.sr ?_
 refine .bF i l A (λc6=>?_)
 refine .q (.aL rfl) ?_
 refine .cq (λa4=>?_)
 refine .bZ rfl rfl<|.z<|.fa rfl<|.lo rfl<|.zn<|.cond rfl (λB=>?_) λB=>?_
 refine .dY 8 mixed (by kernel_rfl) ?_
 conv=>arg 6;dsimp only[List.take]
 refine .mo rfl<|.fa rfl<|.q (.loadT rfl)<|.mo rfl<|.nc rfl<|.fa rfl<|.lo rfl ?_
 refine .q .dw ?_
 refine .nil<|.dT (BO g _ e m ⟨c.t,S.head+1,0⟩ (by have:=O.len;simp only at this⊢;omega) _) (λv f hv=>?_)
 obtain⟨rfl,r⟩:=hv
 refine .nil<|ba<|au<|.region<|.ia (i+1) .add<|.mo rfl<|.nil ?_
 ·exact bp (i+1,f) ⟨K,by simp only;rw[AB A,PN B];exact r⟩ (by simp only;omega) kE.c.c.c.c (aK [1])
 refine .dz [10] mixed<|.tO 0 rfl .move<|.tO 1 rfl (.fieldAddr rfl)<|.tO 2 rfl (.loadT rfl)<|.tO 4 rfl .move<|.tO 5 rfl (.nilCheck rfl)<|.tO 6 rfl (.fieldAddr rfl)<|.tO 7 rfl (.cI rfl)<|.sT 3 rfl<|.aQ (find_spec (w.mono λb o hb=>.inr (by have a8:(b,o)∈e:=hb;simp[a8])) c.t) (λv hv=>?_)
 have b5:dE ((cs.take i).foldl (fi (S.head+1)) S.rows) c.t=true:=by
  rw[vX _ _ λhm=>?_]
  ·exact F.there c b1 (by simpa using B)
  ·have hn:=F.nd
   obtain⟨d,hd,b2⟩:=acq.1 hm
   obtain⟨k,hk,V⟩:=acV.1 hd
   rw[adM]at hk
   rw[List.getElem_take]at V
   have:=List.pairwise_iff_getElem.1 hn k i (by simp;omega) (by simp;omega) (by omega)
   rw[List.getElem_map,List.getElem_map,V,(acL.1 A).2]at this
   exact this b2
 obtain⟨b,x,U,b4,rfl⟩:∃b x,(b,x)∈W/\x.eS c.t=true/\v=pT b:=by
  rcases hv with hv|⟨hv,_⟩
  ·exact hv
  ·exact absurd b5 (by rw[hv];simp)
 obtain⟨j,N,hj,a7,c9,b0⟩:=a9 b x U
 obtain⟨f,a6,r⟩:=b0 (S.head+1)
 have r:SI g ⟨fi (S.head+1) ((cs.take i).foldl (fi (S.head+1)) S.rows) c,S.head+1,S.dV⟩ f:=by
  rw[PL B]
  have:=xm O.pw hj b4 (S.head+1)
  simp only at this
  rw[this]
  exact r
 have b6:PC (sg e) (pT b) x.enc:=w.pr _ U
 have c7:PS e (pT b) x.enc:=⟨b6⟩
 refine .nil<|Next.sub<|.tO 8 rfl (.nilCheck rfl)<|.tO 9 rfl (.fieldAddr rfl)<|.sT 10 rfl<|.sub (H':=[bl a4 c.enc 121,bl b x.enc 150,N]) (bz.fH (by simp only[adG,List.flatten_nil,ado,adF,List.nil_append];exact .cons _ a7))<|.ek rfl rfl<|.nil<|Next.mod rfl<|RA.nil (by kernel_rfl)<|ba<|au<|.region<|.ia (i+1) .add<|.mo rfl<|.nil ?_
 ·exact bp (i+1,f) ⟨K,by simp only;rw[AB A];exact r⟩ (by simp only;omega) kE.c.c.c.c ((aK [1,1]).trans (bz.fH (H':=[f]) (show List.Perm ((b,lg ⟨x.t,x.fr,S.head+1⟩)::(N++[])) (f++[])from by simpa using a6.symm)))
 refine .exit<|bD<|bG<|bE<|au<|.sr<|.mo rfl<|.nc rfl<|.fa rfl<|.lo rfl<|.ag rfl<|.az rfl<|.ret (br _ (.two (.tmp rfl) (.tmp rfl)) (.one [0] _) ?_)
 ·have b3:i=cs.length:=by have:=bI I;omega
  subst b3
  rw[adz]at m
  refine⟨e,by simp[take],by rw[J];rfl,?_⟩
  unfold fy
  rw[acp J]
  exact m
end Go.Proofs.YtdljmchhecoakaaGreat
