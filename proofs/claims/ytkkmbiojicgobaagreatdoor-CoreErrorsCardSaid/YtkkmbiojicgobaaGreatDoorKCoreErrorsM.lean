/- What the law 'CoreErrors' uses. No condition. -/
import Derived.Test.YtkkmbiojicgobaaGreatDoorKCoreErrorsB
import Derived.Test.YtkkmbiojicgobaaGreatDoorKCoreErrorsF
import Derived.Test.YtkkmbiojicgobaaGreatDoorKCoreErrorsH
import Derived.Test.YtkkmbiojicgobaaGreatDoorKCoreErrorsI
import Derived.Test.YtkkmbiojicgobaaGreatDoorKCoreErrorsL
set_option linter.unusedSimpArgs false
set_option linter.unusedVariables false
namespace Go.Proofs.YtkkmbiojicgobaaGreatDoor
set_option linter.defProp false
def adx:=@Nat.le_refl
def ady:=@List.map_append
def adz:=@List.map_cons
def adA:=@List.map_nil
def adB:=@List.length_set
def adC:=@List.getElem?_eq_some_iff
def adD:=@List.cons_append
def adE:=@List.nil_append
def adF:=@List.toList_toArray
def adG:=@Int.tdiv_eq_ediv_of_nonneg
def adH:=@List.length_drop
open Tryz
set_option linter.unusedVariables false
set_option maxRecDepth 4000
theorem tW:∀(f x:Nat),x<2^f->x≠0->2^Lib.bitLenAux f x<=2*x/\x<2^Lib.bitLenAux f x
 |0,x,h,h0=>by simp at h;omega
 |f+1,x,h,h0=>by
  unfold Lib.bitLenAux
  rw[if_neg h0]
  by_cases a:x/2=0
  ·have:x=1:=by omega
   subst this
   have:Lib.bitLenAux f (1/2)=0:=by cases f<;>simp[Lib.bitLenAux]
   rw[this];omega
  ·have b:=tW f (x/2) (by rw[Nat.pow_succ]at h;omega) a
   rw[Nat.add_comm,Nat.pow_succ]
   omega
theorem bitLen_le:∀(f x:Nat),Lib.bitLenAux f x<=f
 |0,x=>by simp[Lib.bitLenAux]
 |f+1,x=>by
  unfold Lib.bitLenAux
  split
  ·omega
  ·have:=bitLen_le f (x/2);omega
theorem sb(n:Nat)(h:n<2^63)(R:av):Spec prog 119 [.int .u64 n] R [] λv H'=>v=.int .i64 (Lib.bitLen n:Nat)/\H'=[]:=by
 have:=Spec.o4 (λw=>zl (n:Int) w (by omega) (by omega)) R
 simpa using this
theorem wC(n:Nat)(b:n≠0)(h:n<=1000000000)(R:av):Spec prog 216 [.int .i64 n] R [] λv H'=>(∃m:Nat,v=.int .u64 m/\n<m/\m<=2*n)/\H'=[]:=by
 have a:=tW 64 n (by omega) b
 have g:=bitLen_le 64 n
 refine Spec.body func216 rfl results216 ntmps216 rfl ?_
 refine .sr<|.ag rfl<|.z<|.mo rfl ?_
 refine .q (aP.cast (v':=.int .u64 (n:Nat)) .hE (by rw[nn (by omega) (by omega)])) ?_
 refine .aM (sb n (by omega) _) (λv d=>?_)
 subst d
 refine .q (aP.cast (v':=.int .u64 ((2^Lib.bitLen n:Nat):Int)) (.po) (by
  have e:min ((Lib.bitLen n:Nat):Int).toNat IntKind.u64.bits=Lib.bitLen n:=by
   unfold Lib.bitLen;simp[IntKind.bits];omega
  rw[e,Int.one_mul,nn]
  ·congr 1
  ·exact Int.le_of_lt (Int.pow_pos (by omega))
  ·have f:(2^Lib.bitLen n:Nat)<=2*n:=a.1
   have c:((2:Int)^Lib.bitLen n)=((2^Lib.bitLen n:Nat):Int):=by push_cast;rfl
   rw[c];omega)) ?_
 refine .az rfl ?_
 refine .ret (aO rfl ?_)
 ·exact⟨⟨2^Lib.bitLen n,rfl,a.2,a.1⟩,rfl⟩
theorem xN(b:Nat)(z:Int)(R:av):Spec prog 217 [pT b] R [bl b [.int .u64 z] 247] λv H'=>∃T',H'=[T']/\∃z',v=.int .u64 z'/\T'=(bl b [.int .u64 z'] 247):=by
 refine Spec.body func217 rfl results217 ntmps217 rfl ?_
 refine .sr<|.ag rfl<|.zs ?_
 refine .df 9 mixed (by kernel_rfl) ?_
 conv=>arg 6;dsimp only[List.take]
 refine .mo rfl<|.nc rfl<|.lo rfl<|.mo rfl ?_
 refine .nc rfl<|.lo rfl<|.q .po<|.q .q7<|.nc rfl<|.nil<|.cJ rfl rfl<|.zs ?_
 refine .df 9 mixed (by kernel_rfl) ?_
 conv=>arg 6;dsimp only[List.take]
 refine .mo rfl<|.nc rfl<|.lo rfl<|.mo rfl ?_
 refine .nc rfl<|.lo rfl<|.q .qT<|.q .q7<|.nc rfl<|.nil<|.cJ rfl rfl<|.zs ?_
 refine .df 9 mixed (by kernel_rfl) ?_
 conv=>arg 6;dsimp only[List.take]
 refine .mo rfl<|.nc rfl<|.lo rfl<|.mo rfl ?_
 refine .nc rfl<|.lo rfl<|.q .po<|.q .q7<|.nc rfl<|.nil<|.cJ rfl rfl<|.z<|.mo rfl<|.nc rfl<|.lo rfl<|.az rfl ?_
 refine .ret (aR _ (.one (.tmp rfl)) rH ?_)
 ·exact⟨_,rfl,_,rfl,rfl⟩
set_option linter.unusedSimpArgs false
def jG(t:TypeId->TypeId)(p:FuncId->FuncId):Op->Op
 | .move x=>.move x
 | .assign x=>.assign x
 | .pick c a b=>.pick c a b
 | .extract x i=>.extract x i
 | .nilCheck x=>.nilCheck x
 | .alloc e=>.alloc (t e)
 | .load e a=>.load (t e) a
 | .store e a v=>.store (t e) a v
 | .binOp o x a b y=>.binOp o (t x) a b (t y)
 | .unOp o x a=>.unOp o (t x) a
 | .convert s d x=>.convert (t s) (t d) x
 | .indexAddr e x i=>.indexAddr (t e) x i
 | .call ⟨.value (.func f),xs,ts⟩=>.call ⟨.value (.func (p f)),xs,(ts.toList.map t).toArray⟩
 | .call ⟨.value (.tmp f),xs,ts⟩=>.call ⟨.value (.tmp f),xs,(ts.toList.map t).toArray⟩
 | .call ⟨.builtin b,xs,ts⟩=>.call ⟨.builtin b,xs,(ts.toList.map t).toArray⟩
 |o=>o
def oR(t:TypeId->TypeId)(p:FuncId->FuncId)(o:Oper):Oper:=⟨o.dst,jG t p o.op,t o.type,o.pos,o.after,o.guard⟩
def cR(t:TypeId->TypeId)(p:FuncId->FuncId):Code->Code
 | .skip=>.skip
 | .region i l d=>.region i (l.toList.map (oR t p)).toArray d
 | .seq a b=>.seq (cR t p a) (cR t p b)
 | .cond c a b=>.cond c (cR t p a) (cR t p b)
 | .block i a=>.block i (cR t p a)
 | .loop a=>.loop (cR t p a)
 | .exit i=>.exit i
 | .ret=>.ret
 |c=>c
structure Twin(P:Program)(t:TypeId->TypeId)(p:FuncId->FuncId)(k:FuncId)(fn:Func):Prop where
 h:∃gn,P.funcs[p k]? =some gn/\gn.body=fn.body.map (cR t p)/\gn.results=fn.results/\gn.ntmps=fn.ntmps
theorem Spec.kc{P:Program}{N:Nat}{t:TypeId->TypeId}{p:FuncId->FuncId}{k:FuncId}{a:Func}{c:Code}{b:List Value}{R:av}{H:aV}{rs:List ResultVar}{Post:Value->aV->Prop}(w:Twin P t p k a)(j:a.body=some c)(m:a.results=rs.toArray)(l:a.ntmps=N)(i:Nat.ble b.length N=true)
  (h:bQ P N R (cR t p c) (ny 0 b) H (pb P R rs Post)):Spec P (p k) b R H Post:=by
 obtain⟨n,d,e,f,g⟩:=w.h
 exact Spec.body d (by rw[e,j];rfl) (by rw[f,m]) (by rw[g,l]) i h
class cj{α:Type}(enc:α->List Value)(n:Nat):Prop where h:∀z,(enc z).length=n
structure KD where
 t:TypeId->TypeId
 p:FuncId->FuncId
 sz:Nat
 u1:bP prog (t 51) (.slice (t 60))
 u2:Sz prog (t 60) sz
 u3:dj prog (t 60) true
 t0:t 0=0
 t3:t 3=3
 t4:t 4=4
 t27:t 27=27
 t143:t 143=143
 t167:t 167=167
 t210:t 210=210
 t211:t 211=211
 t247:t 247=247
 t251:t 251=251
 t290:t 290=290
 iM:p 119=119
 iO:p 216=216
 iP:p 217=217
 oD:ay prog (p 176)
 oE:ay prog (p 177)
 oC:ay prog (p 175)
 oB:ay prog (p 174)
 oK:ay prog (p 218)
 oL:ay prog (p 219)
 oM:ay prog (p 268)
 oG:ay prog (p 179)
 oI:ay prog (p 181)
 oH:ay prog (p 180)
 oA:ay prog (p 118)
 oF:ay prog (p 178)
 oJ:ay prog (p 215)
 pW:Twin prog t p 46 f46
 pL:Twin prog t p 176 f176
 pM:Twin prog t p 177 f177
 pK:Twin prog t p 175 f175
 pJ:Twin prog t p 174 f174
 pS:Twin prog t p 218 f218
 pU:Twin prog t p 219 f219
 pV:Twin prog t p 268 f268
 pO:Twin prog t p 179 f179
 pQ:Twin prog t p 181 f181
 pP:Twin prog t p 180 f180
 pI:Twin prog t p 118 f118
 pN:Twin prog t p 178 f178
 pR:Twin prog t p 215 f215
instance{κ:KD}:bP prog (κ.t 51) (.slice (κ.t 60)):=κ.u1
instance{κ:KD}:Sz prog (κ.t 60) κ.sz:=κ.u2
instance{κ:KD}:dj prog (κ.t 60) true:=κ.u3
instance{κ:KD}:ay prog (κ.p 176):=κ.oD
instance{κ:KD}:ay prog (κ.p 177):=κ.oE
instance{κ:KD}:ay prog (κ.p 175):=κ.oC
instance{κ:KD}:ay prog (κ.p 174):=κ.oB
instance{κ:KD}:ay prog (κ.p 218):=κ.oK
instance{κ:KD}:ay prog (κ.p 219):=κ.oL
instance{κ:KD}:ay prog (κ.p 268):=κ.oM
instance{κ:KD}:ay prog (κ.p 179):=κ.oG
instance{κ:KD}:ay prog (κ.p 181):=κ.oI
instance{κ:KD}:ay prog (κ.p 180):=κ.oH
instance{κ:KD}:ay prog (κ.p 118):=κ.oA
instance{κ:KD}:ay prog (κ.p 178):=κ.oF
instance{κ:KD}:ay prog (κ.p 215):=κ.oJ
namespace SG
section
variable{κ:KD}{α:Type}{enc:α->List Value} [en:cj enc κ.sz]{c:α->α->Int}{ok:α->Prop}{f:FuncId}{caps:List Value} [e:ay prog f]
theorem r4(v:Value)(xs:List α)(T:ax)(a b:Nat)(R:av)(h:OS (κ.t 60) κ.sz enc v xs T)(a3:a<=b)(J:b<=xs.length)(hl:xs.length<=1000000000)(O:gi prog f caps R (λp:α=>Value.agg (enc p).toArray) c ok)(K:∀x∈xs,ok x)(G:SO (aA c)):
  Spec prog (κ.p 174) [v,.int .i64 a,.int .i64 b,.func (.func f) #[] caps.toArray] R [T] λu H'=>∃T',H'=[T']/\u=.tuple #[]/\∃ys,OS (κ.t 60) κ.sz enc v ys T'/\RP a b xs ys/\SR (aA c) ys a b:=by
 have iv:=h.aw
 refine Spec.kc κ.pJ rfl results174 ntmps174 rfl ?_
 simp only[cR,oR,jG,adz,adA,ady,adD,adE,adF,κ.t0,κ.t3,κ.t4,κ.t27,κ.t143,κ.t167,κ.t210,κ.t211,κ.t247,κ.t251,κ.t290,κ.iM,κ.iO,κ.iP]
 refine .sr<|.mo rfl ?_
 refine .ia (a+1) .add ?_
 refine .az rfl<|.block ?_
 refine .loop (X:=Nat×List α×ax) (λy=>(a+1<=y.1/\(y.1<=b\/y.1=a+1))/\OS (κ.t 60) κ.sz enc v y.2.1 y.2.2/\RP a b xs y.2.1/\SR (aA c) y.2.1 a y.1) (λy=>[(0,v),(1,iN a),(2,iN b),(3,.func (.func f) #[] caps.toArray),(8,iN y.1)]) (λy=>[y.2.2]) (λy=>b-y.1) (a+1,xs,T) ⟨⟨by simp only;omega,.inr rfl⟩,h,.refl _,λi j s m I=>by simp only at I;omega⟩ kE.c.c.c.c.c rH ?_
 rintro⟨i,ys,M⟩ ⟨⟨Q,S⟩,D,C,E⟩
 simp only at Q S D C E⊢
 have a6:=C.length
 refine .seq<|.sr<|.mo rfl<|.mo rfl<|.q .lss<|.zn ?_
 refine .cond rfl (λs=>?_) λs=>?_
 have a5:i<b:=by simp at s;omega
 refine .kn<|.seq<|.block<|.sr<|.mo rfl<|.az rfl<|.block ?_
 refine .loop (X:=Nat×List α×ax) (λy=>(a<=y.1/\y.1<=i)/\OS (κ.t 60) κ.sz enc v y.2.1 y.2.2/\RP a b xs y.2.1/\kZ (aA c) y.2.1 a y.1 (i+1)) (λy=>[(0,v),(1,iN a),(2,iN b),(3,.func (.func f) #[] caps.toArray),(8,iN i),(9,iN y.1)]) (λy=>[y.2.2]) (λy=>y.1) (i,ys,M) ⟨⟨by simp only;omega,adx _⟩,D,C,E.ins⟩ kE.c.c.c.c.c.c rH ?_
 rintro⟨j,z,H⟩ ⟨⟨U,V⟩,e,n,B⟩
 simp only at U V e n B⊢
 have a7:=n.length
 refine .seq<|.seq ?_
 refine .df 14 mixed (by kernel_rfl) ?_
 conv=>arg 6;dsimp only[List.take]
 refine .mo rfl<|.mo rfl<|.q .gtr<|.mo rfl ?_
 refine .split (t:=21) rfl (λd=>?_) (λd=>?_)
 have F:a<j:=by have:=bx d;omega
 obtain⟨x,g⟩:∃x,z[j]? =some x:=⟨_,bC (by omega)⟩
 obtain⟨y,l⟩:∃x,z[j-1]? =some x:=⟨_,bC (by omega)⟩
 have a0:=K x (n.perm.mem_iff.1 (bU g))
 have a1:=K y (n.perm.mem_iff.1 (bU l))
 refine .gT d<|.mo rfl<|.gT d<|.mo rfl<|.gT d<|.mo rfl<|.gT d ?_
 refine .bb j e g (λa8=>?_)
 refine .gT d<|.q (.bK rfl (cj.h _)) ?_
 refine .gT d<|.mo rfl<|.gT d<|.mo rfl<|.gT d ?_
 refine .ia (j-1) .sub ?_
 refine .gT d ?_
 refine .bb (j-1) e l (λa9=>?_)
 refine .gT d<|.q (.bK rfl (cj.h _)) ?_
 refine .nil<|.gT d ?_
 refine .gK (first:=[]) (captured:=caps) (vs:=[(λp:α=>Value.agg (enc p).toArray) x,(λp:α=>Value.agg (enc p).toArray) y]) (O x y a0 a1 _ (λb o J=>.inl J)) (λu r=>?_)
 subst r
 refine .gT d<|.q .lss<|.q (.aY d) ?_
 refine .zn ?_
 refine .cond rfl (λm=>?_) λm=>?_
 refine .kn<|.seq<|.block<|.cW [15,17] mixed ?_
 refine .tO 0 rfl .move<|.tO 1 rfl .move<|.tK 2 rfl .move<|.tK 3 rfl .move ?_
 refine .take 4 rfl (.i64 ((j-1:Nat):Int) .sub ⟨by omega,by omega,by omega⟩) (by kernel_rfl) ?_
 refine .tO 5 rfl .move<|.tO 6 rfl .move ?_
 refine .eE 7 rfl (.i64 ((j-1:Nat):Int) .sub ⟨by omega,by omega,by omega⟩) (by kernel_rfl) ?_
 refine RA.bb 8 rfl (j-1) e l rfl rfl rfl (by kernel_rfl) (λb0=>?_)
 refine .tO 9 rfl (.bK rfl (cj.h _)) ?_
 refine .tO 10 rfl .move<|.tO 11 rfl .move ?_
 refine RA.bb 12 rfl (j) e g rfl rfl rfl (by kernel_rfl) (λb1=>?_)
 refine .tO 13 rfl (.bK rfl (cj.h _)) ?_
 refine RA.bb 14 rfl (j) e g rfl rfl rfl (by kernel_rfl) (λb2=>?_)
 refine .sT 15 rfl ?_
 refine .ft (j) e g y (λa2 Y=>?_) (e.one _ (bU l)) (cj.h _)
 refine .nil (Next.mod rfl ?_)
 refine RA.bb 16 rfl (j-1) e l rfl rfl rfl (by kernel_rfl) (λb3=>?_)
 refine .sT 17 rfl ?_
 obtain⟨zz,Z⟩:∃u,(z.set (j) y)[j-1]? =some u:=⟨_,bC (by rw[adB];exact(adC.1 l).1)⟩
 refine .ft (j-1) Y Z x (λN L=>?_) (e.one _ (bU g)) (cj.h _)
 rw[<-fk g l]at L
 refine .nil (Next.mod rfl ?_)
 refine RA.nil (by kernel_rfl) ?_
 refine bz<|aD<|.region<|.mo rfl ?_
 refine .ia (j-1) .sub ?_
 refine .ag rfl<|.nil ?_
 ·have W:aA c x y=true:=m
  exact bf (j-1,swp z j (j-1),N) ⟨⟨by simp only;omega,by simp only;omega⟩,L,n.step (by omega) (by omega) (by omega) (by omega) (by omega),B.step G (by omega) (by omega) F g l W⟩ (by simp only;omega) kE.c.c.c.c.c.c rH
 refine .exit<|bD<|bH<|bF<|bz<|aD<|.region<|.mo rfl ?_
 refine .ia (i+1) .add ?_
 refine .ag rfl<|.nil ?_
 ·refine bf (i+1,z,H) ⟨⟨by simp only;omega,.inl (by simp only;omega)⟩,e,n,B.done G (by omega) (by omega) ?_⟩ (by simp only;omega) kE.c.c.c.c.c rH
  first
   |exact .inr ⟨F,λu w r A=>by
     rw[l]at r;rw[g]at A;cases r;cases A;exact m⟩
   |exact .inl (by have:=bo d;omega)
 refine .gF d<|.gF d<|.gF d<|.gF d<|.gF d<|.gF d<|.gF d<|.gF d<|.gF d<|.gF d<|.nil<|.gF d<|.gF d<|.q (.aS d) ?_
 refine .zn<|.bZ<|.exit<|bD<|bH<|bF<|bz<|aD<|.region<|.mo rfl ?_
 refine .ia (i+1) .add ?_
 refine .ag rfl<|.nil ?_
 ·refine bf (i+1,z,H) ⟨⟨by simp only;omega,.inl (by simp only;omega)⟩,e,n,B.done G (by omega) (by omega) ?_⟩ (by simp only;omega) kE.c.c.c.c.c rH
  first
   |exact .inr ⟨F,λu w r A=>by
     rw[l]at r;rw[g]at A;cases r;cases A;exact m⟩
   |exact .inl (by have:=bo d;omega)
 refine .exit<|bD<|bH<|bF<|eh _ .none rH ?_
 ·have a4:b<=i:=by simp at s;omega
  exact⟨_,rfl,rfl,ys,D,C,λj k s m I=>E j k s m (by omega)⟩
theorem pw(v:Value)(xs:List α)(T:ax)(lo k d:Nat)(R:av)(h:OS (κ.t 60) κ.sz enc v xs T)(b2:lo<=k)(W:d+k<=xs.length)(hl:xs.length<=1000000000)(hf:gi prog f caps R (λp:α=>Value.agg (enc p).toArray) c ok)(a4:∀x∈xs,ok x)(K:SO (aA c)):
    Spec prog (κ.p 215) [v,.int .i64 lo,.int .i64 k,.int .i64 d,.func (.func f) #[] caps.toArray] R [T] λu H'=>∃T',H'=[T']/\u=.tuple #[]/\∃ys,OS (κ.t 60) κ.sz enc v ys T'/\RP d (d+k) xs ys/\
      (kk (λx y=>aA c y x) (xs.drop d) k lo lo->jt (λx y=>aA c y x) (ys.drop d) k lo):=by
  have iv:=h.aw
  have a5:=K.rev
  refine Spec.kc κ.pR rfl results215 ntmps215 rfl ?_
  simp only[cR,oR,jG,adz,adA,ady,adD,adE,adF,κ.t0,κ.t3,κ.t4,κ.t27,κ.t143,κ.t167,κ.t210,κ.t211,κ.t247,κ.t251,κ.t290,κ.iM,κ.iO,κ.iP]
  refine .sr<|.mo rfl<|.az rfl<|.block ?_
  refine .loop (X:=Nat×List α×ax) (λy=>(lo<=y.1/\y.1<=k)/\OS (κ.t 60) κ.sz enc v y.2.1 y.2.2/\RP d (d+k) xs y.2.1/\(kk (λx y=>aA c y x) (xs.drop d) k lo lo->kk (λx y=>aA c y x) (y.2.1.drop d) k lo y.1)) (λy=>[(0,v),(2,iN k),(3,iN d),(4,.func (.func f) #[] caps.toArray),(10,iN y.1)]) (λy=>[y.2.2]) (λy=>k-y.1) (lo,xs,T) ⟨⟨adx _,b2⟩,h,.refl _,λh=>h⟩ kE.c.c.c.c.c rH ?_
  rintro⟨r,ys,T1⟩ ⟨⟨a7,b4⟩,m,E,V⟩
  simp only at a7 b4 m E V⊢
  have c2:=E.length
  have c1:(ys.drop d).length=ys.length-d:=adH
  refine .block<|.sr<|.mo rfl ?_
  refine .ia (2*r) .mul ?_
  refine .ia (2*r+1) .add ?_
  refine .ag rfl<|.zs<|.sr<|.mo rfl<|.mo rfl<|.q .geq<|.zn ?_
  refine .cond rfl (λO=>?_) λO=>?_
  have b9:k<=2*r+1:=by have:=bx O;omega
  refine .exit (bD (jy (bH (bF ?_))))
  refine eh _ .none rH ?_
  ·refine⟨_,rfl,rfl,ys,m,E,λS=>(V S).stop λa D F l u w g U=>?_⟩
   first
     |(simp only[bR]at l;omega)
     |(rw[iH]at g U
       rw[A]at g;cases g
       have Q:(!aA c H x)=true:=M
       exact a5.gU _ _ _ (Y a w D F l U) (by simpa using Q))
  have N:2*r+1<k:=by have:=bo O;omega
  obtain⟨H,A⟩:∃y,ys[d+r]? =some y:=⟨_,bC (by omega)⟩
  obtain⟨s,n⟩:∃y,ys[d+(2*r+1)]? =some y:=⟨_,bC (by omega)⟩
  have b7:=a4 H (E.perm.mem_iff.1 (bU A))
  have J:=a4 s (E.perm.mem_iff.1 (bU n))
  refine .kn<|.seq ?_
  refine bQ.cut (X:=Nat×α) (λz=>0<z.1/\z.1<k/\bR z.1=r/\ys[d+z.1]? =some z.2/\ok z.2/\∀a u,0<a->a<k->bR a=r->ys[d+a]? =some u->aA c z.2 u=false) (λz=>[(0,v),(2,iN k),(3,iN d),(4,.func (.func f) #[] caps.toArray),(10,iN r),(11,iN z.1)]) (λz=>[T1]) ?_ ?_
  refine .seq ?_
  refine .df 19 mixed (by kernel_rfl) ?_
  conv=>arg 6;dsimp only[List.take]
  refine .mo rfl ?_
  refine .ia (2*r+2) .add ?_
  refine .mo rfl<|.q .lss<|.mo rfl ?_
  refine .split (t:=23) rfl (λe=>?_) (λe=>?_)
  have a2:2*r+2<k:=by have:=bx e;omega
  obtain⟨L,C⟩:∃y,ys[d+(2*r+2)]? =some y:=⟨_,bC (by omega)⟩
  have Z:=a4 L (E.perm.mem_iff.1 (bU C))
  refine .gT e<|.mo rfl<|.gT e<|.mo rfl<|.gT e<|.mo rfl<|.gT e<|.mo rfl<|.gT e ?_
  refine .ia (d+(2*r+1)) .add ?_
  refine .gT e ?_
  refine .bb (d+(2*r+1)) m n (λc3=>?_)
  refine .gT e<|.q (.bK rfl (cj.h _)) ?_
  refine .gT e<|.mo rfl<|.gT e<|.mo rfl<|.gT e<|.mo rfl<|.gT e ?_
  refine .ia (d+(2*r+1)) .add ?_
  refine .gT e ?_
  refine .ia (d+(2*r+2)) .add ?_
  refine .gT e ?_
  refine .bb (d+(2*r+2)) m C (λc4=>?_)
  refine .gT e<|.q (.bK rfl (cj.h _)) ?_
  refine .nil<|.gT e ?_
  refine .gK (first:=[]) (captured:=caps) (vs:=[(λp:α=>Value.agg (enc p).toArray) s,(λp:α=>Value.agg (enc p).toArray) L]) (hf s L J Z _ (λb o W=>.inl W)) (λu g=>?_)
  subst g
  refine .gT e<|.q .lss<|.q (.aY e) ?_
  refine .zn ?_
  refine .cond rfl (λI=>?_) λI=>?_
  have a3:∀a u,0<a->a<k->bR a=r->ys[d+a]? =some u->aA c L u=false:=λa u D F l g=>by
    have:a=2*r+1\/a=2*r+2:=by simp only[bR]at l;omega
    rcases this with rfl|rfl
    ·rw[n]at g;cases g;exact K.kH I
    ·rw[C]at g;cases g;exact K.fK _
  refine .region<|.mo rfl ?_
  refine .ia (2*r+2) .add ?_
  refine .ag rfl<|.nil ?_
  ·first
      |exact aB (2*r+2,L) ⟨by simp only;omega,a2,by simp only[bR];omega,C,Z,a3⟩ kE.c.c.c.c.c.c rH
      |exact aB (2*r+1,s) ⟨by simp only;omega,N,by simp only[bR];omega,n,J,B⟩ kE.c.c.c.c.c.c rH
      |(have B:∀a u,0<a->a<k->bR a=r->ys[d+a]? =some u->aA c s u=false:=λa u D F l g=>by
           have:a=2*r+1\/a=2*r+2:=by simp only[bR]at l;omega
           rcases this with rfl|rfl
           ·rw[n]at g;cases g;exact K.fK _
           ·rw[C]at g;cases g;exact I
        exact aB (2*r+1,s) ⟨by simp only;omega,N,by simp only[bR];omega,n,J,B⟩ kE.c.c.c.c.c.c rH)
  refine .skip ?_
  ·first
      |exact aB (2*r+2,L) ⟨by simp only;omega,a2,by simp only[bR];omega,C,Z,a3⟩ kE.c.c.c.c.c.c rH
      |exact aB (2*r+1,s) ⟨by simp only;omega,N,by simp only[bR];omega,n,J,B⟩ kE.c.c.c.c.c.c rH
      |(have B:∀a u,0<a->a<k->bR a=r->ys[d+a]? =some u->aA c s u=false:=λa u D F l g=>by
           have:a=2*r+1\/a=2*r+2:=by simp only[bR]at l;omega
           rcases this with rfl|rfl
           ·rw[n]at g;cases g;exact K.fK _
           ·rw[C]at g;cases g;exact I
        exact aB (2*r+1,s) ⟨by simp only;omega,N,by simp only[bR];omega,n,J,B⟩ kE.c.c.c.c.c.c rH)
  have B:∀a u,0<a->a<k->bR a=r->ys[d+a]? =some u->aA c s u=false:=λa u D F l g=>by
    have:a=2*r+1:=by have:=bo e;simp only[bR]at l;omega
    subst this
    rw[n]at g;cases g;exact K.fK _
  refine .gF e<|.gF e<|.gF e<|.gF e<|.gF e<|.gF e<|.gF e<|.gF e<|.gF e<|.gF e<|.gF e<|.gF e<|.gF e<|.gF e<|.nil<|.gF e<|.gF e<|.q (.aS e) ?_
  refine .zn<|.bZ<|.skip ?_
  ·first
      |exact aB (2*r+2,L) ⟨by simp only;omega,a2,by simp only[bR];omega,C,Z,a3⟩ kE.c.c.c.c.c.c rH
      |exact aB (2*r+1,s) ⟨by simp only;omega,N,by simp only[bR];omega,n,J,B⟩ kE.c.c.c.c.c.c rH
      |(have B:∀a u,0<a->a<k->bR a=r->ys[d+a]? =some u->aA c s u=false:=λa u D F l g=>by
           have:a=2*r+1\/a=2*r+2:=by simp only[bR]at l;omega
           rcases this with rfl|rfl
           ·rw[n]at g;cases g;exact K.fK _
           ·rw[C]at g;cases g;exact I
        exact aB (2*r+1,s) ⟨by simp only;omega,N,by simp only[bR];omega,n,J,B⟩ kE.c.c.c.c.c.c rH)
  intro y hy
  obtain⟨j,x⟩:=y
  obtain⟨a0,a6,a1,G,a9,Y⟩:=hy
  simp only at a0 a6 a1 G a9 Y⊢
  have c0:r<j:=a1▸fQ a0
  refine aD<|.seq<|.seq ?_
  refine .df 13 mixed (by kernel_rfl) ?_
  conv=>arg 6;dsimp only[List.take]
  refine .mo rfl<|.mo rfl<|.mo rfl<|.mo rfl ?_
  refine .ia (d+r) .add ?_
  refine .bb (d+r) m A (λc5=>?_)
  refine .q (.bK rfl (cj.h _)) ?_
  refine .mo rfl<|.mo rfl<|.mo rfl ?_
  refine .ia (d+j) .add ?_
  refine .bb (d+j) m G (λc6=>?_)
  refine .q (.bK rfl (cj.h _)) ?_
  refine .nil ?_
  refine .gK (first:=[]) (captured:=caps) (vs:=[(λp:α=>Value.agg (enc p).toArray) H,(λp:α=>Value.agg (enc p).toArray) x]) (hf H x b7 a9 _ (λb o W=>.inl W)) (λu g=>?_)
  subst g
  refine .q .lss<|.q .not<|.zn ?_
  refine .cond rfl (λM=>?_) λM=>?_
  refine .ret (aL (br (dn (br (aR _ .none rH ?_)))))
  ·refine⟨_,rfl,rfl,ys,m,E,λS=>(V S).stop λa D F l u w g U=>?_⟩
   first
     |(simp only[bR]at l;omega)
     |(rw[iH]at g U
       rw[A]at g;cases g
       have Q:(!aA c H x)=true:=M
       exact a5.gU _ _ _ (Y a w D F l U) (by simpa using Q))
  refine .kn<|.seq<|.cW [21,23] mixed ?_
  refine .tO 0 rfl .move<|.tO 1 rfl .move<|.tO 2 rfl .move ?_
  refine .eE 3 rfl (.i64 ((d+r:Nat):Int) .add ⟨by omega,by omega,by omega⟩) (by kernel_rfl) ?_
  refine .tK 4 rfl .move<|.tK 5 rfl .move<|.tK 6 rfl .move ?_
  refine .take 7 rfl (.i64 ((d+j:Nat):Int) .add ⟨by omega,by omega,by omega⟩) (by kernel_rfl) ?_
  refine .tO 8 rfl .move<|.tO 9 rfl .move<|.tO 10 rfl .move ?_
  refine .eE 11 rfl (.i64 ((d+j:Nat):Int) .add ⟨by omega,by omega,by omega⟩) (by kernel_rfl) ?_
  refine RA.bb 12 rfl (d+j) m G rfl rfl rfl (by kernel_rfl) (λc7=>?_)
  refine .tO 13 rfl (.bK rfl (cj.h _)) ?_
  refine .tO 14 rfl .move<|.tO 15 rfl .move<|.tO 16 rfl .move ?_
  refine .eE 17 rfl (.i64 ((d+r:Nat):Int) .add ⟨by omega,by omega,by omega⟩) (by kernel_rfl) ?_
  refine RA.bb 18 rfl (d+r) m A rfl rfl rfl (by kernel_rfl) (λc8=>?_)
  refine .tO 19 rfl (.bK rfl (cj.h _)) ?_
  refine RA.bb 20 rfl (d+r) m A rfl rfl rfl (by kernel_rfl) (λc9=>?_)
  refine .sT 21 rfl ?_
  refine .ft (d+r) m A x (λb8 b5=>?_) (m.one _ (bU G)) (cj.h _)
  refine .nil (Next.mod rfl ?_)
  refine RA.bb 22 rfl (d+j) m G rfl rfl rfl (by kernel_rfl) (λd0=>?_)
  refine .sT 23 rfl ?_
  obtain⟨zz,b6⟩:∃u,(ys.set (d+r) x)[d+j]? =some u:=⟨_,bC (by rw[adB];exact(adC.1 G).1)⟩
  refine .ft (d+j) b5 b6 H (λb0 a8=>?_) (m.one _ (bU A)) (cj.h _)
  rw[<-fk A G]at a8
  refine .nil (Next.mod rfl ?_)
  refine RA.nil (by kernel_rfl) ?_
  refine aD<|.region<|.mo rfl<|.ag rfl<|.nil<|bz ?_
  ·have b3:aA c H x=true:=by
      have Q:(!aA c H x)=false:=M
      simpa using Q
   have b1:=qk (xs:=ys) (f:=d) (i:=r) (j:=j) (by omega) (by omega)
   exact bf (j,swp ys (d+r) (d+j),b0) ⟨⟨by simp only;omega,by simp only;omega⟩,a8,E.step (by omega) (by omega) (by omega) (by omega) (by omega),λS=>by
     simp only
     rw[b1]
     exact(V S).step a5 a7 a0 a6 (by omega) a1 (by rw[iH];exact G) (by rw[iH];exact A) b3 λa z O I M h4=>Y a z O I M (by rw[<-iH];exact h4)⟩ (by simp only;omega) kE.c.c.c.c.c rH
end
end SG
namespace SG
section
variable{κ:KD}{α:Type}{enc:α->List Value} [en:cj enc κ.sz]{c:α->α->Int}{ok:α->Prop}{f:FuncId}{caps:List Value} [e:ay prog f]
theorem r0(v:Value)(xs:List α)(T:ax)(a b:Nat)(R:av)(h:OS (κ.t 60) κ.sz enc v xs T)(a9:a<=b)(hb:b<=xs.length)(hl:xs.length<=1000000000)(N:gi prog f caps R (λp:α=>Value.agg (enc p).toArray) c ok)(O:∀x∈xs,ok x)(H:SO (aA c)):
  Spec prog (κ.p 175) [v,.int .i64 a,.int .i64 b,.func (.func f) #[] caps.toArray] R [T] λu H'=>∃T',H'=[T']/\u=.tuple #[]/\∃ys,OS (κ.t 60) κ.sz enc v ys T'/\RP a b xs ys/\SR (aA c) ys a b:=by
 have iv:=h.aw
 have a7:=H.rev
 obtain⟨n,hn⟩:∃n,b=a+n:=⟨b-a,by omega⟩
 subst hn
 refine Spec.kc κ.pK rfl results175 ntmps175 rfl ?_
 simp only[cR,oR,jG,adz,adA,ady,adD,adE,adF,κ.t0,κ.t3,κ.t4,κ.t27,κ.t143,κ.t167,κ.t210,κ.t211,κ.t247,κ.t251,κ.t290,κ.iM,κ.iO,κ.iP]
 refine .sr<|.mo rfl<|.ag rfl<|.z<|.ag rfl<|.z<|.mo rfl<|.mo rfl ?_
 refine .ia (n) .sub ?_
 refine .ag rfl<|.zs<|.sr<|.mo rfl ?_
 refine .q (.i64 ((n:Int)-1) .sub ⟨rfl,by omega,by omega⟩) ?_
 refine .q (.i64 (((n-1)/2:Nat):Int) .quo ⟨s0,by omega,by omega⟩) ?_
 refine .az rfl<|.block ?_
 refine .loop (X:=Nat×Int×List α×ax) (λy=>(y.2.1=(y.1:Int)-1/\y.1<=n+1)/\OS (κ.t 60) κ.sz enc v y.2.2.1 y.2.2.2/\RP a (a+n) xs y.2.2.1/\jt (λx y=>aA c y x) (y.2.2.1.drop a) n y.1) (λy=>[(0,v),(3,.func (.func f) #[] caps.toArray),(8,iN a),(9,.int .i64 ((0:Nat):Int)),(10,iN n),(11,.int .i64 y.2.1)]) (λy=>[y.2.2.2]) (λy=>y.1) ((n-1)/2+1,(((n-1)/2:Nat):Int),xs,T) ⟨⟨by simp only;omega,by simp only;omega⟩,h,.refl _,λk W hk hp=>by simp only[bR]at hp;omega⟩ kE.c.c.c.c.c.c rH ?_
 rintro⟨m,z,ys,I⟩ ⟨⟨hz,hm⟩,D,s,C⟩
 simp only at hz hm D s C⊢
 have b0:=s.length
 refine .seq<|.sr<|.mo rfl<|.q .geq<|.zn ?_
 refine .cond rfl (λo=>?_) λo=>?_
 have a4:0<=z:=bx o
 obtain⟨k,rfl⟩:∃k,m=k+1:=⟨m-1,by omega⟩
 obtain rfl:z=(k:Int):=by omega
 refine .kn<|.seq<|.block<|.region<|.mo rfl<|.mo rfl<|.mo rfl<|.mo rfl<|.mo rfl ?_
 refine .bW (pw (c:=c) (ok:=ok) v ys I k n a _ D (by omega) (by omega) (by omega) N (λx e=>O x (s.perm.mem_iff.1 e)) H) (λu J G=>?_)
 obtain⟨rfl,g,d,l,r⟩:=G
 refine .nil<|bz<|aD<|.region<|.mo rfl ?_
 refine .q (.i64 ((k:Int)-1) .sub ⟨rfl,by omega,by omega⟩) ?_
 refine .ag rfl<|.nil ?_
 ·exact bf (k,(k:Int)-1,g,J) ⟨⟨rfl,by simp only;omega⟩,d,s.trans l,r C.hole⟩ (by simp only;omega) kE.c.c.c.c.c.c rH
 have F:m=0:=by have:=bo o;omega
 subst F
 refine .exit<|bD<|bH<|bF<|aD<|.sr<|.mo rfl ?_
 refine .q (.i64 ((n:Int)-1) .sub ⟨rfl,by omega,by omega⟩) ?_
 refine .az rfl<|.block ?_
 refine .loop (X:=Nat×Int×List α×ax) (λy=>(y.2.1=(y.1:Int)-1/\y.1<=n)/\OS (κ.t 60) κ.sz enc v y.2.2.1 y.2.2.2/\RP a (a+n) xs y.2.2.1/\jt (λx y=>aA c y x) (y.2.2.1.drop a) y.1 0/\OX (aA c) y.2.2.1 a (a+n) a (a+y.1)) (λy=>[(0,v),(3,.func (.func f) #[] caps.toArray),(8,iN a),(9,.int .i64 ((0:Nat):Int)),(10,iN n),(12,.int .i64 y.2.1)]) (λy=>[y.2.2.2]) (λy=>y.1) (n,(n:Int)-1,ys,I) ⟨⟨rfl,adx _⟩,D,s,C,OX.start⟩ kE.c.c.c.c.c.c rH ?_
 rintro⟨m,S,g,J⟩ ⟨⟨a5,a2⟩,d,l,r,E⟩
 simp only at a5 a2 d l r E⊢
 have b1:=l.length
 refine .seq<|.sr<|.mo rfl<|.q .geq<|.zn ?_
 refine .cond rfl (λB=>?_) λB=>?_
 have a4:0<=S:=bx B
 obtain⟨k,rfl⟩:∃k,m=k+1:=⟨m-1,by omega⟩
 obtain rfl:S=(k:Int):=by omega
 obtain⟨x,e⟩:∃x,g[a]? =some x:=⟨_,bC (by omega)⟩
 obtain⟨y,A⟩:∃x,g[a+k]? =some x:=⟨_,bC (by omega)⟩
 refine .kn<|.seq<|.block<|.seq<|.cW [17,19] mixed ?_
 refine .tO 0 rfl .move<|.tO 1 rfl .move<|.tK 2 rfl .move<|.tK 3 rfl .move<|.tK 4 rfl .move ?_
 refine .take 5 rfl (.i64 ((a+k:Nat):Int) .add ⟨by omega,by omega,by omega⟩) (by kernel_rfl) ?_
 refine .tO 6 rfl .move<|.tO 7 rfl .move<|.tO 8 rfl .move ?_
 refine .eE 9 rfl (.i64 ((a+k:Nat):Int) .add ⟨by omega,by omega,by omega⟩) (by kernel_rfl) ?_
 refine RA.bb 10 rfl (a+k) d A rfl rfl rfl (by kernel_rfl) (λb2=>?_)
 refine .tO 11 rfl (.bK rfl (cj.h _)) ?_
 refine .tO 12 rfl .move<|.tO 13 rfl .move ?_
 refine RA.bb 14 rfl (a) d e rfl rfl rfl (by kernel_rfl) (λb3=>?_)
 refine .tO 15 rfl (.bK rfl (cj.h _)) ?_
 refine RA.bb 16 rfl (a) d e rfl rfl rfl (by kernel_rfl) (λb4=>?_)
 refine .sT 17 rfl ?_
 refine .ft (a) d e y (λa8 a3=>?_) (d.one _ (bU A)) (cj.h _)
 refine .nil (Next.mod rfl ?_)
 refine RA.bb 18 rfl (a+k) d A rfl rfl rfl (by kernel_rfl) (λb5=>?_)
 refine .sT 19 rfl ?_
 obtain⟨zz,a6⟩:∃u,(g.set (a) y)[a+k]? =some u:=⟨_,bC (by rw[adB];exact(adC.1 A).1)⟩
 refine .ft (a+k) a3 a6 x (λV Q=>?_) (d.one _ (bU e)) (cj.h _)
 rw[<-fk e A]at Q
 refine .nil (Next.mod rfl ?_)
 refine RA.nil (by kernel_rfl) ?_
 refine aD<|.region<|.mo rfl<|.mo rfl<|.mo rfl<|.mo rfl<|.mo rfl ?_
 have M:=qk (xs:=g) (f:=a) (i:=0) (j:=k) (by omega) (by omega)
 have K:=l.step (i:=a) (j:=a+k) (by omega) (by omega) (by omega) (by omega) (by omega)
 have a1:=OX.last (m:=a+k) (x:=x) E (by omega) (by omega) (by omega) e (λj w o Y hw=>jt.top a7 r (by rw[adH];omega) (x:=x) (by rw[iH];exact e) (j-a) w (by omega) (by rw[iH,show a+(j-a)=j by omega];exact hw))
 refine .bW (pw (c:=c) (ok:=ok) v (swp g a (a+k)) V 0 k a _ Q (by omega) (by rw[jZ];omega) (by rw[jZ];omega) N (λx e=>O x (K.perm.mem_iff.1 e)) H) (λu U G=>?_)
 obtain⟨rfl,ws,a0,L,Z⟩:=G
 refine .nil<|bz<|aD<|.region<|.mo rfl ?_
 refine .q (.i64 ((k:Int)-1) .sub ⟨rfl,by omega,by omega⟩) ?_
 refine .ag rfl<|.nil ?_
 ·exact bf (k,(k:Int)-1,ws,U) ⟨⟨rfl,by simp only;omega⟩,a0,K.trans (L.mono (adx a) (by omega) (by rw[jZ];omega)),Z (r.vL λj W hj=>by
   rw[Nat.add_zero]at M
   rw[M,fc (by rw[adH];omega) (by rw[adH];omega),if_neg (by omega),if_neg (by omega)]),a1.rp L (adx _) (by omega)⟩ (by simp only;omega) kE.c.c.c.c.c.c rH
 refine .exit<|bD<|bH<|bF<|eh _ .none rH ?_
 ·have F:m=0:=by have:=bo B;omega
  subst F
  exact⟨_,rfl,rfl,g,d,l,E.jX λi j o B Y=>by omega⟩
theorem sF(v:Value)(xs:List α)(T:ax)(a b:Nat)(R:av)(k:Value)(F:One k)(h:OS (κ.t 60) κ.sz enc v xs T)(D:a<b)(E:b<=xs.length)(G:xs.length<=1000000000):
  Spec prog (κ.p 178) [v,.int .i64 a,.int .i64 b,k] R [T] λu H'=>∃T',H'=[T']/\u=.tuple #[]/\∃ys,OS (κ.t 60) κ.sz enc v ys T'/\RP a b xs ys:=by
 have J:=h.aw
 refine Spec.kc κ.pN rfl results178 ntmps178 rfl ?_
 simp only[cR,oR,jG,adz,adA,ady,adD,adE,adF,κ.t0,κ.t3,κ.t4,κ.t27,κ.t143,κ.t167,κ.t210,κ.t211,κ.t247,κ.t251,κ.t290,κ.iM,κ.iO,κ.iP]
 refine .sr<|.mo rfl<|.ag rfl<|.z<|.mo rfl ?_
 refine .ia (b-1) .sub ?_
 refine .az rfl<|.block ?_
 refine .loop (X:=Nat×Nat×List α×ax) (λy=>(a<=y.1/\y.1<=y.2.1+1/\y.2.1<b)/\OS (κ.t 60) κ.sz enc v y.2.2.1 y.2.2.2/\RP a b xs y.2.2.1) (λy=>[(0,v),(8,iN y.1),(9,iN y.2.1)]) (λy=>[y.2.2.2]) (λy=>b-y.1) (a,b-1,xs,T) ⟨⟨adx _,by simp only;omega,by simp only;omega⟩,h,.refl _⟩ kE.c.c.c rH ?_
 rintro⟨i,j,ys,B⟩ ⟨⟨o,r,s⟩,d,g⟩
 simp only at o r s d g⊢
 have H:=g.length
 refine .seq<|.sr<|.mo rfl<|.mo rfl<|.q .lss<|.zn ?_
 refine .cond rfl (λl=>?_) λl=>?_
 have I:i<j:=dQ l
 obtain⟨x,e⟩:∃x,ys[i]? =some x:=⟨_,bC (by omega)⟩
 obtain⟨y,f⟩:∃x,ys[j]? =some x:=⟨_,bC (by omega)⟩
 refine .kn<|.block<|.seq<|.cW [13,15] mixed ?_
 refine .tO 0 rfl .move<|.tO 1 rfl .move<|.tK 2 rfl .move<|.tK 3 rfl .move<|.tO 4 rfl .move<|.tO 5 rfl .move ?_
 refine RA.bb 6 rfl (j) d f rfl rfl rfl (by kernel_rfl) (λK=>?_)
 refine .tO 7 rfl (.bK rfl (cj.h _)) ?_
 refine .tO 8 rfl .move<|.tO 9 rfl .move ?_
 refine RA.bb 10 rfl (i) d e rfl rfl rfl (by kernel_rfl) (λL=>?_)
 refine .tO 11 rfl (.bK rfl (cj.h _)) ?_
 refine RA.bb 12 rfl (i) d e rfl rfl rfl (by kernel_rfl) (λM=>?_)
 refine .sT 13 rfl ?_
 refine .ft (i) d e y (λC w=>?_) (d.one _ (bU f)) (cj.h _)
 refine .nil (Next.mod rfl ?_)
 refine RA.bb 14 rfl (j) d f rfl rfl rfl (by kernel_rfl) (λN=>?_)
 refine .sT 15 rfl ?_
 obtain⟨O,A⟩:∃u,(ys.set (i) y)[j]? =some u:=⟨_,bC (by rw[adB];exact(adC.1 f).1)⟩
 refine .ft (j) w A x (λn m=>?_) (d.one _ (bU e)) (cj.h _)
 rw[<-fk e f]at m
 refine .nil (Next.mod rfl ?_)
 refine RA.nil (by kernel_rfl) ?_
 refine aD<|.sr<|.mo rfl ?_
 refine .ia (i+1) .add ?_
 refine .az rfl<|.region<|.mo rfl ?_
 refine .ia (j-1) .sub ?_
 refine .ag rfl<|.nil<|bz ?_
 ·exact bf (i+1,j-1,swp ys i j,n) ⟨⟨by simp only;omega,by simp only;omega,by simp only;omega⟩,m,g.step (by omega) (by omega) (by omega) (by omega) (by omega)⟩ (by simp only;omega) kE.c.c.c rH
 refine .exit<|bD<|bH<|bF<|eh _ .none rH ?_
 ·exact⟨_,rfl,rfl,ys,d,g⟩
theorem rr(v:Value)(xs:List α)(T:ax)(a b:Nat)(R:av)(s:Value)(W:One s)(h:OS (κ.t 60) κ.sz enc v xs T)(U:a<=b)(V:b<=xs.length)(Z:xs.length<=1000000000):
  Spec prog (κ.p 176) [v,.int .i64 a,.int .i64 b,s] R [T] λu H'=>∃T',H'=[T']/\u=.tuple #[]/\∃ys,OS (κ.t 60) κ.sz enc v ys T'/\RP a b xs ys:=by
 have iv:=h.aw
 obtain⟨n,K⟩:∃n,b=a+n:=⟨b-a,by omega⟩
 subst K
 refine Spec.kc κ.pL rfl results176 ntmps176 rfl ?_
 simp only[cR,oR,jG,adz,adA,ady,adD,adE,adF,κ.t0,κ.t3,κ.t4,κ.t27,κ.t143,κ.t167,κ.t210,κ.t211,κ.t247,κ.t251,κ.t290,κ.iM,κ.iO,κ.iP]
 refine .sr<|.mo rfl<|.mo rfl ?_
 refine .ia (n) .sub ?_
 refine .ag rfl<|.z<|.mo rfl<|.q .geq<|.zn ?_
 refine .cond rfl (λA=>?_) λA=>?_
 have a3:8<=n:=by have:=bx A;omega
 obtain⟨q,E⟩:∃q,q=n/4:=⟨_,rfl⟩
 refine .sr<|.mo rfl<|.q .hE ?_
 refine .p6 (λe=>?_)
 refine .cJ rfl rfl<|.z<|.mo rfl ?_
 refine .aM (wC n (by omega) (by omega) _) (λu r=>?_)
 obtain⟨j,rfl,a1,a2⟩:=r
 refine .ag rfl<|.z<|.mo rfl<|.mo rfl ?_
 refine .q (.i64 ((q:Nat):Int) .quo ⟨by rw[E,adG (by omega)];omega,by omega,by omega⟩) ?_
 refine .ia (q*2) .mul ?_
 refine .ia (a+q*2) .add ?_
 refine .ia (a+q*2-1) .sub ?_
 refine .az rfl<|.block ?_
 refine .loop (X:=Nat×Int×List α×ax) (λy=>(a+q*2-1<=y.1/\y.1<=a+q*2+2)/\OS (κ.t 60) κ.sz enc v y.2.2.1 y.2.2.2/\RP a (a+n) xs y.2.2.1) (λy=>[(0,v),(1,iN a),(8,iN n),(9,pT e),(10,.int .u64 (j:Nat)),(11,iN y.1)]) (λy=>[bl e [.int .u64 y.2.1] 247,y.2.2.2]) (λy=>a+q*2+2-y.1) (a+q*2-1,_,xs,T) ⟨⟨adx _,by simp only;omega⟩,h,.refl _⟩ kE.c.c.c.c.c.c rH ?_
 rintro⟨i,z,ys,G⟩ ⟨⟨I,J⟩,d,k⟩
 simp only at I J d k⊢
 have a0:=k.length
 refine .seq<|.sr<|.mo rfl<|.mo rfl<|.mo rfl ?_
 refine .q (.i64 ((q:Nat):Int) .quo ⟨by rw[E,adG (by omega)];omega,by omega,by omega⟩) ?_
 refine .ia (q*2) .mul ?_
 refine .ia (a+q*2) .add ?_
 refine .ia (a+q*2+1) .add ?_
 refine .q .leq<|.zn ?_
 refine .cond rfl (λB=>?_) λB=>?_
 have Y:i<=a+q*2+1:=by have:=bx B;omega
 refine .kn<|.seq<|.block<|.sr ?_
 refine .bW (xN e z _) (λu Q r=>?_)
 obtain⟨l,rfl,rfl⟩:=r
 refine .mo rfl ?_
 refine .q (aP.cast (v':=.int .u64 ((j-1:Nat):Int)) .sub (by rw[nn (by omega) (by omega)];congr 1;omega)) ?_
 have C:=tL (z:=l) (q:=((j-1:Nat):Int)) (by omega) (by omega)
 obtain⟨o,D⟩:∃o:Nat,IntKind.u64.wrap (BitVec.ofInt IntKind.u64.bits l&&&BitVec.ofInt IntKind.u64.bits ((j-1:Nat):Int)).toNat=(o:Int):=⟨_,(Int.toNat_of_nonneg C.1).symm⟩
 refine .q (aP.cast (v':=.int .u64 ((o:Nat):Int)) .ox (by rw[D])) ?_
 rw[D]at C
 refine .q (aP.cast (v':=.int .i64 ((o:Nat):Int)) .hE (by rw[yK (by omega) (by omega)])) ?_
 refine .ag rfl<|.zs ?_
 refine bQ.cut (X:=Nat) (λp=>p<n) (λp=>[(0,v),(1,iN a),(8,iN n),(9,pT e),(10,.int .u64 (j:Nat)),(11,iN i),(12,iN p)]) (λ_=>[bl e [.int .u64 l] 247,G]) ?_ ?_
 refine .sr<|.mo rfl<|.mo rfl<|.q .geq<|.zn ?_
 refine .cond rfl (λm=>?_) λm=>?_
 have L:n<=o:=by have:=bx m;omega
 refine .region<|.mo rfl<|.mo rfl ?_
 refine .ia (o-n) .sub ?_
 refine .ag rfl<|.nil ?_
 ·first
   |exact aB (o-n) (by omega) kE.c.c.c.c.c.c.c rH
   |exact aB o (by omega) kE.c.c.c.c.c.c.c rH
 have L:o<n:=by have:=bo m;omega
 refine .skip ?_
 ·first
   |exact aB (o-n) (by omega) kE.c.c.c.c.c.c.c rH
   |exact aB o (by omega) kE.c.c.c.c.c.c.c rH
 intro y N
 have a4:y<n:=N
 obtain⟨p,rfl⟩:∃p,p=y:=⟨_,rfl⟩
 obtain⟨x,g⟩:∃x,ys[i]? =some x:=⟨_,bC (by omega)⟩
 obtain⟨w,f⟩:∃x,ys[a+p]? =some x:=⟨_,bC (by omega)⟩
 refine aD<|.cW [17,19] mixed ?_
 refine .tO 0 rfl .move<|.tO 1 rfl .move<|.tK 2 rfl .move<|.tK 3 rfl .move<|.tK 4 rfl .move ?_
 refine .take 5 rfl (.i64 ((a+p:Nat):Int) .add ⟨by omega,by omega,by omega⟩) (by kernel_rfl) ?_
 refine .tO 6 rfl .move<|.tO 7 rfl .move<|.tO 8 rfl .move ?_
 refine .eE 9 rfl (.i64 ((a+p:Nat):Int) .add ⟨by omega,by omega,by omega⟩) (by kernel_rfl) ?_
 refine RA.bb 10 rfl (a+p) d f rfl rfl rfl (by kernel_rfl) (λa5=>?_)
 refine .tO 11 rfl (.bK rfl (cj.h _)) ?_
 refine .tO 12 rfl .move<|.tO 13 rfl .move ?_
 refine RA.bb 14 rfl (i) d g rfl rfl rfl (by kernel_rfl) (λa6=>?_)
 refine .tO 15 rfl (.bK rfl (cj.h _)) ?_
 refine RA.bb 16 rfl (i) d g rfl rfl rfl (by kernel_rfl) (λa7=>?_)
 refine .sT 17 rfl ?_
 refine .ft (i) d g w (λS M=>?_) (d.one _ (bU f)) (cj.h _)
 refine .nil (Next.mod rfl ?_)
 refine RA.bb 18 rfl (a+p) d f rfl rfl rfl (by kernel_rfl) (λa8=>?_)
 refine .sT 19 rfl ?_
 obtain⟨zz,O⟩:∃u,(ys.set (i) w)[a+p]? =some u:=⟨_,bC (by rw[adB];exact(adC.1 f).1)⟩
 refine .ft (a+p) M O x (λH F=>?_) (d.one _ (bU g)) (cj.h _)
 rw[<-fk g f]at F
 refine .nil (Next.mod rfl ?_)
 refine RA.nil (by kernel_rfl) ?_
 refine bz<|aD<|.region<|.mo rfl ?_
 refine .ia (i+1) .add ?_
 refine .ag rfl<|.nil ?_
 ·exact bf (i+1,l,swp ys i (a+p),H) ⟨⟨by simp only;omega,by simp only;omega⟩,F,k.step (by omega) (by omega) (by omega) (by omega) (by omega)⟩ (by simp only;omega) kE.c.c.c.c.c.c rH
 refine .exit<|bD<|bH<|bF<|eh _ .none (aI [1]) ?_
 ·exact⟨_,rfl,rfl,ys,d,k⟩
 refine .skip<|eh _ .none rH ?_
 ·exact⟨_,rfl,rfl,xs,h,.refl _⟩
end
end SG
namespace SG
section
variable{κ:KD}{α:Type}{enc:α->List Value} [en:cj enc κ.sz]{c:α->α->Int}{ok:α->Prop}{f:FuncId}{caps:List Value} [e:ay prog f]
theorem sy(v:Value)(xs:List α)(T:ax)(a b:Nat)(R:av)(h:OS (κ.t 60) κ.sz enc v xs T)(b5:a<b)(V:b<=xs.length)(hl:xs.length<=1000000000)(hf:gi prog f caps R (λp:α=>Value.agg (enc p).toArray) c ok)(W:∀x∈xs,ok x)(so:SO (aA c))(c4:LB (aA c) xs a b):
  Spec prog (κ.p 179) [v,.int .i64 a,.int .i64 b,.func (.func f) #[] caps.toArray] R [T] λu H'=>∃T',H'=[T']/\∃ys m,u=.bool m/\OS (κ.t 60) κ.sz enc v ys T'/\RP a b xs ys/\(m=true->SR (aA c) ys a b):=by
 have iv:=h.aw
 refine Spec.kc κ.pO rfl results179 ntmps179 rfl ?_
 simp only[cR,oR,jG,adz,adA,ady,adD,adE,adF,κ.t0,κ.t3,κ.t4,κ.t27,κ.t143,κ.t167,κ.t210,κ.t211,κ.t247,κ.t251,κ.t290,κ.iM,κ.iO,κ.iP]
 refine .sr<|.ag rfl<|.z<|.mo rfl ?_
 refine .ia (a+1) .add ?_
 refine .ag rfl<|.zs<|.sr<|.az rfl<|.block ?_
 refine .loop (X:=Nat×Nat×List α×ax) (λy=>(y.1<=5/\a+1<=y.2.1/\y.2.1<=b)/\OS (κ.t 60) κ.sz enc v y.2.2.1 y.2.2.2/\RP a b xs y.2.2.1/\SR (aA c) y.2.2.1 a y.2.1) (λy=>[(0,v),(1,iN a),(2,iN b),(3,.func (.func f) #[] caps.toArray),(9,iN y.2.1),(10,iN y.1)]) (λy=>[y.2.2.2]) (λy=>5-y.1) (0,a+1,xs,T) ⟨⟨by omega,adx _,b5⟩,h,.refl _,λi j S U M=>by simp only at M;omega⟩ kE.c.c.c.c.c.c rH ?_
 rintro⟨n,i,ys,T1⟩ ⟨⟨hn,I,J⟩,B,N,E⟩
 simp only at hn I J B N E⊢
 have c8:=N.length
 refine .seq<|.sr<|.mo rfl<|.q .lss<|.zn ?_
 refine .cond rfl (λS=>?_) λS=>?_
 have d1:n<5:=dQ S
 refine .kn<|.seq<|.block<|.seq ?_
 refine bQ.cut (X:=Nat) (λi=>(a+1<=i/\i<=b)/\SR (aA c) ys a i) (λi=>[(0,v),(1,iN a),(2,iN b),(3,.func (.func f) #[] caps.toArray),(9,iN i),(10,iN n)]) (λ_=>[T1]) ?_ ?_
 refine .block ?_
 refine .loop (X:=Nat) (λi=>(a+1<=i/\i<=b)/\SR (aA c) ys a i) (λi=>[(0,v),(1,iN a),(2,iN b),(3,.func (.func f) #[] caps.toArray),(9,iN i),(10,iN n)]) (λ_=>[T1]) (λi=>b-i) i ⟨⟨I,J⟩,E⟩ kE.c.c.c.c.c.c rH ?_
 clear I J E
 rintro i ⟨⟨I,J⟩,E⟩
 refine .seq<|.seq ?_
 refine .df 14 mixed (by kernel_rfl) ?_
 conv=>arg 6;dsimp only[List.take]
 refine .mo rfl<|.mo rfl<|.q .lss<|.mo rfl ?_
 refine .split (t:=22) rfl (λe=>?_) (λe=>?_)
 have c3:i<b:=by have:=bx e;omega
 obtain⟨x,F⟩:∃x,ys[i]? =some x:=⟨_,bC (by omega)⟩
 obtain⟨y,D⟩:∃x,ys[i-1]? =some x:=⟨_,bC (by omega)⟩
 have c6:=W x (N.perm.mem_iff.1 (bU F))
 have c7:=W y (N.perm.mem_iff.1 (bU D))
 refine .gT e<|.mo rfl<|.gT e<|.mo rfl<|.gT e<|.mo rfl<|.gT e ?_
 refine .bb i B F (λe1=>?_)
 refine .gT e<|.q (.bK rfl (cj.h _)) ?_
 refine .gT e<|.mo rfl<|.gT e<|.mo rfl<|.gT e ?_
 refine .ia (i-1) .sub ?_
 refine .gT e ?_
 refine .bb (i-1) B D (λe2=>?_)
 refine .gT e<|.q (.bK rfl (cj.h _)) ?_
 refine .nil<|.gT e ?_
 refine .gK (first:=[]) (captured:=caps) (vs:=[(λp:α=>Value.agg (enc p).toArray) x,(λp:α=>Value.agg (enc p).toArray) y]) (hf x y c6 c7 _ (λb o V=>.inl V)) (λu H=>?_)
 subst H
 refine .gT e<|.q .lss<|.gT e<|.q .not<|.q (.aY e) ?_
 refine .zn ?_
 refine .cond rfl (λU=>?_) λU=>?_
 refine .kn<|.block<|.region<|.mo rfl ?_
 refine .ia (i+1) .add ?_
 refine .ag rfl<|.nil<|bz ?_
 ·have c5:aA c x y=false:=by
   have b8:(!aA c x y)=true:=U
   simpa using b8
  exact bf (i+1) ⟨⟨by omega,by omega⟩,E.snoc so (by omega) (by omega) λu w H hw=>by
   rw[D]at H;rw[F]at hw;cases H;cases hw;exact c5⟩ (by omega) kE.c.c.c.c.c.c rH
 refine .exit<|bD<|bH<|bF ?_
 exact aB i ⟨⟨I,J⟩,E⟩ kE.c.c.c.c.c.c rH
 refine .gF e<|.gF e<|.gF e<|.gF e<|.gF e<|.gF e<|.gF e<|.gF e<|.gF e<|.gF e<|.nil<|.gF e<|.gF e<|.gF e<|.q (.aS e) ?_
 refine .zn<|.bZ<|.exit<|bD<|bH<|bF ?_
 exact aB i ⟨⟨I,J⟩,E⟩ kE.c.c.c.c.c.c rH
 intro x F
 obtain⟨d,b6⟩:∃d,d=x:=⟨_,rfl⟩
 rw[<-b6]at F⊢
 clear b6 x I J E
 obtain⟨⟨I,J⟩,E⟩:=F
 refine aD<|.seq<|.sr<|.mo rfl<|.mo rfl<|.q .bS<|.zn ?_
 refine .cond rfl (λM=>?_) λM=>?_
 refine .sr<|.az rfl ?_
 refine .ret (aL (br (aL (dn (br (aL (aR _ (.one (.tmp rfl)) rH ?_)))))))
 ·have c2:d=b:=by
   have b9:((d:Int)=b):=by simpa using M
   omega
  exact⟨_,rfl,ys,true,rfl,B,N,λ_=>c2▸E⟩
 have c3:d<b:=by
  have b9:¬((d:Int)=b):=by simpa using M
  omega
 obtain⟨x,F⟩:∃x,ys[d]? =some x:=⟨_,bC (by omega)⟩
 obtain⟨y,D⟩:∃x,ys[d-1]? =some x:=⟨_,bC (by omega)⟩
 refine .kn<|.seq<|.sr<|.mo rfl<|.mo rfl ?_
 refine .ia (b-a) .sub ?_
 refine .q .lss<|.zn ?_
 refine .cond rfl (λh4=>?_) λh4=>?_
 refine .sr<|.az rfl ?_
 refine .ret (aL (br (aL (dn (br (aL (aR _ (.one (.tmp rfl)) rH ?_)))))))
 ·exact⟨_,rfl,ys,false,rfl,B,N,λh=>by cases h⟩
 refine .kn<|.seq<|.cW [15,17] mixed ?_
 refine .tO 0 rfl .move<|.tO 1 rfl .move<|.tK 2 rfl .move<|.tK 3 rfl .move ?_
 refine .take 4 rfl (.i64 ((d-1:Nat):Int) .sub ⟨by omega,by omega,by omega⟩) (by kernel_rfl) ?_
 refine .tO 5 rfl .move<|.tO 6 rfl .move ?_
 refine .eE 7 rfl (.i64 ((d-1:Nat):Int) .sub ⟨by omega,by omega,by omega⟩) (by kernel_rfl) ?_
 refine RA.bb 8 rfl (d-1) B D rfl rfl rfl (by kernel_rfl) (λe3=>?_)
 refine .tO 9 rfl (.bK rfl (cj.h _)) ?_
 refine .tO 10 rfl .move<|.tO 11 rfl .move ?_
 refine RA.bb 12 rfl (d) B F rfl rfl rfl (by kernel_rfl) (λe4=>?_)
 refine .tO 13 rfl (.bK rfl (cj.h _)) ?_
 refine RA.bb 14 rfl (d) B F rfl rfl rfl (by kernel_rfl) (λe5=>?_)
 refine .sT 15 rfl ?_
 refine .ft (d) B F y (λb1 a0=>?_) (B.one _ (bU D)) (cj.h _)
 refine .nil (Next.mod rfl ?_)
 refine RA.bb 16 rfl (d-1) B D rfl rfl rfl (by kernel_rfl) (λe6=>?_)
 refine .sT 17 rfl ?_
 obtain⟨zz,a1⟩:∃u,(ys.set (d) y)[d-1]? =some u:=⟨_,bC (by rw[adB];exact(adC.1 D).1)⟩
 refine .ft (d-1) a0 a1 x (λL G=>?_) (B.one _ (bU F)) (cj.h _)
 rw[<-fk F D]at G
 refine .nil (Next.mod rfl ?_)
 refine RA.nil (by kernel_rfl) ?_
 have a3:=N.step (i:=d) (j:=d-1) (by omega) (by omega) (by omega) (by omega) (by omega)
 have c0:=E.yj (by omega)
 clear E
 refine aD<|.seq ?_
 refine bQ.cut (X:=List α×ax) (λz=>OS (κ.t 60) κ.sz enc v z.1 z.2/\RP a b xs z.1/\SR (aA c) z.1 a d) (λ_=>[(0,v),(1,iN a),(2,iN b),(3,.func (.func f) #[] caps.toArray),(9,iN d),(10,iN n)]) (λz=>[z.2]) ?_ ?_
 refine .sr<|.mo rfl<|.mo rfl ?_
 refine .ia (d-a) .sub ?_
 refine .q .geq<|.zn ?_
 refine .cond rfl (λh5=>?_) λh5=>?_
 refine .sr<|.mo rfl ?_
 refine .ia (d-1) .sub ?_
 refine .az rfl<|.block ?_
 refine .loop (X:=Nat×List α×ax) (λz=>(a<=z.1/\z.1<=d-1)/\OS (κ.t 60) κ.sz enc v z.2.1 z.2.2/\RP a b xs z.2.1/\kZ (aA c) z.2.1 a z.1 d) (λz=>[(0,v),(1,iN a),(2,iN b),(3,.func (.func f) #[] caps.toArray),(9,iN d),(10,iN n),(11,iN z.1)]) (λz=>[z.2.2]) (λz=>z.1) (d-1,swp ys d (d-1),L) ⟨⟨by simp only;omega,adx _⟩,G,a3,c0⟩ kE.c.c.c.c.c.c.c rH ?_
 rintro⟨q,A,K⟩ ⟨⟨a7,a8⟩,g,r,a2⟩
 simp only at a7 a8 g r a2⊢
 have c9:=r.length
 refine .seq<|.sr<|.mo rfl<|.q .geq<|.zn ?_
 refine .cond rfl (λh6=>?_) λh6=>?_
 have d2:1<=q:=by have:=bx h6;omega
 obtain⟨s,k⟩:∃x,A[q]? =some x:=⟨_,bC (by omega)⟩
 obtain⟨t,l⟩:∃x,A[q-1]? =some x:=⟨_,bC (by omega)⟩
 have a9:=W s (r.perm.mem_iff.1 (bU k))
 have b0:=W t (r.perm.mem_iff.1 (bU l))
 refine .kn<|.seq<|.block<|.seq<|.seq ?_
 refine .df 10 mixed (by kernel_rfl) ?_
 conv=>arg 6;dsimp only[List.take]
 refine .mo rfl<|.mo rfl<|.mo rfl ?_
 refine .bb q g k (λe7=>?_)
 refine .q (.bK rfl (cj.h _)) ?_
 refine .mo rfl<|.mo rfl ?_
 refine .ia (q-1) .sub ?_
 refine .bb (q-1) g l (λe8=>?_)
 refine .q (.bK rfl (cj.h _)) ?_
 refine .nil ?_
 refine .gK (first:=[]) (captured:=caps) (vs:=[(λp:α=>Value.agg (enc p).toArray) s,(λp:α=>Value.agg (enc p).toArray) t]) (hf s t a9 b0 _ (λb o V=>.inl V)) (λu H=>?_)
 subst H
 refine .q .lss<|.q .not<|.zn ?_
 refine .cond rfl (λh7=>?_) λh7=>?_
 have a4:SR (aA c) A a d:=a2.done so (by omega) (by omega) (by
  have a5:(!aA c s t)=true:=h7
  rcases Nat.lt_or_ge a q with hh|hh
  ·exact .inr ⟨hh,λu w H hw=>by rw[l]at H;rw[k]at hw;cases H;cases hw;simpa using a5⟩
  ·exact .inl (by omega))
 refine .exit (bD (jy (bD (bH (bF ?_)))))
 ·first
   |exact aB (A,K) ⟨g,r,a4⟩ kE.c.c.c.c.c.c rH
   |exact aB (swp ys d (d-1),L) ⟨G,a3,λp q S U M=>by have:=bo h5;omega⟩ kE.c.c.c.c.c.c rH
 have a6:aA c s t=true:=by
  have a5:(!aA c s t)=false:=h7
  simpa using a5
 have c1:a<q:=by
  rcases Nat.lt_or_ge a q with hh|hh
  ·exact hh
  ·have ea:q=a:=by omega
   subst ea
   have:=(c4.rp r) (by omega) q (adx _) b5 t s l k
   rw[this]at a6;cases a6
 refine .kn<|.cW [15,17] mixed ?_
 refine .tO 0 rfl .move<|.tO 1 rfl .move<|.tK 2 rfl .move<|.tK 3 rfl .move ?_
 refine .take 4 rfl (.i64 ((q-1:Nat):Int) .sub ⟨by omega,by omega,by omega⟩) (by kernel_rfl) ?_
 refine .tO 5 rfl .move<|.tO 6 rfl .move ?_
 refine .eE 7 rfl (.i64 ((q-1:Nat):Int) .sub ⟨by omega,by omega,by omega⟩) (by kernel_rfl) ?_
 refine RA.bb 8 rfl (q-1) g l rfl rfl rfl (by kernel_rfl) (λe9=>?_)
 refine .tO 9 rfl (.bK rfl (cj.h _)) ?_
 refine .tO 10 rfl .move<|.tO 11 rfl .move ?_
 refine RA.bb 12 rfl (q) g k rfl rfl rfl (by kernel_rfl) (λf0=>?_)
 refine .tO 13 rfl (.bK rfl (cj.h _)) ?_
 refine RA.bb 14 rfl (q) g k rfl rfl rfl (by kernel_rfl) (λf1=>?_)
 refine .sT 15 rfl ?_
 refine .ft (q) g k t (λb1 a0=>?_) (g.one _ (bU l)) (cj.h _)
 refine .nil (Next.mod rfl ?_)
 refine RA.bb 16 rfl (q-1) g l rfl rfl rfl (by kernel_rfl) (λd4=>?_)
 refine .sT 17 rfl ?_
 obtain⟨zz,a1⟩:∃u,(A.set (q) t)[q-1]? =some u:=⟨_,bC (by rw[adB];exact(adC.1 l).1)⟩
 refine .ft (q-1) a0 a1 s (λL G=>?_) (g.one _ (bU k)) (cj.h _)
 rw[<-fk k l]at G
 refine .nil (Next.mod rfl ?_)
 refine RA.nil (by kernel_rfl) ?_
 refine bz<|aD<|.region<|.mo rfl ?_
 refine .ia (q-1) .sub ?_
 refine .ag rfl<|.nil ?_
 ·exact bf (q-1,swp A q (q-1),L) ⟨⟨by simp only;omega,by simp only;omega⟩,G,r.step (by omega) (by omega) (by omega) (by omega) (by omega),a2.step so (by omega) (by omega) c1 k l a6⟩ (by simp only;omega) kE.c.c.c.c.c.c.c rH
 have a4:SR (aA c) A a d:=a2.done so (by omega) (by omega) (.inl (by have:=bo h6;omega))
 refine .exit<|bD<|bH<|bF ?_
 ·first
   |exact aB (A,K) ⟨g,r,a4⟩ kE.c.c.c.c.c.c rH
   |exact aB (swp ys d (d-1),L) ⟨G,a3,λp q S U M=>by have:=bo h5;omega⟩ kE.c.c.c.c.c.c rH
 refine .skip ?_
 ·first
   |exact aB (A,K) ⟨g,r,a4⟩ kE.c.c.c.c.c.c rH
   |exact aB (swp ys d (d-1),L) ⟨G,a3,λp q S U M=>by have:=bo h5;omega⟩ kE.c.c.c.c.c.c rH
 intro y D
 obtain⟨A,K⟩:=y
 obtain⟨g,r,Y⟩:=D
 simp only at g r Y⊢
 refine aD ?_
 refine bQ.cut (X:=List α×ax) (λz=>OS (κ.t 60) κ.sz enc v z.1 z.2/\RP a b xs z.1/\SR (aA c) z.1 a d) (λ_=>[(0,v),(1,iN a),(2,iN b),(3,.func (.func f) #[] caps.toArray),(9,iN d),(10,iN n)]) (λz=>[z.2]) ?_ ?_
 refine .sr<|.mo rfl<|.mo rfl ?_
 refine .ia (b-d) .sub ?_
 refine .q .geq<|.zn ?_
 refine .cond rfl (λh8=>?_) λh8=>?_
 refine .sr<|.mo rfl ?_
 refine .ia (d+1) .add ?_
 refine .az rfl<|.block ?_
 refine .loop (X:=Nat×List α×ax) (λz=>(d+1<=z.1/\z.1<=b)/\OS (κ.t 60) κ.sz enc v z.2.1 z.2.2/\RP a b xs z.2.1/\SR (aA c) z.2.1 a d) (λz=>[(0,v),(1,iN a),(2,iN b),(3,.func (.func f) #[] caps.toArray),(9,iN d),(10,iN n),(12,iN z.1)]) (λz=>[z.2.2]) (λz=>b-z.1) (d+1,A,K) ⟨⟨adx _,by simp only;omega⟩,g,r,Y⟩ kE.c.c.c.c.c.c.c rH ?_
 rintro⟨q,Q,T4⟩ ⟨⟨a7,a8⟩,C,O,Z⟩
 simp only at a7 a8 C O Z⊢
 have d0:=O.length
 refine .seq<|.sr<|.mo rfl<|.mo rfl<|.q .lss<|.zn ?_
 refine .cond rfl (λh9=>?_) λh9=>?_
 have d3:q<b:=dQ h9
 obtain⟨s,k⟩:∃x,Q[q]? =some x:=⟨_,bC (by omega)⟩
 obtain⟨t,l⟩:∃x,Q[q-1]? =some x:=⟨_,bC (by omega)⟩
 have a9:=W s (O.perm.mem_iff.1 (bU k))
 have b0:=W t (O.perm.mem_iff.1 (bU l))
 refine .kn<|.seq<|.block<|.seq<|.seq ?_
 refine .df 10 mixed (by kernel_rfl) ?_
 conv=>arg 6;dsimp only[List.take]
 refine .mo rfl<|.mo rfl<|.mo rfl ?_
 refine .bb q C k (λd5=>?_)
 refine .q (.bK rfl (cj.h _)) ?_
 refine .mo rfl<|.mo rfl ?_
 refine .ia (q-1) .sub ?_
 refine .bb (q-1) C l (λd6=>?_)
 refine .q (.bK rfl (cj.h _)) ?_
 refine .nil ?_
 refine .gK (first:=[]) (captured:=caps) (vs:=[(λp:α=>Value.agg (enc p).toArray) s,(λp:α=>Value.agg (enc p).toArray) t]) (hf s t a9 b0 _ (λb o V=>.inl V)) (λu H=>?_)
 subst H
 refine .q .lss<|.q .not<|.zn ?_
 refine .cond rfl (λb7=>?_) λb7=>?_
 refine .exit (bD (jy (bD (bH (bF ?_)))))
 ·first
   |exact aB (Q,T4) ⟨C,O,Z⟩ kE.c.c.c.c.c.c rH
   |exact aB (A,K) ⟨g,r,Y⟩ kE.c.c.c.c.c.c rH
 refine .kn<|.cW [15,17] mixed ?_
 refine .tO 0 rfl .move<|.tO 1 rfl .move<|.tK 2 rfl .move<|.tK 3 rfl .move ?_
 refine .take 4 rfl (.i64 ((q-1:Nat):Int) .sub ⟨by omega,by omega,by omega⟩) (by kernel_rfl) ?_
 refine .tO 5 rfl .move<|.tO 6 rfl .move ?_
 refine .eE 7 rfl (.i64 ((q-1:Nat):Int) .sub ⟨by omega,by omega,by omega⟩) (by kernel_rfl) ?_
 refine RA.bb 8 rfl (q-1) C l rfl rfl rfl (by kernel_rfl) (λd7=>?_)
 refine .tO 9 rfl (.bK rfl (cj.h _)) ?_
 refine .tO 10 rfl .move<|.tO 11 rfl .move ?_
 refine RA.bb 12 rfl (q) C k rfl rfl rfl (by kernel_rfl) (λd8=>?_)
 refine .tO 13 rfl (.bK rfl (cj.h _)) ?_
 refine RA.bb 14 rfl (q) C k rfl rfl rfl (by kernel_rfl) (λd9=>?_)
 refine .sT 15 rfl ?_
 refine .ft (q) C k t (λb1 a0=>?_) (C.one _ (bU l)) (cj.h _)
 refine .nil (Next.mod rfl ?_)
 refine RA.bb 16 rfl (q-1) C l rfl rfl rfl (by kernel_rfl) (λe0=>?_)
 refine .sT 17 rfl ?_
 obtain⟨zz,a1⟩:∃u,(Q.set (q) t)[q-1]? =some u:=⟨_,bC (by rw[adB];exact(adC.1 l).1)⟩
 refine .ft (q-1) a0 a1 s (λL G=>?_) (C.one _ (bU k)) (cj.h _)
 rw[<-fk k l]at G
 refine .nil (Next.mod rfl ?_)
 refine RA.nil (by kernel_rfl) ?_
 refine bz<|aD<|.region<|.mo rfl ?_
 refine .ia (q+1) .add ?_
 refine .ag rfl<|.nil ?_
 ·exact bf (q+1,swp Q q (q-1),L) ⟨⟨by simp only;omega,by simp only;omega⟩,G,O.step (by omega) (by omega) (by omega) (by omega) (by omega),Z.yk (by omega) (by omega) (by omega) (by omega)⟩ (by simp only;omega) kE.c.c.c.c.c.c.c rH
 refine .exit<|bD<|bH<|bF ?_
 ·first
   |exact aB (Q,T4) ⟨C,O,Z⟩ kE.c.c.c.c.c.c rH
   |exact aB (A,K) ⟨g,r,Y⟩ kE.c.c.c.c.c.c rH
 refine .skip ?_
 ·first
   |exact aB (Q,T4) ⟨C,O,Z⟩ kE.c.c.c.c.c.c rH
   |exact aB (A,K) ⟨g,r,Y⟩ kE.c.c.c.c.c.c rH
 intro y D
 obtain⟨us,T5⟩:=y
 obtain⟨b2,b3,b4⟩:=D
 simp only at b2 b3 b4⊢
 refine bz<|aD<|.region<|.mo rfl ?_
 refine .ia (n+1) .add ?_
 refine .ag rfl<|.nil ?_
 ·exact bf (n+1,d,us,T5) ⟨⟨by simp only;omega,I,J⟩,b2,b3,b4⟩ (by simp only;omega) kE.c.c.c.c.c.c rH
 refine .exit<|bD<|bH<|bF<|aD<|.sr<|.az rfl ?_
 refine .ret (aR _ (.one (.tmp rfl)) rH ?_)
 ·exact⟨_,rfl,ys,false,rfl,B,N,λh=>by cases h⟩
end
end SG
namespace SG
section
variable{κ:KD}{α:Type}{enc:α->List Value} [en:cj enc κ.sz]{c:α->α->Int}{ok:α->Prop}{f:FuncId}{caps:List Value} [e:ay prog f]
theorem ng(v:Value)(xs:List α)(a b lo d g:Nat)(s:Int)(R:av)(h:RS R κ.sz enc v xs)(i:lo<=a/\a<d)(e:lo<=b/\b<d)(A:d<=xs.length)(n:gi prog f caps R (λp:α=>Value.agg (enc p).toArray) c ok)(j:∀x∈xs,ok x):
  Spec prog (κ.p 268) [v,.int .i64 a,.int .i64 b,pT g,.func (.func f) #[] caps.toArray] R [bl g [.int .i64 s] 3] λu H'=>∃T',H'=[T']/\∃(s':Int) (p q:Nat),u=.tuple [.int .i64 p,.int .i64 q].toArray/\T'=(bl g [.int .i64 s'] 3)/\(lo<=p/\p<d)/\(lo<=q/\q<d):=by
 have B:=h.aw
 obtain⟨x,k⟩:∃x,xs[b]? =some x:=⟨_,bC (by omega)⟩
 obtain⟨y,l⟩:∃x,xs[a]? =some x:=⟨_,bC (by omega)⟩
 have t:=j x (bU k)
 have w:=j y (bU l)
 refine Spec.kc κ.pV rfl results268 ntmps268 rfl ?_
 simp only[cR,oR,jG,adz,adA,ady,adD,adE,adF,κ.t0,κ.t3,κ.t4,κ.t27,κ.t143,κ.t167,κ.t210,κ.t211,κ.t247,κ.t251,κ.t290,κ.iM,κ.iO,κ.iP]
 refine .sr<|.ag rfl<|.ag rfl<|.zs<|.seq ?_
 refine .df 9 mixed (by kernel_rfl) ?_
 conv=>arg 6;dsimp only[List.take]
 refine .mo rfl<|.mo rfl<|.mo rfl ?_
 refine .cu b h k (λC=>?_)
 refine .q (.bK rfl (cj.h _)) ?_
 refine .mo rfl<|.mo rfl ?_
 refine .cu a h l (λD=>?_)
 refine .q (.bK rfl (cj.h _)) ?_
 refine .nil ?_
 refine .gK (first:=[]) (captured:=caps) (vs:=[(λp:α=>Value.agg (enc p).toArray) x,(λp:α=>Value.agg (enc p).toArray) y]) (n x y t w _ (λb o e=>.inl e)) (λu r=>?_)
 subst r
 refine .q .lss<|.zn ?_
 refine .cond rfl (λm=>?_) λm=>?_
 refine .sr<|.mo rfl<|.nc rfl<|.lo rfl<|.q .add ?_
 refine .nc rfl<|.cJ rfl rfl<|.z<|.mo rfl<|.mo rfl<|.ag rfl<|.az rfl ?_
 refine .ret (aL (aR _ (.two (.tmp rfl) (.tmp rfl)) rH ?_))
 ·exact⟨_,rfl,_,b,a,rfl,rfl,e,i⟩
 refine .kn<|.sr<|.mo rfl<|.mo rfl<|.ag rfl<|.az rfl ?_
 refine .ret (aR _ (.two (.tmp rfl) (.tmp rfl)) rH ?_)
 ·exact⟨_,rfl,_,a,b,rfl,rfl,i,e⟩
theorem o0(v:Value)(xs:List α)(a b d lo e g:Nat)(s:Int)(R:av)(h:RS R κ.sz enc v xs)(m:lo<=a/\a<e)(n:lo<=b/\b<e)(o:lo<=d/\d<e)(k:e<=xs.length)(j:gi prog f caps R (λp:α=>Value.agg (enc p).toArray) c ok)(l:∀x∈xs,ok x):
  Spec prog (κ.p 219) [v,.int .i64 a,.int .i64 b,.int .i64 d,pT g,.func (.func f) #[] caps.toArray] R [bl g [.int .i64 s] 3] λu H'=>∃T',H'=[T']/\∃(s':Int) (p:Nat),u=.int .i64 p/\T'=(bl g [.int .i64 s'] 3)/\(lo<=p/\p<e):=by
 have M:=h.aw
 refine Spec.kc κ.pU rfl results219 ntmps219 rfl ?_
 simp only[cR,oR,jG,adz,adA,ady,adD,adE,adF,κ.t0,κ.t3,κ.t4,κ.t27,κ.t143,κ.t167,κ.t210,κ.t211,κ.t247,κ.t251,κ.t290,κ.iM,κ.iO,κ.iP]
 refine .sr<|.ag rfl<|.z<|.mo rfl<|.mo rfl<|.mo rfl<|.mo rfl<|.mo rfl ?_
 refine .bW (ng v xs a b lo e g s _ h m n k j l) (λu H i=>?_)
 obtain⟨E,A,C,rfl,rfl,r,w⟩:=i
 refine .mo rfl<|.q .extract<|.q .extract<|.ag rfl<|.ag rfl<|.z<|.mo rfl<|.mo rfl<|.mo rfl<|.mo rfl<|.mo rfl ?_
 refine .bW (ng v xs C d lo e g E _ h w o k j l) (λu I i=>?_)
 obtain⟨F,B,O,rfl,rfl,t,L⟩:=i
 refine .mo rfl<|.q .extract<|.q .extract<|.ag rfl<|.ag rfl<|.z<|.mo rfl<|.mo rfl<|.mo rfl<|.mo rfl<|.mo rfl ?_
 refine .bW (ng v xs A B lo e g F _ h r t k j l) (λu J i=>?_)
 obtain⟨G,N,D,rfl,rfl,K,y⟩:=i
 refine .mo rfl<|.q .extract<|.q .extract<|.ag rfl<|.ag rfl<|.z<|.mo rfl<|.az rfl ?_
 refine .ret (aR _ (.one (.tmp rfl)) rH ?_)
 ·exact⟨_,rfl,G,D,rfl,rfl,y⟩
theorem na(v:Value)(xs:List α)(a lo d b:Nat)(s:Int)(R:av)(h:RS R κ.sz enc v xs)(o:lo+1<=a/\a+1<d)(g:d<=xs.length)(q:xs.length<=1000000000)(e:gi prog f caps R (λp:α=>Value.agg (enc p).toArray) c ok)(i:∀x∈xs,ok x):
  Spec prog (κ.p 218) [v,.int .i64 a,pT b,.func (.func f) #[] caps.toArray] R [bl b [.int .i64 s] 3] λu H'=>∃T',H'=[T']/\∃(s':Int) (p:Nat),u=.int .i64 p/\T'=(bl b [.int .i64 s'] 3)/\(lo<=p/\p<d):=by
 have r:=h.aw
 refine Spec.kc κ.pS rfl results218 ntmps218 rfl ?_
 simp only[cR,oR,jG,adz,adA,ady,adD,adE,adF,κ.t0,κ.t3,κ.t4,κ.t27,κ.t143,κ.t167,κ.t210,κ.t211,κ.t247,κ.t251,κ.t290,κ.iM,κ.iO,κ.iP]
 refine .sr<|.ag rfl<|.z<|.mo rfl<|.mo rfl ?_
 refine .ia (a-1) .sub ?_
 refine .mo rfl<|.mo rfl ?_
 refine .ia (a+1) .add ?_
 refine .mo rfl<|.mo rfl ?_
 refine .bW (o0 v xs (a-1) a (a+1) lo d b s _ h (by omega) (by omega) (by omega) g e i) (λu n k=>?_)
 obtain⟨m,l,rfl,rfl,j⟩:=k
 refine .az rfl ?_
 refine .ret (aR _ (.one (.tmp rfl)) rH ?_)
 ·exact⟨_,rfl,m,l,rfl,rfl,j⟩
theorem choose_spec(v:Value)(xs:List α)(a b:Nat)(R:av)(h:RS R κ.sz enc v xs)(Y:a<b)(l:b<=xs.length)(w:xs.length<=1000000000)(m:gi prog f caps R (λp:α=>Value.agg (enc p).toArray) c ok)(o:∀x∈xs,ok x):
  Spec prog (κ.p 177) [v,.int .i64 a,.int .i64 b,.func (.func f) #[] caps.toArray] R [] λu H'=>(∃(p:Nat) (t:Int),u=.tuple [.int .i64 p,.int .i64 t].toArray/\a<=p/\p<b)/\H'=[]:=by
 have iv:=h.aw
 obtain⟨n,U⟩:∃n,b=a+n:=⟨b-a,by omega⟩
 subst U
 obtain⟨q,A⟩:∃q,q=n/4:=⟨_,rfl⟩
 refine Spec.kc κ.pM rfl results177 ntmps177 rfl ?_
 simp only[cR,oR,jG,adz,adA,ady,adD,adE,adF,κ.t0,κ.t3,κ.t4,κ.t27,κ.t143,κ.t167,κ.t210,κ.t211,κ.t247,κ.t251,κ.t290,κ.iM,κ.iO,κ.iP]
 refine .sr<|.ag rfl<|.ag rfl<|.z<|.mo rfl<|.mo rfl ?_
 refine .ia (n) .sub ?_
 refine .ag rfl<|.z ?_
 refine .p6 (λe=>?_)
 refine .z<|.mo rfl<|.mo rfl ?_
 refine .q (.i64 ((q:Nat):Int) .quo ⟨by rw[A,adG (by omega)];omega,by omega,by omega⟩) ?_
 refine .ia (q) .mul ?_
 refine .ia (a+q) .add ?_
 refine .ag rfl<|.z<|.mo rfl<|.mo rfl ?_
 refine .q (.i64 ((q:Nat):Int) .quo ⟨by rw[A,adG (by omega)];omega,by omega,by omega⟩) ?_
 refine .ia (q*2) .mul ?_
 refine .ia (a+q*2) .add ?_
 refine .ag rfl<|.z<|.mo rfl<|.mo rfl ?_
 refine .q (.i64 ((q:Nat):Int) .quo ⟨by rw[A,adG (by omega)];omega,by omega,by omega⟩) ?_
 refine .ia (q*3) .mul ?_
 refine .ia (a+q*3) .add ?_
 refine .ag rfl<|.zs ?_
 refine bQ.cut (X:=Nat×Int) (λz=>a<=z.1/\z.1<a+n) (λz=>[(11,pT e),(13,iN z.1)]) (λz=>[bl e [.int .i64 z.2] 3]) ?_ ?_
 refine .sr<|.mo rfl<|.q .geq<|.zn ?_
 refine .cond rfl (λB=>?_) λB=>?_
 have a0:8<=n:=by have:=bx B;omega
 refine .seq ?_
 refine bQ.cut (X:=Nat×Nat×Nat×Int) (λz=>(a<=z.1/\z.1<a+n)/\(a<=z.2.1/\z.2.1<a+n)/\(a<=z.2.2.1/\z.2.2.1<a+n)) (λz=>[(0,v),(3,.func (.func f) #[] caps.toArray),(11,pT e),(12,iN z.1),(13,iN z.2.1),(14,iN z.2.2.1)]) (λz=>[bl e [.int .i64 z.2.2.2] 3]) ?_ ?_
 refine .sr<|.mo rfl<|.q .geq<|.zn ?_
 refine .cond rfl (λC=>?_) λC=>?_
 have Z:50<=n:=by have:=bx C;omega
 refine .sr<|.mo rfl<|.mo rfl<|.mo rfl ?_
 refine .bW (na v xs (a+q) a (a+n) e 0 _ h (by omega) l w m o) (λu r g=>?_)
 obtain⟨V,K,rfl,rfl,G⟩:=g
 refine .ag rfl<|.z<|.mo rfl<|.mo rfl<|.mo rfl ?_
 refine .bW (na v xs (a+q*2) a (a+n) e V _ h (by omega) l w m o) (λu r g=>?_)
 obtain⟨W,L,rfl,rfl,H⟩:=g
 refine .az rfl<|.region<|.mo rfl<|.mo rfl<|.mo rfl ?_
 refine .bW (na v xs (a+q*3) a (a+n) e W _ h (by omega) l w m o) (λu r g=>?_)
 obtain⟨O,M,rfl,rfl,I⟩:=g
 refine .ag rfl<|.nil ?_
 ·first
   |exact aB (K,L,M,O) ⟨G,H,I⟩ kE.c.c.c.c.c.c rH
   |exact aB (a+q,a+q*2,a+q*3,0) ⟨by simp only;omega,by simp only;omega,by simp only;omega⟩ kE.c.c.c.c.c.c rH
 refine .skip ?_
 ·first
   |exact aB (K,L,M,O) ⟨G,H,I⟩ kE.c.c.c.c.c.c rH
   |exact aB (a+q,a+q*2,a+q*3,0) ⟨by simp only;omega,by simp only;omega,by simp only;omega⟩ kE.c.c.c.c.c.c rH
 intro y d
 obtain⟨i,j,k,s⟩:=y
 obtain⟨D,E,F⟩:=d
 simp only at D E F⊢
 refine aD<|.region<|.mo rfl<|.mo rfl<|.mo rfl<|.mo rfl<|.mo rfl ?_
 refine .bW (o0 v xs i j k a (a+n) e s _ h D E F l m o) (λu r g=>?_)
 obtain⟨Q,N,rfl,rfl,J⟩:=g
 refine .ag rfl<|.nil ?_
 ·first
   |exact aB (N,Q) J kE.c.c rH
   |exact aB (a+q*2,0) (by simp only;omega) kE.c.c rH
 refine .skip ?_
 ·first
   |exact aB (N,Q) J kE.c.c rH
   |exact aB (a+q*2,0) (by simp only;omega) kE.c.c rH
 intro y d
 obtain⟨p,s⟩:=y
 simp only at d⊢
 refine aD<|.sr<|.lo rfl<|.zn<|.block<|.sr<|.q .bS<|.az rfl ?_
 refine .cond rfl (λS=>?_) λS=>?_
 refine .sr<|.mo rfl<|.ag rfl<|.az rfl ?_
 refine .ret (br (aR _ (.two (.tmp rfl) (.tmp rfl)) (.none _) ?_))
 ·exact⟨⟨p,_,rfl,d.1,d.2⟩,rfl⟩
 refine .sr<|.q .bS<|.az rfl ?_
 refine .cond rfl (λT=>?_) λT=>?_
 refine .sr<|.mo rfl<|.ag rfl<|.az rfl ?_
 refine .ret (br (aR _ (.two (.tmp rfl) (.tmp rfl)) (.none _) ?_))
 ·exact⟨⟨p,_,rfl,d.1,d.2⟩,rfl⟩
 refine .sr<|.mo rfl<|.ag rfl<|.az rfl ?_
 refine .ret (br (aR _ (.two (.tmp rfl) (.tmp rfl)) (.none _) ?_))
 ·exact⟨⟨p,_,rfl,d.1,d.2⟩,rfl⟩
end
end SG
namespace SG
section
variable{κ:KD}{α:Type}{enc:α->List Value} [en:cj enc κ.sz]{c:α->α->Int}{ok:α->Prop}{f:FuncId}{caps:List Value} [e:ay prog f]
theorem sv(v:Value)(xs:List α)(T:ax)(a b m:Nat)(p:α)(R:av)(h:OS (κ.t 60) κ.sz enc v xs T)(b1:a<b)(hm:a<=m/\m<b)(C:xs[m]? =some p)(U:b<=xs.length)(hl:xs.length<=1000000000)(hf:gi prog f caps R (λp:α=>Value.agg (enc p).toArray) c ok)(a0:∀x∈xs,ok x)(so:SO (aA c))
  (b7:∀(k:Nat) (x:α),a<=k->k<b->xs[k]? =some x->aA c x p=false):
  Spec prog (κ.p 180) [v,.int .i64 a,.int .i64 b,.int .i64 m,.func (.func f) #[] caps.toArray] R [T] λu H'=>∃T',H'=[T']/\∃ys mid,u=iN mid/\OS (κ.t 60) κ.sz enc v ys T'/\RP a b xs ys/\p3 (aA c) ys a mid b p:=by
 have iv:=h.aw
 obtain⟨x0,E⟩:∃x,xs[a]? =some x:=⟨_,bC (by omega)⟩
 have a8:=a0 p (bU C)
 refine Spec.kc κ.pP rfl results180 ntmps180 rfl ?_
 simp only[cR,oR,jG,adz,adA,ady,adD,adE,adF,κ.t0,κ.t3,κ.t4,κ.t27,κ.t143,κ.t167,κ.t210,κ.t211,κ.t247,κ.t251,κ.t290,κ.iM,κ.iO,κ.iP]
 refine .sr<|.ag rfl<|.zs<|.cW [13,15] mixed ?_
 refine .tO 0 rfl .move<|.tO 1 rfl .move<|.tK 2 rfl .move<|.tK 3 rfl .move<|.tO 4 rfl .move<|.tO 5 rfl .move ?_
 refine RA.bb 6 rfl (m) h C rfl rfl rfl (by kernel_rfl) (λd1=>?_)
 refine .tO 7 rfl (.bK rfl (cj.h _)) ?_
 refine .tO 8 rfl .move<|.tO 9 rfl .move ?_
 refine RA.bb 10 rfl (a) h E rfl rfl rfl (by kernel_rfl) (λd2=>?_)
 refine .tO 11 rfl (.bK rfl (cj.h _)) ?_
 refine RA.bb 12 rfl (a) h E rfl rfl rfl (by kernel_rfl) (λd3=>?_)
 refine .sT 13 rfl ?_
 refine .ft (a) h E p (λa9 a1=>?_) (h.one _ (bU C)) (cj.h _)
 refine .nil (Next.mod rfl ?_)
 refine RA.bb 14 rfl (m) h C rfl rfl rfl (by kernel_rfl) (λd4=>?_)
 refine .sT 15 rfl ?_
 obtain⟨zz,a2⟩:∃u,(xs.set (a) p)[m]? =some u:=⟨_,bC (by rw[adB];exact(adC.1 C).1)⟩
 refine .ft (m) a1 a2 x0 (λY K=>?_) (h.one _ (bU E)) (cj.h _)
 rw[<-fk E C]at K
 refine .nil (Next.mod rfl ?_)
 refine RA.nil (by kernel_rfl) ?_
 have b0:RP a b xs (swp xs a m):=(RP.refl xs).step (by omega) (by omega) (by omega) (by omega) (by omega)
 have b2:(swp xs a m)[a]? =some p:=by
  rw[fc (by omega) (by omega)]
  by_cases hk:a=m
  ·rw[if_pos hk,E, <-C, <-hk,E]
  ·rw[if_neg hk,if_pos rfl,C]
 refine aD<|.sr<|.mo rfl ?_
 refine .ia (a+1) .add ?_
 refine .mo rfl ?_
 refine .ia (b-1) .sub ?_
 refine .ag rfl<|.ag rfl<|.zs<|.block ?_
 refine .loop (X:=Nat×Nat×List α×ax) (λy=>OS (κ.t 60) κ.sz enc v y.2.2.1 y.2.2.2/\RP a b xs y.2.2.1/\PQ (λx=> !aA c p x) y.2.2.1 a y.1 y.2.1 b p) (λy=>[(0,v),(1,iN a),(4,.func (.func f) #[] caps.toArray),(11,iN y.1),(12,iN y.2.1)]) (λy=>[y.2.2.2]) (λy=>y.2.1+1-y.1) (a+1,b-1,swp xs a m,Y) ⟨K,b0,.start b1 b2⟩ kE.c.c.c.c.c rH ?_
 rintro⟨i,j,ys,N⟩ ⟨r,D,G⟩
 simp only at r D G⊢
 have d0:=D.length
 have c4:=G.i0
 have c6:=G.ij
 have c8:=G.jb
 have a7:=G.at_
 refine .block<|.seq ?_
 refine bQ.cut (X:=Nat) (λs=>i<=s/\PQ (λx=> !aA c p x) ys a s j b p/\∀x,s<=j->ys[s]? =some x->(!aA c p x)=false) (λs=>[(0,v),(1,iN a),(4,.func (.func f) #[] caps.toArray),(11,.int .i64 (s:Nat)),(12,iN j)]) (λ_=>[N]) ?_ ?_
 refine .block ?_
 refine .loop (X:=Nat) (λs=>i<=s/\PQ (λx=> !aA c p x) ys a s j b p) (λs=>[(0,v),(1,iN a),(4,.func (.func f) #[] caps.toArray),(11,.int .i64 (s:Nat)),(12,iN j)]) (λ_=>[N]) (λs=>j+1-s) i ⟨adx _,G⟩ kE.c.c.c.c.c rH ?_
 rintro A ⟨V,I⟩
 refine .seq<|.seq ?_
 refine .df 13 mixed (by kernel_rfl) ?_
 conv=>arg 6;dsimp only[List.take]
 refine .mo rfl<|.mo rfl<|.q .leq<|.mo rfl ?_
 refine .split (t:=34) rfl (λd=>?_) (λd=>?_)
 have b5:A<=j:=by have:=bx d;omega
 obtain⟨x2,L⟩:∃x,ys[A]? =some x:=⟨_,bC (by omega)⟩
 have c2:=a0 x2 (D.perm.mem_iff.1 (bU L))
 refine .gT d<|.mo rfl<|.gT d<|.mo rfl<|.gT d<|.mo rfl<|.gT d ?_
 refine .bb a r a7 (λd5=>?_)
 refine .gT d<|.q (.bK rfl (cj.h _)) ?_
 refine .gT d<|.mo rfl<|.gT d<|.mo rfl<|.gT d ?_
 refine .bb A r L (λd6=>?_)
 refine .gT d<|.q (.bK rfl (cj.h _)) ?_
 refine .nil<|.gT d ?_
 refine .gK (first:=[]) (captured:=caps) (vs:=[(λp:α=>Value.agg (enc p).toArray) p,(λp:α=>Value.agg (enc p).toArray) x2]) (hf p x2 a8 c2 _ (λb o U=>.inl U)) (λu hu=>?_)
 subst hu
 refine .gT d<|.q .lss<|.gT d<|.q .not<|.q (.aY d) ?_
 refine .zn ?_
 refine .cond rfl (λO=>?_) λO=>?_
 refine .kn<|.block<|.region<|.mo rfl ?_
 refine .ia (A+1) .add ?_
 refine .ag rfl<|.nil<|bz ?_
 ·exact bf (A+1) ⟨by omega,I.inc b5 L O⟩ (by omega) kE.c.c.c.c.c rH
 refine .exit<|bD<|bH<|bF ?_
 first
  |exact aB A ⟨V,I,λx g n=>by rw[L]at n;cases n;exact O⟩ kE.c.c.c.c.c rH
  |exact aB A ⟨V,I,λx g n=>by have:=bo d;omega⟩ kE.c.c.c.c.c rH
 refine .gF d<|.gF d<|.gF d<|.gF d<|.gF d<|.gF d<|.gF d<|.gF d<|.gF d<|.nil<|.gF d<|.gF d<|.gF d<|.q (.aS d) ?_
 refine .zn<|.bZ<|.exit<|bD<|bH<|bF ?_
 first
  |exact aB A ⟨V,I,λx g n=>by rw[L]at n;cases n;exact O⟩ kE.c.c.c.c.c rH
  |exact aB A ⟨V,I,λx g n=>by have:=bo d;omega⟩ kE.c.c.c.c.c rH
 intro x g
 obtain⟨l,a4⟩:∃l,l=x:=⟨_,rfl⟩
 rw[<-a4]at g⊢
 clear a4 x
 obtain⟨c5,a3,c0⟩:=g
 refine aD<|.seq ?_
 refine bQ.cut (X:=Nat) (λw=>w<=j/\PQ (λx=> !aA c p x) ys a l w b p/\∀x,l<=w->ys[w]? =some x->(!aA c p x)=true) (λw=>[(0,v),(1,iN a),(4,.func (.func f) #[] caps.toArray),(11,iN l),(12,.int .i64 (w:Nat))]) (λ_=>[N]) ?_ ?_
 refine .block ?_
 refine .loop (X:=Nat) (λw=>w<=j/\PQ (λx=> !aA c p x) ys a l w b p) (λw=>[(0,v),(1,iN a),(4,.func (.func f) #[] caps.toArray),(11,iN l),(12,.int .i64 (w:Nat))]) (λ_=>[N]) (λw=>w) j ⟨adx _,a3⟩ kE.c.c.c.c.c rH ?_
 rintro B ⟨W,J⟩
 have b4:=a3.i0
 refine .seq<|.seq ?_
 refine .df 13 mixed (by kernel_rfl) ?_
 conv=>arg 6;dsimp only[List.take]
 refine .mo rfl<|.mo rfl<|.q .leq<|.mo rfl ?_
 refine .split (t:=53) rfl (λe=>?_) (λe=>?_)
 have b6:l<=B:=by have:=bx e;omega
 obtain⟨H,M⟩:∃x,ys[B]? =some x:=⟨_,bC (by omega)⟩
 have c3:=a0 H (D.perm.mem_iff.1 (bU M))
 refine .gT e<|.mo rfl<|.gT e<|.mo rfl<|.gT e<|.mo rfl<|.gT e ?_
 refine .bb a r a7 (λd7=>?_)
 refine .gT e<|.q (.bK rfl (cj.h _)) ?_
 refine .gT e<|.mo rfl<|.gT e<|.mo rfl<|.gT e ?_
 refine .bb B r M (λd8=>?_)
 refine .gT e<|.q (.bK rfl (cj.h _)) ?_
 refine .nil<|.gT e ?_
 refine .gK (first:=[]) (captured:=caps) (vs:=[(λp:α=>Value.agg (enc p).toArray) p,(λp:α=>Value.agg (enc p).toArray) H]) (hf p H a8 c3 _ (λb o U=>.inl U)) (λu hu=>?_)
 subst hu
 refine .gT e<|.q .lss<|.q (.aY e) ?_
 refine .zn ?_
 refine .cond rfl (λQ=>?_) λQ=>?_
 refine .kn<|.block<|.region<|.mo rfl ?_
 refine .ia (B-1) .sub ?_
 refine .ag rfl<|.nil<|bz ?_
 ·have b8:aA c p H=true:=Q
  exact bf (B-1) ⟨by omega,J.dec b6 M (by rw[b8];rfl)⟩ (by omega) kE.c.c.c.c.c rH
 refine .exit<|bD<|bH<|bF ?_
 first
  |exact aB B ⟨W,J,λx g n=>by have hh:aA c p H=false:=Q;rw[M]at n;cases n;rw[hh];rfl⟩ kE.c.c.c.c.c rH
  |exact aB B ⟨W,J,λx g n=>by have:=bo e;omega⟩ kE.c.c.c.c.c rH
 refine .gF e<|.gF e<|.gF e<|.gF e<|.gF e<|.gF e<|.gF e<|.gF e<|.gF e<|.nil<|.gF e<|.gF e<|.q (.aS e) ?_
 refine .zn<|.bZ<|.exit<|bD<|bH<|bF ?_
 first
  |exact aB B ⟨W,J,λx g n=>by have hh:aA c p H=false:=Q;rw[M]at n;cases n;rw[hh];rfl⟩ kE.c.c.c.c.c rH
  |exact aB B ⟨W,J,λx g n=>by have:=bo e;omega⟩ kE.c.c.c.c.c rH
 intro x g
 obtain⟨z,a5⟩:∃z,z=x:=⟨_,rfl⟩
 rw[<-a5]at g⊢
 clear a5 x
 obtain⟨c9,S,c1⟩:=g
 have b4:=S.i0
 have c7:=S.ij
 refine aD<|.seq<|.sr<|.mo rfl<|.mo rfl<|.q .gtr<|.zn ?_
 refine .cond rfl (λZ=>?_) λZ=>?_
 refine .exit (bD (jy (bH (bF ?_))))
 refine aD<|.sr<|.mo rfl<|.az rfl ?_
 refine .ret (aR _ (.one (.tmp rfl)) rH ?_)
 ·have b3:z<l:=dQ Z
  exact⟨_,rfl,ys,l,rfl,r,D,S.vl so b3 (D.all (p:=λx=>aA c x p=false) b7)⟩
 have a6:l<=z:=by have:=bo Z;omega
 obtain⟨x,g⟩:∃x,ys[l]? =some x:=⟨_,bC (by omega)⟩
 obtain⟨y,F⟩:∃x,ys[z]? =some x:=⟨_,bC (by omega)⟩
 have b9:=S.sw a6 (by omega) g F (c0 x (by omega) g) (c1 y a6 F)
 refine .kn<|.seq<|.cW [13,15] mixed ?_
 refine .tO 0 rfl .move<|.tO 1 rfl .move<|.tK 2 rfl .move<|.tK 3 rfl .move<|.tO 4 rfl .move<|.tO 5 rfl .move ?_
 refine RA.bb 6 rfl (z) r F rfl rfl rfl (by kernel_rfl) (λd9=>?_)
 refine .tO 7 rfl (.bK rfl (cj.h _)) ?_
 refine .tO 8 rfl .move<|.tO 9 rfl .move ?_
 refine RA.bb 10 rfl (l) r g rfl rfl rfl (by kernel_rfl) (λe0=>?_)
 refine .tO 11 rfl (.bK rfl (cj.h _)) ?_
 refine RA.bb 12 rfl (l) r g rfl rfl rfl (by kernel_rfl) (λe1=>?_)
 refine .sT 13 rfl ?_
 refine .ft (l) r g y (λa9 a1=>?_) (r.one _ (bU F)) (cj.h _)
 refine .nil (Next.mod rfl ?_)
 refine RA.bb 14 rfl (z) r F rfl rfl rfl (by kernel_rfl) (λe2=>?_)
 refine .sT 15 rfl ?_
 obtain⟨zz,a2⟩:∃u,(ys.set (l) y)[z]? =some u:=⟨_,bC (by rw[adB];exact(adC.1 F).1)⟩
 refine .ft (z) a1 a2 x (λY K=>?_) (r.one _ (bU g)) (cj.h _)
 rw[<-fk g F]at K
 refine .nil (Next.mod rfl ?_)
 refine RA.nil (by kernel_rfl) ?_
 refine aD<|.sr<|.mo rfl ?_
 refine .ia (l+1) .add ?_
 refine .az rfl<|.region<|.mo rfl ?_
 refine .ia (z-1) .sub ?_
 refine .ag rfl<|.nil<|bz ?_
 ·exact bf (l+1,z-1,swp ys l z,Y) ⟨K,D.step (by omega) (by omega) (by omega) (by omega) (by omega),b9.2⟩ (by simp only;omega) kE.c.c.c.c.c rH
theorem o7(v:Value)(xs:List α)(T:ax)(a b m:Nat)(p:α)(R:av)(h:OS (κ.t 60) κ.sz enc v xs T)(e0:a<b)(hm:a<=m/\m<b)(U:xs[m]? =some p)(S:b<=xs.length)(hl:xs.length<=1000000000)(hf:gi prog f caps R (λp:α=>Value.agg (enc p).toArray) c ok)(b0:∀x∈xs,ok x)(so:SO (aA c)):
  Spec prog (κ.p 181) [v,.int .i64 a,.int .i64 b,.int .i64 m,.func (.func f) #[] caps.toArray] R [T] λu H'=>∃T',H'=[T']/\∃ys mid z,u=.tuple [iN mid,.bool z].toArray/\OS (κ.t 60) κ.sz enc v ys T'/\RP a b xs ys/\Part (aA c) ys a mid b p:=by
 have iv:=h.aw
 obtain⟨x0,Z⟩:∃x,xs[a]? =some x:=⟨_,bC (by omega)⟩
 have c3:=b0 p (bU U)
 refine Spec.kc κ.pQ rfl results181 ntmps181 rfl ?_
 simp only[cR,oR,jG,adz,adA,ady,adD,adE,adF,κ.t0,κ.t3,κ.t4,κ.t27,κ.t143,κ.t167,κ.t210,κ.t211,κ.t247,κ.t251,κ.t290,κ.iM,κ.iO,κ.iP]
 refine .sr<|.ag rfl<|.ag rfl<|.zs<|.cW [13,15] mixed ?_
 refine .tO 0 rfl .move<|.tO 1 rfl .move<|.tK 2 rfl .move<|.tK 3 rfl .move<|.tO 4 rfl .move<|.tO 5 rfl .move ?_
 refine RA.bb 6 rfl (m) h U rfl rfl rfl (by kernel_rfl) (λk0=>?_)
 refine .tO 7 rfl (.bK rfl (cj.h _)) ?_
 refine .tO 8 rfl .move<|.tO 9 rfl .move ?_
 refine RA.bb 10 rfl (a) h Z rfl rfl rfl (by kernel_rfl) (λk1=>?_)
 refine .tO 11 rfl (.bK rfl (cj.h _)) ?_
 refine RA.bb 12 rfl (a) h Z rfl rfl rfl (by kernel_rfl) (λk4=>?_)
 refine .sT 13 rfl ?_
 refine .ft (a) h Z p (λb7 J=>?_) (h.one _ (bU U)) (cj.h _)
 refine .nil (Next.mod rfl ?_)
 refine RA.bb 14 rfl (m) h U rfl rfl rfl (by kernel_rfl) (λk5=>?_)
 refine .sT 15 rfl ?_
 obtain⟨zz,K⟩:∃u,(xs.set (a) p)[m]? =some u:=⟨_,bC (by rw[adB];exact(adC.1 U).1)⟩
 refine .ft (m) J K x0 (λV E=>?_) (h.one _ (bU Z)) (cj.h _)
 rw[<-fk Z U]at E
 refine .nil (Next.mod rfl ?_)
 refine RA.nil (by kernel_rfl) ?_
 have a4:RP a b xs (swp xs a m):=(RP.refl xs).step (by omega) (by omega) (by omega) (by omega) (by omega)
 have I:(swp xs a m)[a]? =some p:=by
  rw[fc (by omega) (by omega)]
  by_cases hk:a=m
  ·rw[if_pos hk,Z, <-U, <-hk,Z]
  ·rw[if_neg hk,if_pos rfl,U]
 obtain⟨D,d5⟩:∃D,D=swp xs a m:=⟨_,rfl⟩
 rw[<-d5]at E a4 I
 obtain⟨T0,d9⟩:∃T0,T0=V:=⟨_,rfl⟩
 rw[<-d9]at E⊢
 have h8:=a4.length
 have A:=E
 clear E
 have d8:PQ (λx=>aA c x p) D a (a+1) (b-1) b p:=.start e0 I
 clear d5
 refine aD<|.sr<|.mo rfl ?_
 refine .ia (a+1) .add ?_
 refine .mo rfl ?_
 refine .ia (b-1) .sub ?_
 refine .ag rfl<|.ag rfl<|.zs ?_
 refine bQ.cut (X:=Nat) (λs=>PQ (λx=>aA c x p) D a s (b-1) b p/\∀x,s<=b-1->D[s]? =some x->aA c x p=false) (λs=>[(0,v),(1,iN a),(4,.func (.func f) #[] caps.toArray),(12,.int .i64 (s:Nat)),(13,.int .i64 ((b-1:Nat):Int))]) (λ_=>[T0]) ?_ ?_
 refine .block ?_
 refine .loop (X:=Nat) (λs=>PQ (λx=>aA c x p) D a s (b-1) b p) (λs=>[(0,v),(1,iN a),(4,.func (.func f) #[] caps.toArray),(12,.int .i64 (s:Nat)),(13,.int .i64 ((b-1:Nat):Int))]) (λ_=>[T0]) (λs=>b-s) (a+1) d8 kE.c.c.c.c.c rH ?_
 rintro L a6
 refine .seq<|.seq ?_
 refine .df 13 mixed (by kernel_rfl) ?_
 conv=>arg 6;dsimp only[List.take]
 refine .mo rfl<|.mo rfl<|.q .leq<|.mo rfl ?_
 refine .split (t:=35) rfl (λn=>?_) (λn=>?_)
 have e4:L<=b-1:=by have:=bx n;omega
 obtain⟨x2,b2⟩:∃x,D[L]? =some x:=⟨_,bC (by omega)⟩
 have f6:=b0 x2 (a4.perm.mem_iff.1 (bU b2))
 refine .gT n<|.mo rfl<|.gT n<|.mo rfl<|.gT n<|.mo rfl<|.gT n ?_
 refine .bb L A b2 (λk6=>?_)
 refine .gT n<|.q (.bK rfl (cj.h _)) ?_
 refine .gT n<|.mo rfl<|.gT n<|.mo rfl<|.gT n ?_
 refine .bb a A I (λk7=>?_)
 refine .gT n<|.q (.bK rfl (cj.h _)) ?_
 refine .nil<|.gT n ?_
 refine .gK (first:=[]) (captured:=caps) (vs:=[(λp:α=>Value.agg (enc p).toArray) x2,(λp:α=>Value.agg (enc p).toArray) p]) (hf x2 p f6 c3 _ (λb o S=>.inl S)) (λu Y=>?_)
 subst Y
 refine .gT n<|.q .lss<|.q (.aY n) ?_
 refine .zn ?_
 refine .cond rfl (λh1=>?_) λh1=>?_
 refine .kn<|.block<|.region<|.mo rfl ?_
 refine .ia (L+1) .add ?_
 refine .ag rfl<|.nil<|bz ?_
 ·exact bf (L+1) (a6.inc e4 b2 h1) (by omega) kE.c.c.c.c.c rH
 refine .exit<|bD<|bH<|bF ?_
 first
  |exact aB L ⟨a6,λx d e=>by rw[b2]at e;cases e;exact h1⟩ kE.c.c.c.c.c rH
  |exact aB L ⟨a6,λx d e=>by have:=bo n;omega⟩ kE.c.c.c.c.c rH
 refine .gF n<|.gF n<|.gF n<|.gF n<|.gF n<|.gF n<|.gF n<|.gF n<|.gF n<|.nil<|.gF n<|.gF n<|.q (.aS n) ?_
 refine .zn<|.bZ<|.exit<|bD<|bH<|bF ?_
 first
  |exact aB L ⟨a6,λx d e=>by rw[b2]at e;cases e;exact h1⟩ kE.c.c.c.c.c rH
  |exact aB L ⟨a6,λx d e=>by have:=bo n;omega⟩ kE.c.c.c.c.c rH
 intro x d
 obtain⟨B,c7⟩:∃B,B=x:=⟨_,rfl⟩
 rw[<-c7]at d⊢
 clear c7 x
 obtain⟨c5,f2⟩:=d
 refine aD<|.seq ?_
 refine bQ.cut (X:=Nat) (λr=>r<=b-1/\PQ (λx=>aA c x p) D a B r b p/\∀x,B<=r->D[r]? =some x->aA c x p=true) (λr=>[(0,v),(1,iN a),(4,.func (.func f) #[] caps.toArray),(12,iN B),(13,.int .i64 (r:Nat))]) (λ_=>[T0]) ?_ ?_
 refine .block ?_
 refine .loop (X:=Nat) (λr=>r<=b-1/\PQ (λx=>aA c x p) D a B r b p) (λr=>[(0,v),(1,iN a),(4,.func (.func f) #[] caps.toArray),(12,iN B),(13,.int .i64 (r:Nat))]) (λ_=>[T0]) (λr=>r) (b-1) ⟨adx _,c5⟩ kE.c.c.c.c.c rH ?_
 rintro M ⟨c0,a7⟩
 have e2:=c5.i0
 refine .seq<|.seq ?_
 refine .df 13 mixed (by kernel_rfl) ?_
 conv=>arg 6;dsimp only[List.take]
 refine .mo rfl<|.mo rfl<|.q .leq<|.mo rfl ?_
 refine .split (t:=53) rfl (λk=>?_) (λk=>?_)
 have e5:B<=M:=by have:=bx k;omega
 obtain⟨x4,b3⟩:∃x,D[M]? =some x:=⟨_,bC (by omega)⟩
 have f7:=b0 x4 (a4.perm.mem_iff.1 (bU b3))
 refine .gT k<|.mo rfl<|.gT k<|.mo rfl<|.gT k<|.mo rfl<|.gT k ?_
 refine .bb M A b3 (λk8=>?_)
 refine .gT k<|.q (.bK rfl (cj.h _)) ?_
 refine .gT k<|.mo rfl<|.gT k<|.mo rfl<|.gT k ?_
 refine .bb a A I (λk9=>?_)
 refine .gT k<|.q (.bK rfl (cj.h _)) ?_
 refine .nil<|.gT k ?_
 refine .gK (first:=[]) (captured:=caps) (vs:=[(λp:α=>Value.agg (enc p).toArray) x4,(λp:α=>Value.agg (enc p).toArray) p]) (hf x4 p f7 c3 _ (λb o S=>.inl S)) (λu Y=>?_)
 subst Y
 refine .gT k<|.q .lss<|.gT k<|.q .not<|.q (.aY k) ?_
 refine .zn ?_
 refine .cond rfl (λh2=>?_) λh2=>?_
 refine .kn<|.block<|.region<|.mo rfl ?_
 refine .ia (M-1) .sub ?_
 refine .ag rfl<|.nil<|bz ?_
 ·have e8:aA c x4 p=false:=by
   have d6:(!aA c x4 p)=true:=h2
   simpa using d6
  exact bf (M-1) ⟨by omega,a7.dec e5 b3 e8⟩ (by omega) kE.c.c.c.c.c rH
 refine .exit<|bD<|bH<|bF ?_
 first
  |exact aB M ⟨c0,a7,λx d e=>by
    have W:(!aA c x4 p)=false:=h2
    rw[b3]at e;cases e
    simpa using W⟩ kE.c.c.c.c.c rH
  |exact aB M ⟨c0,a7,λx d e=>by have:=bo k;omega⟩ kE.c.c.c.c.c rH
 refine .gF k<|.gF k<|.gF k<|.gF k<|.gF k<|.gF k<|.gF k<|.gF k<|.gF k<|.nil<|.gF k<|.gF k<|.gF k<|.q (.aS k) ?_
 refine .zn<|.bZ<|.exit<|bD<|bH<|bF ?_
 first
  |exact aB M ⟨c0,a7,λx d e=>by
    have W:(!aA c x4 p)=false:=h2
    rw[b3]at e;cases e
    simpa using W⟩ kE.c.c.c.c.c rH
  |exact aB M ⟨c0,a7,λx d e=>by have:=bo k;omega⟩ kE.c.c.c.c.c rH
 intro x d
 obtain⟨w,c8⟩:∃w,w=x:=⟨_,rfl⟩
 rw[<-c8]at d⊢
 clear c8 x
 obtain⟨g9,b8,f3⟩:=d
 have e2:=b8.i0
 have g3:=b8.ij
 refine aD<|.seq<|.sr<|.mo rfl<|.mo rfl<|.q .gtr<|.zn ?_
 refine .cond rfl (λh3=>?_) λh3=>?_
 have e1:w<B:=dQ h3
 obtain⟨y,G⟩:∃x,D[w]? =some x:=⟨_,bC (by omega)⟩
 refine .seq<|.cW [13,15] mixed ?_
 refine .tO 0 rfl .move<|.tO 1 rfl .move<|.tK 2 rfl .move<|.tK 3 rfl .move<|.tO 4 rfl .move<|.tO 5 rfl .move ?_
 refine RA.bb 6 rfl (a) A I rfl rfl rfl (by kernel_rfl) (λl0=>?_)
 refine .tO 7 rfl (.bK rfl (cj.h _)) ?_
 refine .tO 8 rfl .move<|.tO 9 rfl .move ?_
 refine RA.bb 10 rfl (w) A G rfl rfl rfl (by kernel_rfl) (λl1=>?_)
 refine .tO 11 rfl (.bK rfl (cj.h _)) ?_
 refine RA.bb 12 rfl (w) A G rfl rfl rfl (by kernel_rfl) (λl2=>?_)
 refine .sT 13 rfl ?_
 refine .ft (w) A G p (λb7 J=>?_) (A.one _ (bU I)) (cj.h _)
 refine .nil (Next.mod rfl ?_)
 refine RA.bb 14 rfl (a) A I rfl rfl rfl (by kernel_rfl) (λl3=>?_)
 refine .sT 15 rfl ?_
 obtain⟨zz,K⟩:∃u,(D.set (w) p)[a]? =some u:=⟨_,bC (by rw[adB];exact(adC.1 I).1)⟩
 refine .ft (a) J K y (λV E=>?_) (A.one _ (bU G)) (cj.h _)
 rw[<-fk G I]at E
 refine .nil (Next.mod rfl ?_)
 refine RA.nil (by kernel_rfl) ?_
 refine aD<|.sr<|.mo rfl<|.ag rfl<|.az rfl ?_
 refine .ret (aL (aR _ (.two (.tmp rfl) (.tmp rfl)) rH ?_))
 ·exact⟨_,rfl,swp D w a,w,true,rfl,E,a4.step (by omega) (by omega) (by omega) (by omega) (by omega),b8.fin e1 (by omega)⟩
 have d1:B<=w:=by have:=bo h3;omega
 obtain⟨x,d⟩:∃x,D[B]? =some x:=⟨_,bC (by omega)⟩
 obtain⟨y,G⟩:∃x,D[w]? =some x:=⟨_,bC (by omega)⟩
 have f0:=b8.sw d1 (by omega) d G (f2 x (by omega) d) (f3 y d1 G)
 refine .kn<|.seq<|.cW [13,15] mixed ?_
 refine .tO 0 rfl .move<|.tO 1 rfl .move<|.tK 2 rfl .move<|.tK 3 rfl .move<|.tO 4 rfl .move<|.tO 5 rfl .move ?_
 refine RA.bb 6 rfl (w) A G rfl rfl rfl (by kernel_rfl) (λl4=>?_)
 refine .tO 7 rfl (.bK rfl (cj.h _)) ?_
 refine .tO 8 rfl .move<|.tO 9 rfl .move ?_
 refine RA.bb 10 rfl (B) A d rfl rfl rfl (by kernel_rfl) (λl5=>?_)
 refine .tO 11 rfl (.bK rfl (cj.h _)) ?_
 refine RA.bb 12 rfl (B) A d rfl rfl rfl (by kernel_rfl) (λl6=>?_)
 refine .sT 13 rfl ?_
 refine .ft (B) A d y (λb7 J=>?_) (A.one _ (bU G)) (cj.h _)
 refine .nil (Next.mod rfl ?_)
 refine RA.bb 14 rfl (w) A G rfl rfl rfl (by kernel_rfl) (λi1=>?_)
 refine .sT 15 rfl ?_
 obtain⟨zz,K⟩:∃u,(D.set (B) y)[w]? =some u:=⟨_,bC (by rw[adB];exact(adC.1 G).1)⟩
 refine .ft (w) J K x (λV E=>?_) (A.one _ (bU d)) (cj.h _)
 rw[<-fk d G]at E
 refine .nil (Next.mod rfl ?_)
 refine RA.nil (by kernel_rfl) ?_
 refine aD<|.sr<|.mo rfl ?_
 refine .ia (B+1) .add ?_
 refine .ag rfl<|.z<|.mo rfl ?_
 refine .ia (w-1) .sub ?_
 refine .ag rfl<|.zs ?_
 refine bQ.cut (X:=Nat×Nat×List α×ax) (λy=>OS (κ.t 60) κ.sz enc v y.2.2.1 y.2.2.2/\RP a b xs y.2.2.1/\PQ (λx=>aA c x p) y.2.2.1 a y.1 y.2.1 b p/\y.2.1<y.1) (λy=>[(0,v),(1,iN a),(4,.func (.func f) #[] caps.toArray),(12,iN y.1),(13,iN y.2.1)]) (λy=>[y.2.2.2]) ?_ ?_
 refine .block ?_
 refine .loop (X:=Nat×Nat×List α×ax) (λy=>OS (κ.t 60) κ.sz enc v y.2.2.1 y.2.2.2/\RP a b xs y.2.2.1/\PQ (λx=>aA c x p) y.2.2.1 a y.1 y.2.1 b p) (λy=>[(0,v),(1,iN a),(4,.func (.func f) #[] caps.toArray),(12,iN y.1),(13,iN y.2.1)]) (λy=>[y.2.2.2]) (λy=>y.2.1+1-y.1) (B+1,w-1,swp D B w,V) ⟨E,a4.step (by omega) (by omega) (by omega) (by omega) (by omega),f0.2⟩ kE.c.c.c.c.c rH ?_
 rintro⟨i,j,ys,T1⟩ ⟨F,a5,a2⟩
 simp only at F a5 a2⊢
 have h7:=a5.length
 have g0:=a2.i0
 have g2:=a2.ij
 have g7:=a2.jb
 have d4:=a2.at_
 refine .block<|.seq ?_
 refine bQ.cut (X:=Nat) (λs=>i<=s/\PQ (λx=>aA c x p) ys a s j b p/\∀x,s<=j->ys[s]? =some x->aA c x p=false) (λs=>[(0,v),(1,iN a),(4,.func (.func f) #[] caps.toArray),(12,.int .i64 (s:Nat)),(13,iN j)]) (λ_=>[T1]) ?_ ?_
 refine .block ?_
 refine .loop (X:=Nat) (λs=>i<=s/\PQ (λx=>aA c x p) ys a s j b p) (λs=>[(0,v),(1,iN a),(4,.func (.func f) #[] caps.toArray),(12,.int .i64 (s:Nat)),(13,iN j)]) (λ_=>[T1]) (λs=>j+1-s) i ⟨adx _,a2⟩ kE.c.c.c.c.c rH ?_
 rintro N ⟨c1,a8⟩
 refine .seq<|.seq ?_
 refine .df 13 mixed (by kernel_rfl) ?_
 conv=>arg 6;dsimp only[List.take]
 refine .mo rfl<|.mo rfl<|.q .leq<|.mo rfl ?_
 refine .split (t:=108) rfl (λl=>?_) (λl=>?_)
 have e6:N<=j:=by have:=bx l;omega
 obtain⟨x6,b4⟩:∃x,ys[N]? =some x:=⟨_,bC (by omega)⟩
 have f8:=b0 x6 (a5.perm.mem_iff.1 (bU b4))
 refine .gT l<|.mo rfl<|.gT l<|.mo rfl<|.gT l<|.mo rfl<|.gT l ?_
 refine .bb N F b4 (λi4=>?_)
 refine .gT l<|.q (.bK rfl (cj.h _)) ?_
 refine .gT l<|.mo rfl<|.gT l<|.mo rfl<|.gT l ?_
 refine .bb a F d4 (λi5=>?_)
 refine .gT l<|.q (.bK rfl (cj.h _)) ?_
 refine .nil<|.gT l ?_
 refine .gK (first:=[]) (captured:=caps) (vs:=[(λp:α=>Value.agg (enc p).toArray) x6,(λp:α=>Value.agg (enc p).toArray) p]) (hf x6 p f8 c3 _ (λb o S=>.inl S)) (λu Y=>?_)
 subst Y
 refine .gT l<|.q .lss<|.q (.aY l) ?_
 refine .zn ?_
 refine .cond rfl (λh4=>?_) λh4=>?_
 refine .kn<|.block<|.region<|.mo rfl ?_
 refine .ia (N+1) .add ?_
 refine .ag rfl<|.nil<|bz ?_
 ·exact bf (N+1) ⟨by omega,a8.inc e6 b4 h4⟩ (by omega) kE.c.c.c.c.c rH
 refine .exit<|bD<|bH<|bF ?_
 first
  |exact aB N ⟨c1,a8,λx d e=>by rw[b4]at e;cases e;exact h4⟩ kE.c.c.c.c.c rH
  |exact aB N ⟨c1,a8,λx d e=>by have:=bo l;omega⟩ kE.c.c.c.c.c rH
 refine .gF l<|.gF l<|.gF l<|.gF l<|.gF l<|.gF l<|.gF l<|.gF l<|.gF l<|.nil<|.gF l<|.gF l<|.q (.aS l) ?_
 refine .zn<|.bZ<|.exit<|bD<|bH<|bF ?_
 first
  |exact aB N ⟨c1,a8,λx d e=>by rw[b4]at e;cases e;exact h4⟩ kE.c.c.c.c.c rH
  |exact aB N ⟨c1,a8,λx d e=>by have:=bo l;omega⟩ kE.c.c.c.c.c rH
 intro x d
 obtain⟨C,d0⟩:∃C,C=x:=⟨_,rfl⟩
 rw[<-d0]at d⊢
 clear d0 x
 obtain⟨g6,c6,f4⟩:=d
 refine aD<|.seq ?_
 refine bQ.cut (X:=Nat) (λr=>r<=j/\PQ (λx=>aA c x p) ys a C r b p/\∀x,C<=r->ys[r]? =some x->aA c x p=true) (λr=>[(0,v),(1,iN a),(4,.func (.func f) #[] caps.toArray),(12,iN C),(13,.int .i64 (r:Nat))]) (λ_=>[T1]) ?_ ?_
 refine .block ?_
 refine .loop (X:=Nat) (λr=>r<=j/\PQ (λx=>aA c x p) ys a C r b p) (λr=>[(0,v),(1,iN a),(4,.func (.func f) #[] caps.toArray),(12,iN C),(13,.int .i64 (r:Nat))]) (λ_=>[T1]) (λr=>r) j ⟨adx _,c6⟩ kE.c.c.c.c.c rH ?_
 rintro O ⟨c2,a9⟩
 have e3:=c6.i0
 refine .seq<|.seq ?_
 refine .df 13 mixed (by kernel_rfl) ?_
 conv=>arg 6;dsimp only[List.take]
 refine .mo rfl<|.mo rfl<|.q .leq<|.mo rfl ?_
 refine .split (t:=126) rfl (λg=>?_) (λg=>?_)
 have e7:C<=O:=by have:=bx g;omega
 obtain⟨x7,b5⟩:∃x,ys[O]? =some x:=⟨_,bC (by omega)⟩
 have f9:=b0 x7 (a5.perm.mem_iff.1 (bU b5))
 refine .gT g<|.mo rfl<|.gT g<|.mo rfl<|.gT g<|.mo rfl<|.gT g ?_
 refine .bb O F b5 (λi6=>?_)
 refine .gT g<|.q (.bK rfl (cj.h _)) ?_
 refine .gT g<|.mo rfl<|.gT g<|.mo rfl<|.gT g ?_
 refine .bb a F d4 (λi7=>?_)
 refine .gT g<|.q (.bK rfl (cj.h _)) ?_
 refine .nil<|.gT g ?_
 refine .gK (first:=[]) (captured:=caps) (vs:=[(λp:α=>Value.agg (enc p).toArray) x7,(λp:α=>Value.agg (enc p).toArray) p]) (hf x7 p f9 c3 _ (λb o S=>.inl S)) (λu Y=>?_)
 subst Y
 refine .gT g<|.q .lss<|.gT g<|.q .not<|.q (.aY g) ?_
 refine .zn ?_
 refine .cond rfl (λh5=>?_) λh5=>?_
 refine .kn<|.block<|.region<|.mo rfl ?_
 refine .ia (O-1) .sub ?_
 refine .ag rfl<|.nil<|bz ?_
 ·have e9:aA c x7 p=false:=by
   have d7:(!aA c x7 p)=true:=h5
   simpa using d7
  exact bf (O-1) ⟨by omega,a9.dec e7 b5 e9⟩ (by omega) kE.c.c.c.c.c rH
 refine .exit<|bD<|bH<|bF ?_
 first
  |exact aB O ⟨c2,a9,λx d e=>by
    have W:(!aA c x7 p)=false:=h5
    rw[b5]at e;cases e
    simpa using W⟩ kE.c.c.c.c.c rH
  |exact aB O ⟨c2,a9,λx d e=>by have:=bo g;omega⟩ kE.c.c.c.c.c rH
 refine .gF g<|.gF g<|.gF g<|.gF g<|.gF g<|.gF g<|.gF g<|.gF g<|.gF g<|.nil<|.gF g<|.gF g<|.gF g<|.q (.aS g) ?_
 refine .zn<|.bZ<|.exit<|bD<|bH<|bF ?_
 first
  |exact aB O ⟨c2,a9,λx d e=>by
    have W:(!aA c x7 p)=false:=h5
    rw[b5]at e;cases e
    simpa using W⟩ kE.c.c.c.c.c rH
  |exact aB O ⟨c2,a9,λx d e=>by have:=bo g;omega⟩ kE.c.c.c.c.c rH
 intro x d
 obtain⟨H,d3⟩:∃H,H=x:=⟨_,rfl⟩
 rw[<-d3]at d⊢
 clear d3 x
 obtain⟨h0,b9,f5⟩:=d
 have e3:=b9.i0
 have g4:=b9.ij
 refine aD<|.seq<|.sr<|.mo rfl<|.mo rfl<|.q .gtr<|.zn ?_
 refine .cond rfl (λh6=>?_) λh6=>?_
 refine .exit (bD (jy (bH (bF ?_))))
 exact aB (C,H,ys,T1) ⟨F,a5,b9,by have:=bx h6;simp only;omega⟩ kE.c.c.c.c.c rH
 have d2:C<=H:=by have:=bo h6;omega
 obtain⟨x8,a0⟩:∃x,ys[C]? =some x:=⟨_,bC (by omega)⟩
 obtain⟨y8,a1⟩:∃x,ys[H]? =some x:=⟨_,bC (by omega)⟩
 have f1:=b9.sw d2 (by omega) a0 a1 (f4 x8 (by omega) a0) (f5 y8 d2 a1)
 refine .kn<|.seq<|.cW [13,15] mixed ?_
 refine .tO 0 rfl .move<|.tO 1 rfl .move<|.tK 2 rfl .move<|.tK 3 rfl .move<|.tO 4 rfl .move<|.tO 5 rfl .move ?_
 refine RA.bb 6 rfl (H) F a1 rfl rfl rfl (by kernel_rfl) (λi8=>?_)
 refine .tO 7 rfl (.bK rfl (cj.h _)) ?_
 refine .tO 8 rfl .move<|.tO 9 rfl .move ?_
 refine RA.bb 10 rfl (C) F a0 rfl rfl rfl (by kernel_rfl) (λj0=>?_)
 refine .tO 11 rfl (.bK rfl (cj.h _)) ?_
 refine RA.bb 12 rfl (C) F a0 rfl rfl rfl (by kernel_rfl) (λj1=>?_)
 refine .sT 13 rfl ?_
 refine .ft (C) F a0 y8 (λb7 J=>?_) (F.one _ (bU a1)) (cj.h _)
 refine .nil (Next.mod rfl ?_)
 refine RA.bb 14 rfl (H) F a1 rfl rfl rfl (by kernel_rfl) (λj4=>?_)
 refine .sT 15 rfl ?_
 obtain⟨zz,K⟩:∃u,(ys.set (C) y8)[H]? =some u:=⟨_,bC (by rw[adB];exact(adC.1 a1).1)⟩
 refine .ft (H) J K x8 (λV E=>?_) (F.one _ (bU a0)) (cj.h _)
 rw[<-fk a0 a1]at E
 refine .nil (Next.mod rfl ?_)
 refine RA.nil (by kernel_rfl) ?_
 refine aD<|.sr<|.mo rfl ?_
 refine .ia (C+1) .add ?_
 refine .az rfl<|.region<|.mo rfl ?_
 refine .ia (H-1) .sub ?_
 refine .ag rfl<|.nil<|bz ?_
 ·exact bf (C+1,H-1,swp ys C H,V) ⟨E,a5.step (by omega) (by omega) (by omega) (by omega) (by omega),f1.2⟩ (by simp only;omega) kE.c.c.c.c.c rH
 intro x d
 obtain⟨i9,j9,zs,T9⟩:=x
 obtain⟨Q,c4,a3,c9⟩:=d
 simp only at Q c4 a3 c9⊢
 have h9:=c4.length
 have g5:=a3.ij
 have g1:=a3.i0
 have g8:=a3.jb
 have b1:=a3.at_
 obtain⟨y9,b6⟩:∃x,zs[j9]? =some x:=⟨_,bC (by omega)⟩
 refine aD<|.seq<|.cW [13,15] mixed ?_
 refine .tO 0 rfl .move<|.tO 1 rfl .move<|.tK 2 rfl .move<|.tK 3 rfl .move<|.tO 4 rfl .move<|.tO 5 rfl .move ?_
 refine RA.bb 6 rfl (a) Q b1 rfl rfl rfl (by kernel_rfl) (λj5=>?_)
 refine .tO 7 rfl (.bK rfl (cj.h _)) ?_
 refine .tO 8 rfl .move<|.tO 9 rfl .move ?_
 refine RA.bb 10 rfl (j9) Q b6 rfl rfl rfl (by kernel_rfl) (λj6=>?_)
 refine .tO 11 rfl (.bK rfl (cj.h _)) ?_
 refine RA.bb 12 rfl (j9) Q b6 rfl rfl rfl (by kernel_rfl) (λj7=>?_)
 refine .sT 13 rfl ?_
 refine .ft (j9) Q b6 p (λb7 J=>?_) (Q.one _ (bU b1)) (cj.h _)
 refine .nil (Next.mod rfl ?_)
 refine RA.bb 14 rfl (a) Q b1 rfl rfl rfl (by kernel_rfl) (λj8=>?_)
 refine .sT 15 rfl ?_
 obtain⟨zz,K⟩:∃u,(zs.set (j9) p)[a]? =some u:=⟨_,bC (by rw[adB];exact(adC.1 b1).1)⟩
 refine .ft (a) J K y9 (λV E=>?_) (Q.one _ (bU b6)) (cj.h _)
 rw[<-fk b6 b1]at E
 refine .nil (Next.mod rfl ?_)
 refine RA.nil (by kernel_rfl) ?_
 refine aD<|.sr<|.mo rfl<|.ag rfl<|.az rfl ?_
 refine .ret (aR _ (.two (.tmp rfl) (.tmp rfl)) rH ?_)
 ·exact⟨_,rfl,swp zs j9 a,j9,false,rfl,E,c4.step (by omega) (by omega) (by omega) (by omega) (by omega),a3.fin c9 (by omega)⟩
end
end SG
namespace SG
section
variable{κ:KD}{α:Type}{enc:α->List Value} [en:cj enc κ.sz]{c:α->α->Int}{ok:α->Prop}{f:FuncId}{caps:List Value} [e:ay prog f]
def ot(c:α->α->Int)(ok:α->Prop)(f:FuncId)(caps:List Value)(n:Nat):Prop:=∀(v:Value) (xs:List α) (T:ax) (a b lim:Nat) (R:av),OS (κ.t 60) κ.sz enc v xs T->a<=b->b<=xs.length->xs.length<=1000000000->lim<=1000000000->gi prog f caps R (λp:α=>Value.agg (enc p).toArray) c ok->(∀x∈xs,ok x)->LB (aA c) xs a b->b-a<n->
  Spec prog (κ.p 118) [v,.int .i64 a,.int .i64 b,.int .i64 lim,.func (.func f) #[] caps.toArray] R [T] λu H'=>∃T',H'=[T']/\u=.tuple #[]/\∃ys,OS (κ.t 60) κ.sz enc v ys T'/\RP a b xs ys/\SR (aA c) ys a b
theorem sB(n:Nat)(ih:ot (κ:=κ) (enc:=enc) c ok f caps n)(D:SO (aA c))(v:Value)(xs:List α)(T:ax)(H F c7:Nat)(R:av)(h:OS (κ.t 60) κ.sz enc v xs T)(d6:H<=F)(hb:F<=xs.length)(hl:xs.length<=1000000000)(e0:c7<=1000000000)(O:gi prog f caps R (λp:α=>Value.agg (enc p).toArray) c ok)(e2:∀x∈xs,ok x)(d8:LB (aA c) xs H F)(hn:F-H<n+1):
  Spec prog (κ.p 118) [v,.int .i64 H,.int .i64 F,.int .i64 c7,.func (.func f) #[] caps.toArray] R [T] λu H'=>∃T',H'=[T']/\u=.tuple #[]/\∃ys,OS (κ.t 60) κ.sz enc v ys T'/\RP H F xs ys/\SR (aA c) ys H F:=by
 have iv:=h.aw
 refine Spec.kc κ.pI rfl results118 ntmps118 rfl ?_
 simp only[cR,oR,jG,adz,adA,ady,adD,adE,adF,κ.t0,κ.t3,κ.t4,κ.t27,κ.t143,κ.t167,κ.t210,κ.t211,κ.t247,κ.t251,κ.t290,κ.iM,κ.iO,κ.iP]
 refine .sr<|.ag rfl<|.z<|.az rfl<|.block ?_
 refine .loop (X:=Nat×Nat×Nat×Bool×Bool×List α×ax) (λy=>(H<=y.1/\y.1<=y.2.1/\y.2.1<=F/\y.2.2.1<=1000000000)/\OS (κ.t 60) κ.sz enc v y.2.2.2.2.2.1 y.2.2.2.2.2.2/\RP H F xs y.2.2.2.2.2.1/\OX (aA c) y.2.2.2.2.2.1 H F y.1 y.2.1) (λy=>[(0,v),(1,iN y.1),(2,iN y.2.1),(3,iN y.2.2.1),(4,.func (.func f) #[] caps.toArray),(10,.bool y.2.2.2.1),(11,.bool y.2.2.2.2.1)]) (λy=>[y.2.2.2.2.2.2]) (λy=>y.2.1-y.1) (H,F,c7,true,true,xs,T) ⟨⟨adx _,d6,adx _,e0⟩,h,.refl _,.start⟩ kE.c.c.c.c.c.c.c rH ?_
 rintro⟨a,b,l,wb,wp,ys,T1⟩ ⟨⟨e,c1,g,d7⟩,b1,U,Z⟩
 simp only at e c1 g d7 b1 U Z⊢
 have f0:=U.length
 have b8:∀x∈ys,ok x:=λx W=>e2 x (U.perm.mem_iff.1 W)
 have d1:=Z.lb (d8.rp U) e g
 refine .block<|.sr<|.mo rfl<|.mo rfl ?_
 refine .ia (b-a) .sub ?_
 refine .ag rfl<|.zs<|.sr<|.mo rfl<|.q .leq<|.zn ?_
 refine .cond rfl (λh1=>?_) λh1=>?_
 refine .sr<|.mo rfl<|.mo rfl<|.mo rfl<|.mo rfl ?_
 refine .bW (r4 v ys T1 a b _ b1 c1 (by omega) (by omega) O b8 D) (λu T2 k=>?_)
 obtain⟨rfl,N,I,B,c0⟩:=k
 refine .zn ?_
 refine .ret (aL (br (dn (br (aR _ .none rH ?_)))))
 ·first
   |exact⟨_,rfl,rfl,N,I,U.trans (B.mono e g (by omega)),(Z.rp B e g).jX c0⟩
   |exact⟨_,rfl,rfl,ms,a2,U.trans ((C.trans Y).mono e g (by omega)),(Z.rp (C.trans Y) e g).jX (c4 (by assumption))⟩
 have f4:12<b-a:=by have:=bo h1;omega
 refine .kn<|.seq<|.sr<|.mo rfl<|.q .bS<|.zn ?_
 refine .cond rfl (λh2=>?_) λh2=>?_
 refine .sr<|.mo rfl<|.mo rfl<|.mo rfl<|.mo rfl ?_
 refine .bW (r0 v ys T1 a b _ b1 c1 (by omega) (by omega) O b8 D) (λu T2 k=>?_)
 obtain⟨rfl,N,I,B,c0⟩:=k
 refine .zn ?_
 refine .ret (aL (br (dn (br (aR _ .none rH ?_)))))
 ·first
   |exact⟨_,rfl,rfl,N,I,U.trans (B.mono e g (by omega)),(Z.rp B e g).jX c0⟩
   |exact⟨_,rfl,rfl,ms,a2,U.trans ((C.trans Y).mono e g (by omega)),(Z.rp (C.trans Y) e g).jX (c4 (by assumption))⟩
 have e9:0<l:=by
  have e8:¬((l:Int)=0):=by simpa using h2
  omega
 refine .kn<|.seq ?_
 refine bQ.cut (X:=Nat×List α×ax) (λz=>z.1<=1000000000/\OS (κ.t 60) κ.sz enc v z.2.1 z.2.2/\RP a b ys z.2.1) (λz=>[(0,v),(1,iN a),(2,iN b),(3,iN z.1),(4,.func (.func f) #[] caps.toArray),(10,.bool wb),(11,.bool wp),(12,.int .i64 ((b-a:Nat):Int))]) (λz=>[z.2.2]) ?_ ?_
 refine .sr<|.mo rfl<|.q .not<|.zn ?_
 refine .cond rfl (λh3=>?_) λh3=>?_
 refine .sr<|.mo rfl<|.mo rfl<|.mo rfl<|.mo rfl ?_
 refine .bW (rr v ys T1 a b _ (.func (.func f) #[] caps.toArray) inferInstance b1 c1 (by omega) (by omega)) (λu T2 k=>?_)
 obtain⟨rfl,N,I,B⟩:=k
 refine .zn<|.region<|.mo rfl ?_
 refine .ia (l-1) .sub ?_
 refine .ag rfl<|.nil ?_
 ·first
   |exact aB (l-1,N,T2) ⟨by simp only;omega,I,B⟩ kE.c.c.c.c.c.c.c.c rH
   |exact aB (l,ys,T1) ⟨by simp only;omega,b1,.refl _⟩ kE.c.c.c.c.c.c.c.c rH
 refine .skip ?_
 ·first
   |exact aB (l-1,N,T2) ⟨by simp only;omega,I,B⟩ kE.c.c.c.c.c.c.c.c rH
   |exact aB (l,ys,T1) ⟨by simp only;omega,b1,.refl _⟩ kE.c.c.c.c.c.c.c.c rH
 intro y hy
 obtain⟨r,N,T2⟩:=y
 obtain⟨s,I,B⟩:=hy
 simp only at s I B⊢
 have f1:=B.length
 have e3:∀x∈N,ok x:=λx W=>b8 x (B.perm.mem_iff.1 W)
 refine aD<|.sr<|.mo rfl<|.mo rfl<|.mo rfl<|.mo rfl ?_
 refine .aM (choose_spec v N a b _ (I.rs λp hp=>.inr (by simpa using hp)) (by omega) (by omega) (by omega) (O.mono λb o hb=>.inl hb) e3) (λu k=>?_)
 obtain⟨pv,d0,rfl,d2,d3⟩:=k
 refine .mo rfl<|.q .extract<|.q .extract<|.ag rfl<|.ag rfl<|.zs ?_
 refine bQ.cut (X:=Nat×Int×List α×ax) (λz=>(a<=z.1/\z.1<b)/\OS (κ.t 60) κ.sz enc v z.2.2.1 z.2.2.2/\RP a b ys z.2.2.1) (λz=>[(0,v),(1,iN a),(2,iN b),(3,iN r),(4,.func (.func f) #[] caps.toArray),(10,.bool wb),(11,.bool wp),(12,.int .i64 ((b-a:Nat):Int)),(13,iN z.1),(14,.int .i64 z.2.1)]) (λz=>[z.2.2.2]) ?_ ?_
 refine .sr<|.mo rfl<|.q .bS<|.zn ?_
 refine .cond rfl (λh4=>?_) λh4=>?_
 refine .sr<|.mo rfl<|.mo rfl<|.mo rfl<|.mo rfl ?_
 refine .bW (sF v N T2 a b _ (.func (.func f) #[] caps.toArray) inferInstance I (by omega) (by omega) (by omega)) (λu T3 k=>?_)
 obtain⟨rfl,ws,c8,c9⟩:=k
 refine .z<|.mo rfl ?_
 refine .ia (b-1) .sub ?_
 refine .mo rfl<|.mo rfl ?_
 refine .ia (pv-a) .sub ?_
 refine .ia ((b-1)-(pv-a)) .sub ?_
 refine .az rfl<|.region<|.ag rfl<|.nil ?_
 ·first
   |exact aB ((b-1)-(pv-a),1,ws,T3) ⟨by simp only;omega,c8,B.trans c9⟩ kE.c.c.c.c.c.c.c.c.c.c rH
   |exact aB (pv,d0,N,T2) ⟨⟨d2,d3⟩,I,B⟩ kE.c.c.c.c.c.c.c.c.c.c rH
 refine .skip ?_
 ·first
   |exact aB ((b-1)-(pv-a),1,ws,T3) ⟨by simp only;omega,c8,B.trans c9⟩ kE.c.c.c.c.c.c.c.c.c.c rH
   |exact aB (pv,d0,N,T2) ⟨⟨d2,d3⟩,I,B⟩ kE.c.c.c.c.c.c.c.c.c.c rH
 intro y hy
 obtain⟨q,f5,us,T4⟩:=y
 obtain⟨⟨c2,c3⟩,b2,C⟩:=hy
 simp only at c2 c3 b2 C⊢
 have f2:=C.length
 have e4:∀x∈us,ok x:=λx W=>b8 x (C.perm.mem_iff.1 W)
 refine aD<|.seq ?_
 refine bQ.cut (X:=List α×ax) (λz=>OS (κ.t 60) κ.sz enc v z.1 z.2/\RP a b ys z.1) (λz=>[(0,v),(1,iN a),(2,iN b),(3,iN r),(4,.func (.func f) #[] caps.toArray),(10,.bool wb),(11,.bool wp),(12,.int .i64 ((b-a:Nat):Int)),(13,iN q)]) (λz=>[z.2]) ?_ ?_
 refine .sr<|.mo rfl<|.mo rfl ?_
 refine .split (t:=69) rfl (λb5=>?_) (λb5=>?_)
 refine .gT b5<|.mo rfl<|.q (.aY b5) ?_
 refine .mo rfl ?_
 refine .split (t:=72) rfl (λa1=>?_) (λa1=>?_)
 refine .gT a1<|.mo rfl<|.gT a1<|.q .bS<|.q (.aY a1) ?_
 refine .zn ?_
 refine .cond rfl (λh5=>?_) λh5=>?_
 refine .sr<|.mo rfl<|.mo rfl<|.mo rfl<|.mo rfl ?_
 refine .bW (sy v us T4 a b _ b2 (by omega) (by omega) (by omega) O e4 D (d1.rp C)) (λu T5 k=>?_)
 obtain⟨ms,mb,rfl,a2,Y,c4⟩:=k
 refine .zn ?_
 refine .cond rfl (λh6=>?_) λh6=>?_
 refine .ret (iW (aL (br (dn (br (aR _ .none rH ?_))))))
 ·first
   |exact⟨_,rfl,rfl,N,I,U.trans (B.mono e g (by omega)),(Z.rp B e g).jX c0⟩
   |exact⟨_,rfl,rfl,ms,a2,U.trans ((C.trans Y).mono e g (by omega)),(Z.rp (C.trans Y) e g).jX (c4 (by assumption))⟩
 refine .skip ?_
 ·first
   |exact aB (ms,T5) ⟨a2,C.trans Y⟩ kE.c.c.c.c.c.c.c.c.c rH
   |exact aB (us,T4) ⟨b2,C⟩ kE.c.c.c.c.c.c.c.c.c rH
 refine .skip ?_
 ·first
   |exact aB (ms,T5) ⟨a2,C.trans Y⟩ kE.c.c.c.c.c.c.c.c.c rH
   |exact aB (us,T4) ⟨b2,C⟩ kE.c.c.c.c.c.c.c.c.c rH
 refine .gF a1<|.gF a1<|.q (.aS a1) ?_
 refine .zn<|.bZ<|.skip ?_
 ·first
   |exact aB (ms,T5) ⟨a2,C.trans Y⟩ kE.c.c.c.c.c.c.c.c.c rH
   |exact aB (us,T4) ⟨b2,C⟩ kE.c.c.c.c.c.c.c.c.c rH
 refine .gF b5<|.q (.aS b5) ?_
 refine .mo rfl<|.gX<|.gX<|.q .bY<|.zn<|.bZ<|.skip ?_
 ·first
   |exact aB (ms,T5) ⟨a2,C.trans Y⟩ kE.c.c.c.c.c.c.c.c.c rH
   |exact aB (us,T4) ⟨b2,C⟩ kE.c.c.c.c.c.c.c.c.c rH
 intro y hy
 obtain⟨a9,T6⟩:=y
 obtain⟨b3,b4⟩:=hy
 simp only at b3 b4⊢
 have f3:=b4.length
 have a8:∀x∈a9,ok x:=λx W=>b8 x (b4.perm.mem_iff.1 W)
 have a3:RP H F xs a9:=U.trans (b4.mono e g (by omega))
 have a5:=Z.rp b4 e g
 have c5:=d1.rp b4
 obtain⟨p,hp⟩:∃x,a9[q]? =some x:=⟨_,bC (by omega)⟩
 have e5:=a8 p (bU hp)
 refine aD<|.seq<|.seq ?_
 refine .df 13 mixed (by kernel_rfl) ?_
 conv=>arg 6;dsimp only[List.take]
 refine .mo rfl<|.q .gtr<|.mo rfl ?_
 refine .split (t:=83) rfl (λi=>?_) (λi=>?_)
 have d5:0<a:=by have:=bx i;omega
 obtain⟨w,hw⟩:∃x,a9[a-1]? =some x:=⟨_,bC (by omega)⟩
 have e6:=a8 w (bU hw)
 refine .gT i<|.mo rfl<|.gT i<|.mo rfl<|.gT i<|.mo rfl<|.gT i ?_
 refine .ia (a-1) .sub ?_
 refine .gT i ?_
 refine .bb (a-1) b3 hw (λf6=>?_)
 refine .gT i<|.q (.bK rfl (cj.h _)) ?_
 refine .gT i<|.mo rfl<|.gT i<|.mo rfl<|.gT i ?_
 refine .bb q b3 hp (λf7=>?_)
 refine .gT i<|.q (.bK rfl (cj.h _)) ?_
 refine .nil<|.gT i ?_
 refine .gK (first:=[]) (captured:=caps) (vs:=[(λp:α=>Value.agg (enc p).toArray) w,(λp:α=>Value.agg (enc p).toArray) p]) (O w p e6 e5 _ (λb o hb=>.inl hb)) (λu k=>?_)
 subst k
 refine .gT i<|.q .lss<|.gT i<|.q .not<|.q (.aY i) ?_
 refine .zn ?_
 refine .cond rfl (λh7=>?_) λh7=>?_
 have e1:aA c w p=false:=by
  have d4:(!aA c w p)=true:=h7
  simpa using d4
 refine .sr<|.mo rfl<|.mo rfl<|.mo rfl<|.mo rfl<|.mo rfl ?_
 refine .bW (sv v a9 T6 a b q p _ b3 (by omega) ⟨c2,c3⟩ hp (by omega) (by omega) O a8 D (c5.wB D d5 hw e1)) (λu Q k=>?_)
 obtain⟨E,j,rfl,S,m,A⟩:=k
 have a7:=A.lo
 have a6:=A.hi
 refine .ag rfl<|.z<|.mo rfl<|.az rfl<|.exit<|bD<|bF ?_
 ·first
   |exact bf (j+1,b,r,_,_,M,G) ⟨⟨by simp only;omega,by simp only;omega,by simp only;omega,s⟩,J,K,L⟩ (by simp only;omega) (((((((kE.d rfl).d rfl).d rfl).d rfl).d rfl).d rfl).d rfl) rH
   |exact bf (a,j,r,_,_,M,G) ⟨⟨e,a7,by simp only;omega,s⟩,J,K,L⟩ (by simp only;omega) (((((((kE.d rfl).d rfl).d rfl).d rfl).d rfl).d rfl).d rfl) rH
   |exact bf (j,b,r,_,_,E,Q) ⟨⟨by simp only;omega,a6,g,s⟩,S,a3.trans (m.mono e g (by omega)),(a5.rp m e g).eqs D A⟩ (by simp only;omega) (((((((kE.d rfl).d rfl).d rfl).d rfl).d rfl).d rfl).d rfl) rH
 refine .kn<|.sr<|.mo rfl<|.mo rfl<|.mo rfl<|.mo rfl<|.mo rfl ?_
 refine .bW (o7 v a9 T6 a b q p _ b3 (by omega) ⟨c2,c3⟩ hp (by omega) (by omega) O a8 D) (λu Q k=>?_)
 obtain⟨E,j,e7,rfl,S,m,A⟩:=k
 have a7:=A.lo
 have a6:=A.hi
 have d9:=m.length
 have b9:∀x∈E,ok x:=λx W=>a8 x (m.perm.mem_iff.1 W)
 have b7:=a5.rp m e g
 have b6:RP H F xs E:=a3.trans (m.mono e g (by omega))
 have c6:=c5.rp m
 refine .mo rfl<|.q .extract<|.q .extract<|.ag rfl<|.ag rfl<|.z<|.mo rfl<|.ag rfl<|.z<|.mo rfl<|.mo rfl ?_
 refine .ia (j-a) .sub ?_
 refine .mo rfl<|.mo rfl ?_
 refine .ia (b-j) .sub ?_
 refine .ag rfl<|.ag rfl<|.z<|.mo rfl ?_
 refine .q (.i64 (((b-a)/8:Nat):Int) .quo ⟨by rw[adG (by omega)];omega,by omega,by omega⟩) ?_
 refine .ag rfl<|.z<|.mo rfl<|.mo rfl<|.q .lss<|.zn ?_
 refine .cond rfl (λh8=>?_) λh8=>?_
 refine .sr<|.mo rfl<|.mo rfl<|.q .geq<|.ag rfl<|.z<|.mo rfl<|.mo rfl<|.mo rfl<|.mo rfl<|.mo rfl ?_
 refine .bW (ih v E Q a j r _ S (by omega) (by omega) (by omega) s O b9 (c6.less (by omega)) (by omega)) (λu G k=>?_)
 obtain⟨rfl,M,J,V,a4⟩:=k
 have L:=b7.left D A V a4 e g (by omega)
 have K:=b6.trans (V.mono e (by omega) (by omega))
 refine .zn<|.region<|.mo rfl ?_
 refine .ia (j+1) .add ?_
 refine .ag rfl<|.nil<|bz ?_
 ·first
   |exact bf (j+1,b,r,_,_,M,G) ⟨⟨by simp only;omega,by simp only;omega,by simp only;omega,s⟩,J,K,L⟩ (by simp only;omega) (((((((kE.d rfl).d rfl).d rfl).d rfl).d rfl).d rfl).d rfl) rH
   |exact bf (a,j,r,_,_,M,G) ⟨⟨e,a7,by simp only;omega,s⟩,J,K,L⟩ (by simp only;omega) (((((((kE.d rfl).d rfl).d rfl).d rfl).d rfl).d rfl).d rfl) rH
   |exact bf (j,b,r,_,_,E,Q) ⟨⟨by simp only;omega,a6,g,s⟩,S,a3.trans (m.mono e g (by omega)),(a5.rp m e g).eqs D A⟩ (by simp only;omega) (((((((kE.d rfl).d rfl).d rfl).d rfl).d rfl).d rfl).d rfl) rH
 refine .sr<|.mo rfl<|.mo rfl<|.q .geq<|.ag rfl<|.z<|.mo rfl<|.mo rfl ?_
 refine .ia (j+1) .add ?_
 refine .mo rfl<|.mo rfl<|.mo rfl ?_
 refine .bW (ih v E Q (j+1) b r _ S (by omega) (by omega) (by omega) s O b9 A.lb (by omega)) (λu G k=>?_)
 obtain⟨rfl,M,J,V,a4⟩:=k
 have L:=b7.right D A V a4 e g (by omega)
 have K:=b6.trans (V.mono (by omega) g (by omega))
 refine .zn<|.region<|.mo rfl<|.ag rfl<|.nil<|bz ?_
 ·first
   |exact bf (j+1,b,r,_,_,M,G) ⟨⟨by simp only;omega,by simp only;omega,by simp only;omega,s⟩,J,K,L⟩ (by simp only;omega) (((((((kE.d rfl).d rfl).d rfl).d rfl).d rfl).d rfl).d rfl) rH
   |exact bf (a,j,r,_,_,M,G) ⟨⟨e,a7,by simp only;omega,s⟩,J,K,L⟩ (by simp only;omega) (((((((kE.d rfl).d rfl).d rfl).d rfl).d rfl).d rfl).d rfl) rH
   |exact bf (j,b,r,_,_,E,Q) ⟨⟨by simp only;omega,a6,g,s⟩,S,a3.trans (m.mono e g (by omega)),(a5.rp m e g).eqs D A⟩ (by simp only;omega) (((((((kE.d rfl).d rfl).d rfl).d rfl).d rfl).d rfl).d rfl) rH
 refine .gF i<|.gF i<|.gF i<|.gF i<|.gF i<|.gF i<|.gF i<|.gF i<|.gF i<|.gF i<|.nil<|.gF i<|.gF i<|.gF i<|.q (.aS i) ?_
 refine .zn<|.bZ<|.kn<|.sr<|.mo rfl<|.mo rfl<|.mo rfl<|.mo rfl<|.mo rfl ?_
 refine .bW (o7 v a9 T6 a b q p _ b3 (by omega) ⟨c2,c3⟩ hp (by omega) (by omega) O a8 D) (λu Q k=>?_)
 obtain⟨E,j,e7,rfl,S,m,A⟩:=k
 have a7:=A.lo
 have a6:=A.hi
 have d9:=m.length
 have b9:∀x∈E,ok x:=λx W=>a8 x (m.perm.mem_iff.1 W)
 have b7:=a5.rp m e g
 have b6:RP H F xs E:=a3.trans (m.mono e g (by omega))
 have c6:=c5.rp m
 refine .mo rfl<|.q .extract<|.q .extract<|.ag rfl<|.ag rfl<|.z<|.mo rfl<|.ag rfl<|.z<|.mo rfl<|.mo rfl ?_
 refine .ia (j-a) .sub ?_
 refine .mo rfl<|.mo rfl ?_
 refine .ia (b-j) .sub ?_
 refine .ag rfl<|.ag rfl<|.z<|.mo rfl ?_
 refine .q (.i64 (((b-a)/8:Nat):Int) .quo ⟨by rw[adG (by omega)];omega,by omega,by omega⟩) ?_
 refine .ag rfl<|.z<|.mo rfl<|.mo rfl<|.q .lss<|.zn ?_
 refine .cond rfl (λh8=>?_) λh8=>?_
 refine .sr<|.mo rfl<|.mo rfl<|.q .geq<|.ag rfl<|.z<|.mo rfl<|.mo rfl<|.mo rfl<|.mo rfl<|.mo rfl ?_
 refine .bW (ih v E Q a j r _ S (by omega) (by omega) (by omega) s O b9 (c6.less (by omega)) (by omega)) (λu G k=>?_)
 obtain⟨rfl,M,J,V,a4⟩:=k
 have L:=b7.left D A V a4 e g (by omega)
 have K:=b6.trans (V.mono e (by omega) (by omega))
 refine .zn<|.region<|.mo rfl ?_
 refine .ia (j+1) .add ?_
 refine .ag rfl<|.nil<|bz ?_
 ·first
   |exact bf (j+1,b,r,_,_,M,G) ⟨⟨by simp only;omega,by simp only;omega,by simp only;omega,s⟩,J,K,L⟩ (by simp only;omega) (((((((kE.d rfl).d rfl).d rfl).d rfl).d rfl).d rfl).d rfl) rH
   |exact bf (a,j,r,_,_,M,G) ⟨⟨e,a7,by simp only;omega,s⟩,J,K,L⟩ (by simp only;omega) (((((((kE.d rfl).d rfl).d rfl).d rfl).d rfl).d rfl).d rfl) rH
   |exact bf (j,b,r,_,_,E,Q) ⟨⟨by simp only;omega,a6,g,s⟩,S,a3.trans (m.mono e g (by omega)),(a5.rp m e g).eqs D A⟩ (by simp only;omega) (((((((kE.d rfl).d rfl).d rfl).d rfl).d rfl).d rfl).d rfl) rH
 refine .sr<|.mo rfl<|.mo rfl<|.q .geq<|.ag rfl<|.z<|.mo rfl<|.mo rfl ?_
 refine .ia (j+1) .add ?_
 refine .mo rfl<|.mo rfl<|.mo rfl ?_
 refine .bW (ih v E Q (j+1) b r _ S (by omega) (by omega) (by omega) s O b9 A.lb (by omega)) (λu G k=>?_)
 obtain⟨rfl,M,J,V,a4⟩:=k
 have L:=b7.right D A V a4 e g (by omega)
 have K:=b6.trans (V.mono (by omega) g (by omega))
 refine .zn<|.region<|.mo rfl<|.ag rfl<|.nil<|bz ?_
 ·first
   |exact bf (j+1,b,r,_,_,M,G) ⟨⟨by simp only;omega,by simp only;omega,by simp only;omega,s⟩,J,K,L⟩ (by simp only;omega) (((((((kE.d rfl).d rfl).d rfl).d rfl).d rfl).d rfl).d rfl) rH
   |exact bf (a,j,r,_,_,M,G) ⟨⟨e,a7,by simp only;omega,s⟩,J,K,L⟩ (by simp only;omega) (((((((kE.d rfl).d rfl).d rfl).d rfl).d rfl).d rfl).d rfl) rH
   |exact bf (j,b,r,_,_,E,Q) ⟨⟨by simp only;omega,a6,g,s⟩,S,a3.trans (m.mono e g (by omega)),(a5.rp m e g).eqs D A⟩ (by simp only;omega) (((((((kE.d rfl).d rfl).d rfl).d rfl).d rfl).d rfl).d rfl) rH
theorem sA(q:SO (aA c))(n:Nat):ot (κ:=κ) (enc:=enc) c ok f caps n:=by
 induction n with
 |zero=>exact λv e T a b d R _ _ _ _ _ _ _ _ r=>by omega
 |succ n ih=>exact λv e T a b d R g h i j k l m o p=>sB n ih q v e T a b d R g h i j k l m o p
end
end SG
namespace SG
section
variable{κ:KD}{α:Type}{enc:α->List Value} [en:cj enc κ.sz]{c:α->α->Int}{ok:α->Prop}{f:FuncId}{caps:List Value} [e:ay prog f]
theorem jK(v:Value)(xs:List α)(T:ax)(R:av)(h:OS (κ.t 60) κ.sz enc v xs T)(k:xs.length<=1000000000)(j:gi prog f caps R (λp:α=>Value.agg (enc p).toArray) c ok)(l:∀x∈xs,ok x)(m:SO (aA c)):
  Spec prog (κ.p 46) [v,.func (.func f) #[] caps.toArray] R [T] λu H'=>∃T',H'=[T']/\u=.tuple #[]/\∃ys,OS (κ.t 60) κ.sz enc v ys T'/\ys.Perm xs/\SR (aA c) ys 0 ys.length:=by
 have s:=h.aw
 have i:Lib.bitLen xs.length<=1000000000:=by
  have r:=bitLen_le 64 xs.length
  have o:Lib.bitLen xs.length=Lib.bitLenAux 64 xs.length:=rfl
  omega
 refine Spec.kc κ.pW rfl results46 ntmps46 rfl ?_
 simp only[cR,oR,jG,adz,adA,ady,adD,adE,adF,κ.t0,κ.t3,κ.t4,κ.t27,κ.t143,κ.t167,κ.t210,κ.t211,κ.t247,κ.t251,κ.t290,κ.iM,κ.iO,κ.iP]
 refine .sr<|.mo rfl<|.q (.ec h) ?_
 refine .az rfl<|.region<|.mo rfl<|.mo rfl<|.mo rfl ?_
 refine .q (aP.cast (v':=.int .u64 ((xs.length:Nat):Int)) .hE (by rw[nn (by omega) (by omega)])) ?_
 refine .aM (sb xs.length (by omega) _) (λu a=>?_)
 subst a
 refine .mo rfl ?_
 refine .bW (sA m (xs.length+1) v xs T 0 xs.length (Lib.bitLen xs.length) _ h (Nat.zero_le _) (adx _) k i j l (λd=>absurd d (by omega)) (by omega)) (λu n a=>?_)
 obtain⟨rfl,ys,e,b,g⟩:=a
 refine .nil<|eh _ .none rH ?_
 ·exact⟨_,rfl,rfl,ys,e,b.perm,b.length▸g⟩
end
end SG
namespace SCL
def kd:KD where
 t:=λx=>cond (Nat.beq x 51) 33<|cond (Nat.beq x 60) 25<|cond (Nat.beq x 105) 177<|x
 p:=λx=>cond (Nat.beq x 46) 130<|cond (Nat.beq x 176) 238<|cond (Nat.beq x 177) 239<|cond (Nat.beq x 175) 237<|cond (Nat.beq x 174) 236<|cond (Nat.beq x 218) 276<|cond (Nat.beq x 219) 277<|cond (Nat.beq x 268) 293<|cond (Nat.beq x 179) 241<|cond (Nat.beq x 181) 243<|cond (Nat.beq x 180) 242<|cond (Nat.beq x 118) 188<|cond (Nat.beq x 178) 240<|cond (Nat.beq x 215) 275<|x
 sz:=4
 u1:=(inferInstance:bP prog 33 (.slice 25))
 u2:=(inferInstance:Sz prog 25 4)
 u3:=(inferInstance:dj prog 25 true)
 t0:=rfl
 t3:=rfl
 t4:=rfl
 t27:=rfl
 t143:=rfl
 t167:=rfl
 t210:=rfl
 t211:=rfl
 t247:=rfl
 t251:=rfl
 t290:=rfl
 iM:=rfl
 iO:=rfl
 iP:=rfl
 oD:=(inferInstance:ay prog 238)
 oE:=(inferInstance:ay prog 239)
 oC:=(inferInstance:ay prog 237)
 oB:=(inferInstance:ay prog 236)
 oK:=(inferInstance:ay prog 276)
 oL:=(inferInstance:ay prog 277)
 oM:=(inferInstance:ay prog 293)
 oG:=(inferInstance:ay prog 241)
 oI:=(inferInstance:ay prog 243)
 oH:=(inferInstance:ay prog 242)
 oA:=(inferInstance:ay prog 188)
 oF:=(inferInstance:ay prog 240)
 oJ:=(inferInstance:ay prog 275)
 pW:=⟨f130,func130,by kernel_rfl,by kernel_rfl,by kernel_rfl⟩
 pL:=⟨f238,func238,by kernel_rfl,by kernel_rfl,by kernel_rfl⟩
 pM:=⟨f239,func239,by kernel_rfl,by kernel_rfl,by kernel_rfl⟩
 pK:=⟨f237,func237,by kernel_rfl,by kernel_rfl,by kernel_rfl⟩
 pJ:=⟨f236,func236,by kernel_rfl,by kernel_rfl,by kernel_rfl⟩
 pS:=⟨f276,func276,by kernel_rfl,by kernel_rfl,by kernel_rfl⟩
 pU:=⟨f277,func277,by kernel_rfl,by kernel_rfl,by kernel_rfl⟩
 pV:=⟨f293,func293,by kernel_rfl,by kernel_rfl,by kernel_rfl⟩
 pO:=⟨f241,func241,by kernel_rfl,by kernel_rfl,by kernel_rfl⟩
 pQ:=⟨f243,func243,by kernel_rfl,by kernel_rfl,by kernel_rfl⟩
 pP:=⟨f242,func242,by kernel_rfl,by kernel_rfl,by kernel_rfl⟩
 pI:=⟨f188,func188,by kernel_rfl,by kernel_rfl,by kernel_rfl⟩
 pN:=⟨f240,func240,by kernel_rfl,by kernel_rfl,by kernel_rfl⟩
 pR:=⟨f275,func275,by kernel_rfl,by kernel_rfl,by kernel_rfl⟩
instance:cj eb kd.sz:=⟨λ_=>rfl⟩
section
variable{c:CP->CP->Int}{ok:CP->Prop}{f:FuncId}{caps:List Value} [e:ay prog f]
theorem jK(v:Value)(xs:List CP)(T:ax)(R:av)(h:OS 25 4 eb v xs T)(b:xs.length<=1000000000)(a:gi prog f caps R (λp:CP=>Value.agg (eb p).toArray) c ok)(d:∀x∈xs,ok x)(e:SO (aA c)):
  Spec prog 130 [v,.func (.func f) #[] caps.toArray] R [T] λu H'=>∃T',H'=[T']/\u=.tuple #[]/\∃ys,OS 25 4 eb v ys T'/\ys.Perm xs/\SR (aA c) ys 0 ys.length:=by
 exact SG.jK (κ:=kd) (enc:=eb) v xs T R h b a d e
end
end SCL
def nz(M:List (ByteArray×CP))(k:ByteArray):bA:=((aU k M).map (·.2)).getD bA.zero
theorem Kc{M:List (ByteArray×CP)}(a:(M.map (·.1)).Nodup):(M.map (·.1)).map (nz M)=M.map (·.2.2):=by
 rw[List.map_map]
 refine List.map_congr_left λp b=>?_
 have:aU p.1 M=some p.2:=gC a (by exact b)
 simp[nz,this]
theorem Ac(g:Nat)(A:List bA)(T:ax)(h:RI g A T)(hl:A.length<=1000000)(R:av)(w:∀p∈T,R p.1 p.2):
  Spec prog 58 [pT g] R [] λv H'=>∃T',H'=[T']/\∃ps To Ti,T'=To++Ti/\OS 25 4 eb v ps To/\(∀p∈ps,eV (sg Ti) p.1 p.2)/\(ps.map (·.2)).Perm A/\ps.Pairwise (λp q=>aA fV q p=false):=by
 obtain⟨vm,M,Tm,G,rfl,i,hI,H⟩:=h
 obtain⟨d,rfl⟩:∃b,vm=.map (some b):=by obtain⟨b,es,clock,h1,_⟩:=i;exact⟨b,h1⟩
 have pq:PC R (pT g) [.map (some d)]:=PC.of (E:=127) (fr:=(0,0)) (w (g,.cells [.map (some d)].toArray 127 (0,0)) (by simp))
 have rm:RM R (λs:ByteArray=>.string s) (λp:CR×bA=>.agg p.1.cells.toArray) (.map (some d)) M:=i.rm λp hp=>w p (by simp[hp])
 have hT:∀b o,sg G b o->R b o:=λb o a=>w (b,o) (by have:(b,o)∈G:=a;simp[this])
 have b0:M.length=A.length:=by simpa using H.length_eq
 refine Spec.dg (H':=[[],[]]) (by simp) ?_
 refine Spec.body func58 rfl results58 ntmps58 rfl ?_
 refine .sr<|.ag rfl<|.zs<|.sr<|.mo rfl ?_
 refine .aM (qj g d _) (λv B=>?_)
 subst B
 refine .q .not<|.zn<|.bZ<|.kn<|.sr<|.ag rfl<|.zs<|.sr<|.mo rfl<|.nc rfl<|.fa rfl<|.lo rfl ?_
 refine .range rm (λ_ _=>.inl) rfl (λU Z a5=>?_)
 refine .zn<|.block ?_
 refine .loop (X:=List CP×List ByteArray×Value×ax×ax×ax) (λy=>(∀p∈y.1,eV (sg y.2.2.2.2.1) p.1 p.2)/\y.2.1.Nodup/\(y.1.map (·.2)++y.2.1.map (nz M)).Perm A/\OS 25 4 eb y.2.2.1 y.1 y.2.2.2.1/\It R (λs:ByteArray=>.string s) (λp:CR×bA=>.agg p.1.cells.toArray) (.map (some d)) M U y.2.1 y.2.2.2.2.2) (λy=>[(0,pT g),(3,y.2.2.1),(13,U)]) (λy=>[y.2.2.2.2.2,y.2.2.2.1,y.2.2.2.2.1]) (λy=>y.2.1.length) ([],M.map (·.1),sZ,[],[],Z) ⟨by simp,i.nd,by rw[Kc i.nd];exact H,OS.nil,a5⟩ kE.c.c.c rH ?_
 rintro⟨ps,a8,vo,To,m,Ti⟩ ⟨l,t,f,j,L⟩
 simp only at l t f j L⊢
 have i2:=j.aw
 have Q:=f.length_eq
 simp only[List.length_append,List.length_map]at Q
 refine .sr ?_
 refine .nf L (λ_ _=>.inl) rfl (λb rest a0 hf ht=>?_)
 refine .q .extract<|.zs ?_
 refine .cond rfl (λn=>?_) λn=>?_
 obtain⟨k,⟨C,e⟩,hk,O,N⟩:=ht n
 obtain⟨_,J,a2⟩:=hI (k,(C,e)) (fH O)
 have i3:bJ C.cells:=⟨J.bG⟩
 have a4:nz M k=e:=by simp[nz,O]
 have K:=filter_one t hk
 refine .kn<|.block<|.sr ?_
 refine .q (.entry N (λ_ _=>.inl) rfl) ?_
 refine .q .extract ?_
 refine .cN (λb5=>?_)
 refine .ct rfl rfl<|.zn<|.region<|.mo rfl<|.q (.bK rfl) ?_
 refine .da (rC C e _ (J.mono λb o a=>.inl (hT b o a)) a2) (λv W B=>?_)
 obtain⟨D,rfl,r⟩:=B
 have i4:bJ D.cells:=⟨r.bG⟩
 refine .fP (λa9=>?_)
 refine .append j (RS.lits (xs:=[(D,e)]) rfl (by simp[eb,CR.cells]) (by have:=r.bG;simpa[eb]using this)) (by simp;omega) (λv5 Y a1=>?_)
 refine .ag rfl<|.nil<|bz ?_
 ·refine bf (ps++[(D,e)],a8.filter λk'=>decide (k'≠k),v5,Y,W++m,a0) ⟨λp hp=>?_,t.sublist List.filter_sublist,?_,a1,N.it⟩ ?_ kE.c.c.c ((aI [3,3,1,2]).trans (aT.bu (by simp[take,aZ])))
  ·simp only
   rcases List.mem_append.1 hp with hp|hp
   ·exact(l p hp).mono λb o a=>kU a
   ·simp only[List.mem_singleton]at hp;subst hp
    exact r.mono λb o a=>mP a
  ·simp only
   refine List.Perm.trans ?_ f
   rw[ady,List.append_assoc]
   refine List.Perm.append_left _ ?_
   have:=(K.map (nz M)).symm
   rw[adz,a4]at this
   exact this
  ·have:=K.length_eq
   simp only[List.length_cons]at this
   simp only;omega
 have a7:=hf n
 subst a7
 simp only[adA,List.append_nil]at f
 have a3:gi prog 131 [] R (λp:CP=>Value.agg (eb p).toArray) fV q9:=λx y hx hy V _=>zV x y V hx hy
 refine .exit<|bD<|bH<|bF<|aD<|.sr<|.mo rfl ?_
 refine .bW (SCL.jK (caps:=[]) vo ps To _ j (by simp at Q;omega) a3 (λp hp=>(l p hp).bG) uw) (λu F hu=>?_)
 obtain⟨rfl,ys,I,S,a6⟩:=hu
 have i5:=I.aw
 refine .z<|.mo rfl<|.az rfl ?_
 refine .ret (aR _ (.one (.tmp rfl)) ((aI [1,1]).trans (aT.bu (H':=[F++m]) (by simp[take,aZ]))) ?_)
 ·exact⟨_,rfl,ys,F,m,rfl,I,λp hp=>l p (S.mem_iff.1 hp),(S.map _).trans f,a6.ordered⟩
theorem xS{c d:bA}:mu c d=true↔c=d:=by
 obtain⟨a,b,e,f⟩:=c
 obtain⟨g,h,i,j⟩:=d
 simp[mu,and_assoc]
instance Pe:DecidableEq bA:=λa b=>decidable_of_iff (mu a b=true) xS
theorem M8(c d:bA):mu c d=decide (c=d):=by
 rw[Bool.eq_iff_iff,xS,decide_eq_true_eq]
def CL(R:av)(ps:List CP):Prop:=∀p∈ps,eV R p.1 p.2
theorem CL.mono{R R':av}{ps:List CP}(h:CL R ps)(c:∀b o,R b o->R' b o):CL R' ps:=λp a=>(h p a).mono c
abbrev cQ(ps:List CP):List bA:=ps.map (·.2)
theorem M6(v w:Value)(ps qs:List CP)(R:av)(h:RS R 4 eb v ps)(r:RS R 4 eb w qs)(t:CL R ps)(x:CL R qs):
  Spec prog 56 [v,w] R [] λu H'=>u=.bool (decide (cQ ps=cQ qs))/\H'=[]:=by
 have E:=h.le
 refine Spec.body func56 rfl results56 ntmps56 rfl ?_
 refine .sr<|.ag rfl<|.zs<|.sr<|.mo rfl<|.q (.dl h) ?_
 refine .mo rfl<|.q (.dl r) ?_
 refine .q .dL<|.zn ?_
 refine .cond rfl (λg=>?_) λg=>?_
 refine .sr<|.az rfl ?_
 refine .ret (aL (aO rfl ?_))
 ·exact⟨by rw[decide_eq_false (λe:cQ ps=cQ qs=>by have:=congrArg List.length e;simp[cQ]at this;simp[this]at g)],rfl⟩
 have F:ps.length=qs.length:=by simp at g;omega
 refine .kn<|.seq<|.sr<|.az rfl<|.block ?_
 refine .loop (X:=Nat) (λi=>i<=ps.length/\cQ (ps.take i)=cQ (qs.take i)) (λi=>[(0,v),(1,w),(5,iN i)]) (λ_=>[]) (λi=>ps.length-i) 0 ⟨by omega,by simp⟩ kE.c.c.c rH ?_
 rintro i ⟨D,a⟩
 refine .seq<|.sr<|.mo rfl<|.mo rfl<|.q (.dl h) ?_
 refine .q .lss<|.zn ?_
 refine .cond rfl (λj=>?_) λj=>?_
 have B:i<ps.length:=by simp at j;omega
 obtain⟨z,f⟩:=dN B
 obtain⟨y,d⟩:∃y,qs[i]? =some y:=⟨_,bC (by omega)⟩
 have p:=t z (bU f)
 have n:=x y (bU d)
 have H:bJ (eb z):=⟨p.bG⟩
 have G:bJ (eb y):=⟨n.bG⟩
 refine .kn<|.seq<|.block<|.seq ?_
 refine .df 8 mixed (by kernel_rfl) ?_
 conv=>arg 6;dsimp only[List.take]
 refine .mo rfl<|.mo rfl ?_
 refine .cu i h f (λI=>?_)
 refine .q (.bK rfl)<|.mo rfl<|.mo rfl ?_
 refine .cu i r d (λJ=>?_)
 refine .q (.bK rfl)<|.nil ?_
 refine .aM (M9 z.1 y.1 z.2 y.2 _ (p.mono λb o m=>.inl m) (n.mono λb o m=>.inl m)) (λu s=>?_)
 rw[M8]at s
 subst s
 refine .q .not<|.zn ?_
 refine .cond rfl (λk=>?_) λk=>?_
 refine .sr<|.az rfl ?_
 refine .ret (br (aL (dn (br (aL (aO rfl ?_))))))
 ·refine⟨?_,rfl⟩
  have C:z.2≠y.2:=by simpa using k
  rw[decide_eq_false (λe:cQ ps=cQ qs=>C (by
   have:=congrArg (λl:List bA=>l[i]?) e
   simp only[cQ,List.getElem?_map,f,d,Option.map_some,Option.some.injEq]at this
   exact this))]
 refine .skip<|bz<|aD<|.region<|.mo rfl ?_
 refine .ia (i+1) .add ?_
 refine .ag rfl<|.nil ?_
 ·exact bf (i+1) ⟨by omega,by
   have e:z.2=y.2:=by simpa using k
   simp only[cQ]at a⊢
   rw[List.take_add_one,List.take_add_one,ady,ady,a,f,d]
   simp[e]⟩ (by omega) kE.c.c.c rH
 refine .exit<|bD<|bH<|bF<|aD<|.sr<|.az rfl ?_
 refine .ret (aO rfl ?_)
 ·refine⟨?_,rfl⟩
  have A:i=ps.length:=by simp at j;omega
  rw[A,List.take_length,List.take_of_length_le (by omega)]at a
  rw[decide_eq_true a]
theorem zE{A:List bA}{c:bA}(h:(dT A c).1=0):(dT A c).2=A++[c]/\c.check=0/\A.length<64:=by
 unfold dT at h⊢
 split at h
 ·rename_i a;exact absurd h a
 ·rename_i a
  split at h
  ·simp at h
  ·rename_i b
   split at h
   ·simp at h
   ·rename_i d
    rw[if_neg a,if_neg b,if_neg d]
    exact⟨rfl,by simpa using a,by omega⟩
theorem zG(f:FuncId)(caps:List Value) [e:ay prog f](q:ByteArray->Bool)(s:ByteArray)(b:Nat)(R:av)(a:PC R (pT b) [.func (.func f) #[] caps.toArray])(c:∀R',(∀b o,R b o->R' b o)->Spec prog f (.string s::caps) R' [] λu H'=>u=.bool (q s)/\H'=[]):
  Spec prog 197 [.string s,pT b] R [] λu H'=>u=.bool (!q s)/\H'=[]:=by
 refine Spec.body func197 rfl results197 ntmps197 rfl ?_
 refine .sr<|.ag rfl<|.z<|.lo rfl<|.mo rfl ?_
 refine .gK (first:=[]) (captured:=caps) (vs:=[.string s]) (c _ λb o a=>.inl a) (λu d=>?_)
 subst d
 refine .q .not<|.az rfl ?_
 refine .ret (aO rfl ?_)
 ·exact⟨rfl,rfl⟩
theorem zI(f:FuncId)(caps:List Value) [e:ay prog f](n:One (.func (.func f) #[] caps.toArray))(q:ByteArray->Bool)(v:Value)(l:List ByteArray)(R:av)(h:RS R 1 bB v l)(j:∀s∈l,∀R',(∀b o,R b o->R' b o)->Spec prog f (.string s::caps) R' [] λu H'=>u=.bool (q s)/\H'=[]):
  Spec prog 142 [v,.func (.func f) #[] caps.toArray] R [] λu H'=>u=.bool (l.all q)/\H'=[]:=by
 refine Spec.body func142 rfl results142 ntmps142 rfl ?_
 refine .sr ?_
 refine .ko rfl (λa=>?_)
 refine .ag rfl<|.z<|.mo rfl<|.q .makeFunc ?_
 refine .aM (sL 197 [pT a] (λs=> !q s) v l _ h.rx λs k R' c=>zG f caps q s a R' (PC.of (E:=135) (fr:=(0,0)) (c _ _ (.inr (by simp)))) (λd g=>j s k d λb o i=>g b o (c b o (.inl i)))) (λu m=>?_)
 subst m
 refine .q .not<|.az rfl ?_
 refine .ret (aO rfl ?_)
 ·exact⟨by congr 1;rw[List.all_eq_not_any_not],rfl⟩
theorem ze(r:CR)(c:bA)(b:Nat)(s:ByteArray)(R:av)(a:eV R r c)(j:PC R (pT b) r.cells):
  Spec prog 143 [.string s,pT b] R [] λu H'=>u=.bool (decide (s∈c.scopes))/\H'=[]:=by
 obtain⟨g,h,i,e⟩:=r
 have d:=a.s
 have m:bJ (CR.cells ⟨g,h,i,e⟩):=⟨a.bG⟩
 have k:=a.u.aw
 have l:=d.aw
 refine Spec.body func143 rfl results143 ntmps143 rfl ?_
 refine .sr<|.ag rfl<|.z<|.fa rfl<|.lo rfl<|.mo rfl ?_
 refine .aM (qR e c.scopes s _ d.rx) (λu f=>?_)
 subst f
 refine .az rfl ?_
 refine .ret (aO rfl ?_)
 ·exact⟨rfl,rfl⟩
def kp(id uri:ByteArray)(A:List bA):Bool:=decide (uri∈((cw id A).getD bA.zero).cm)
def eL(id:ByteArray)(l:List ByteArray)(A:List bA):Bool:=(cw id A).isSome&&(decide (0<l.length)&&(decide l.Nodup&&l.all λs=>decide (s∈((cw id A).getD bA.zero).scopes)))
theorem Al(g:Nat)(A:List bA)(T:ax)(h:RI g A T)(id e:ByteArray)(R:av)(n:∀p∈T,R p.1 p.2):
  Spec prog 147 [pT g,.string id,.string e] R [] λv H'=>v=.bool (kp id e A)/\H'=[]:=by
 refine Spec.body func147 rfl results147 ntmps147 rfl ?_
 refine .sr<|.ag rfl<|.z<|.mo rfl<|.mo rfl ?_
 refine .da (qh g A T h id _ λp m=>.inl (n p m)) (λv i r=>?_)
 obtain⟨f,rfl,d⟩:=r
 have y:bJ f.cells:=⟨d.bG⟩
 obtain⟨D,E,w,F⟩:=f
 have c:=d.u
 have B:=c.aw
 have C:=d.s.aw
 refine .mo rfl<|.q .extract<|.q .extract ?_
 refine .cN (λx=>?_)
 refine .ct rfl rfl<|.ag rfl<|.z<|.mo rfl<|.mo rfl ?_
 refine .split (t:=16) rfl (λa=>?_) (λa=>?_)
 refine .gT a<|.fa rfl<|.gT a<|.lo rfl<|.gT a<|.mo rfl<|.gT a ?_
 refine .aM (qR w _ e _ (c.mono λb o j=>.inr (by have k:(b,o)∈i:=j;simp[k]))) (λu c=>?_)
 subst c
 refine .q (.aY a) ?_
 refine .az rfl ?_
 refine .ret (aO rfl ?_)
 ·exact⟨rfl,rfl⟩
 refine .gF a<|.gF a<|.gF a<|.gF a<|.q (.aS a) ?_
 refine .az rfl ?_
 refine .ret (aO rfl ?_)
 ·refine⟨?_,rfl⟩
  have l:cw id A=none:=by simpa using a
  simp[kp,l,bA.zero]
theorem ui(g:Nat)(A:List bA)(T:ax)(h:RI g A T)(id:ByteArray)(w:Value)(l:List ByteArray)(R:av)(G:∀p∈T,R p.1 p.2)(i:RS R 1 bB w l):
  Spec prog 71 [pT g,.string id,w] R [] λv H'=>v=.bool (eL id l A)/\H'=[]:=by
 have J:=i.aw
 refine Spec.body func71 rfl results71 ntmps71 rfl ?_
 refine .sr<|.ag rfl<|.z<|.mo rfl<|.mo rfl ?_
 refine .da (qh g A T h id _ λp F=>.inl (G p F)) (λv x H=>?_)
 obtain⟨n,rfl,f⟩:=H
 have K:bJ n.cells:=⟨f.bG⟩
 have D:=f
 obtain⟨N,O,S,Q⟩:=n
 have L:=f.u.aw
 have M:=f.s.aw
 refine .mo rfl<|.q .extract<|.q .extract ?_
 refine .cN (λk=>?_)
 refine .ct rfl rfl<|.ag rfl<|.z<|.mo rfl<|.mo rfl ?_
 refine .split (t:=16) rfl (λa=>?_) (λa=>?_)
 refine .gT a<|.mo rfl<|.gT a<|.q (.dl i) ?_
 refine .gT a<|.q .gtr<|.q (.aY a) ?_
 refine .mo rfl ?_
 refine .split (t:=21) rfl (λd=>?_) (λd=>?_)
 refine .gT d<|.mo rfl<|.gT d ?_
 refine .aM (rJ w l _ i.rx) (λu j=>?_)
 subst j
 refine .q (.aY d) ?_
 refine .mo rfl ?_
 refine .split (t:=25) rfl (λc=>?_) (λc=>?_)
 refine .gT c<|.mo rfl<|.gT c<|.q .makeFunc<|.gT c ?_
 refine .aM (zI 143 [pT k] inferInstance (λs=>decide (s∈((cw id A).getD bA.zero).scopes)) w l _ i.rx λs I r m=>ze _ _ k s r (D.mono λb o B=>m b o (.inr (by have C:(b,o)∈x:=B;simp[C]))) (PC.of (E:=25) (fr:=(0,0)) (m _ _ (.inr (by simp[cc,CR.cells]))))) (λu j=>?_)
 subst j
 refine .q (.aY c) ?_
 refine .az rfl ?_
 refine .ret (aO rfl ?_)
 ·refine⟨?_,rfl⟩
  unfold eL
  have:decide (0<l.length)=true:=by
   have y:=bx d
   exact decide_eq_true (by omega)
  rw[a,this,c];rfl
 have e:eL id l A=false:=by unfold eL;rw[c,Bool.false_and,Bool.and_false,Bool.and_false]
 refine .gF c<|.gF c<|.gF c<|.q (.aS c) ?_
 refine .az rfl ?_
 refine .ret (aO rfl ?_)
 ·exact⟨by rw[e],rfl⟩
 have e:eL id l A=false:=by
  unfold eL
  have:decide (0<l.length)=false:=by
   have y:=bo d
   exact decide_eq_false (by omega)
  rw[this,Bool.false_and,Bool.and_false]
 refine .gF d<|.gF d<|.q (.aS d) ?_
 refine .mo rfl<|.gX<|.gX<|.gX<|.q .bY<|.az rfl ?_
 refine .ret (aO rfl ?_)
 ·exact⟨by rw[e],rfl⟩
 have e:eL id l A=false:=by unfold eL;rw[a];rfl
 refine .gF a<|.gF a<|.gF a<|.q (.aS a) ?_
 refine .mo rfl<|.gX<|.gX<|.q .bY<|.mo rfl<|.gX<|.gX<|.gX<|.q .bY<|.az rfl ?_
 refine .ret (aO rfl ?_)
 ·exact⟨by rw[e],rfl⟩
end Go.Proofs.YtkkmbiojicgobaaGreatDoor
