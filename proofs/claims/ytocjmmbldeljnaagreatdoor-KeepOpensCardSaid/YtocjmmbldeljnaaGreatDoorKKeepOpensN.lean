/- What the law 'KeepOpens' uses. No condition. -/
import Derived.Test.YtocjmmbldeljnaaGreatDoorKKeepOpensB
import Derived.Test.YtocjmmbldeljnaaGreatDoorKKeepOpensF
import Derived.Test.YtocjmmbldeljnaaGreatDoorKKeepOpensH
import Derived.Test.YtocjmmbldeljnaaGreatDoorKKeepOpensM
set_option linter.unusedSimpArgs false
set_option linter.unusedVariables false
namespace Go.Proofs.YtocjmmbldeljnaaGreatDoor
set_option linter.defProp false
def adV:=@Nat.le_refl
def adW:=@List.getElem?_eq_some_iff
def adX:=@List.length_set
def adY:=@if_neg
def adZ:=@List.map_cons
def ad0:=@List.map_nil
def ad1:=@List.map_append
def ad2:=@List.cons_append
def ad3:=@List.nil_append
def ad4:=@List.toList_toArray
def ad5:=@Int.tdiv_eq_ediv_of_nonneg
def ad6:=@if_pos
def ad7:=@List.length_drop
def ad8:=@Bool.and_eq_true
def ad9:=@List.filter_cons
def aea:=@Nat.lt_or_ge
def aeb:=@decide_eq_true_eq
open Tryz
set_option linter.unusedVariables false
set_option maxRecDepth 4000
theorem uB:∀(f x:Nat),x<2^f->x≠0->2^Lib.bitLenAux f x<=2*x/\x<2^Lib.bitLenAux f x
 |0,x,h,h0=>by simp at h;omega
 |f+1,x,h,h0=>by
  unfold Lib.bitLenAux
  rw[adY h0]
  by_cases a:x/2=0
  ·have:x=1:=by omega
   subst this
   have:Lib.bitLenAux f (1/2)=0:=by cases f<;>simp[Lib.bitLenAux]
   rw[this];omega
  ·have b:=uB f (x/2) (by rw[Nat.pow_succ]at h;omega) a
   rw[Nat.add_comm,Nat.pow_succ]
   omega
theorem bitLen_le:∀(f x:Nat),Lib.bitLenAux f x<=f
 |0,x=>by simp[Lib.bitLenAux]
 |f+1,x=>by
  unfold Lib.bitLenAux
  split
  ·omega
  ·have:=bitLen_le f (x/2);omega
theorem sM(n:Nat)(h:n<2^63)(R:ao):Spec prog 284 [.int .u64 n] R [] λv H'=>v=.int .i64 (Lib.bitLen n:Nat)/\H'=[]:=by
 have:=Spec.qE (λw=>zv (n:Int) w (by omega) (by omega)) R
 simpa using this
theorem xv(n:Nat)(b:n≠0)(h:n<=1000000000)(R:ao):Spec prog 448 [.int .i64 n] R [] λv H'=>(∃m:Nat,v=.int .u64 m/\n<m/\m<=2*n)/\H'=[]:=by
 have a:=uB 64 n (by omega) b
 have g:=bitLen_le 64 n
 refine Spec.body func448 rfl results448 ntmps448 rfl ?_
 refine .sr<|.ag rfl<|.z<|.mo rfl ?_
 refine .q (aI.cast (v':=.int .u64 (n:Nat)) .fv (by rw[na (by omega) (by omega)])) ?_
 refine .aH (sM n (by omega) _) (λv d=>?_)
 subst d
 refine .q (aI.cast (v':=.int .u64 ((2^Lib.bitLen n:Nat):Int)) (.lP) (by
  have e:min ((Lib.bitLen n:Nat):Int).toNat IntKind.u64.bits=Lib.bitLen n:=by
   unfold Lib.bitLen;simp[IntKind.bits];omega
  rw[e,Int.one_mul,na]
  ·congr 1
  ·exact Int.le_of_lt (Int.pow_pos (by omega))
  ·have f:(2^Lib.bitLen n:Nat)<=2*n:=a.1
   have c:((2:Int)^Lib.bitLen n)=((2^Lib.bitLen n:Nat):Int):=by push_cast;rfl
   rw[c];omega)) ?_
 refine .az rfl ?_
 refine .ret (aW rfl ?_)
 ·exact⟨⟨2^Lib.bitLen n,rfl,a.2,a.1⟩,rfl⟩
theorem xY(b:Nat)(z:Int)(R:ao):Spec prog 449 [pT b] R [bl b [.int .u64 z] 565] λv H'=>∃T',H'=[T']/\∃z',v=.int .u64 z'/\T'=(bl b [.int .u64 z'] 565):=by
 refine Spec.body func449 rfl results449 ntmps449 rfl ?_
 refine .sr<|.ag rfl<|.zs ?_
 refine .cM 9 mixed (by kernel_rfl) ?_
 conv=>arg 6;dsimp only[List.take]
 refine .mo rfl<|.nc rfl<|.lo rfl<|.mo rfl ?_
 refine .nc rfl<|.lo rfl<|.q .lP<|.q .rr<|.nc rfl<|.nil<|.ca rfl rfl<|.zs ?_
 refine .cM 9 mixed (by kernel_rfl) ?_
 conv=>arg 6;dsimp only[List.take]
 refine .mo rfl<|.nc rfl<|.lo rfl<|.mo rfl ?_
 refine .nc rfl<|.lo rfl<|.q .pI<|.q .rr<|.nc rfl<|.nil<|.ca rfl rfl<|.zs ?_
 refine .cM 9 mixed (by kernel_rfl) ?_
 conv=>arg 6;dsimp only[List.take]
 refine .mo rfl<|.nc rfl<|.lo rfl<|.mo rfl ?_
 refine .nc rfl<|.lo rfl<|.q .lP<|.q .rr<|.nc rfl<|.nil<|.ca rfl rfl<|.z<|.mo rfl<|.nc rfl<|.lo rfl<|.az rfl ?_
 refine .ret (aO _ (.one (.tmp rfl)) rH ?_)
 ·exact⟨_,rfl,_,rfl,rfl⟩
set_option linter.unusedSimpArgs false
def iW(t:TypeId->TypeId)(p:FuncId->FuncId):Op->Op
 | .move x=>.move x
 | .assign x=>.assign x
 | .pick c a b=>.pick c a b
 | .extract x i=>.extract x i
 | .nilCheck x=>.nilCheck x
 | .alloc e=>.alloc (t e)
 | .load e a=>.load (t e) a
 | .store e a v=>.store (t e) a v
 | .binOp o x a b y=>.binOp o (t x) a b (t y)
 | .unOp o x a=>.unOp o (t x) a
 | .convert s d x=>.convert (t s) (t d) x
 | .indexAddr e x i=>.indexAddr (t e) x i
 | .call ⟨.value (.func f),xs,ts⟩=>.call ⟨.value (.func (p f)),xs,(ts.toList.map t).toArray⟩
 | .call ⟨.value (.tmp f),xs,ts⟩=>.call ⟨.value (.tmp f),xs,(ts.toList.map t).toArray⟩
 | .call ⟨.builtin b,xs,ts⟩=>.call ⟨.builtin b,xs,(ts.toList.map t).toArray⟩
 |o=>o
def oR(t:TypeId->TypeId)(p:FuncId->FuncId)(o:Oper):Oper:=⟨o.dst,iW t p o.op,t o.type,o.pos,o.after,o.guard⟩
def cR(t:TypeId->TypeId)(p:FuncId->FuncId):Code->Code
 | .skip=>.skip
 | .region i l d=>.region i (l.toList.map (oR t p)).toArray d
 | .seq a b=>.seq (cR t p a) (cR t p b)
 | .cond c a b=>.cond c (cR t p a) (cR t p b)
 | .block i a=>.block i (cR t p a)
 | .loop a=>.loop (cR t p a)
 | .exit i=>.exit i
 | .ret=>.ret
 |c=>c
structure Twin(P:Program)(t:TypeId->TypeId)(p:FuncId->FuncId)(k:FuncId)(fn:Func):Prop where
 h:∃gn,P.funcs[p k]? =some gn/\gn.body=fn.body.map (cR t p)/\gn.results=fn.results/\gn.ntmps=fn.ntmps
theorem Spec.js{P:Program}{N:Nat}{t:TypeId->TypeId}{p:FuncId->FuncId}{k:FuncId}{a:Func}{c:Code}{b:List Value}{R:ao}{H:aF}{rs:List ResultVar}{Post:Value->aF->Prop}(w:Twin P t p k a)(j:a.body=some c)(m:a.results=rs.toArray)(l:a.ntmps=N)(i:Nat.ble b.length N=true)
  (h:bF P N R (cR t p c) (nE 0 b) H (pF P R rs Post)):Spec P (p k) b R H Post:=by
 obtain⟨n,d,e,f,g⟩:=w.h
 exact Spec.body d (by rw[e,j];rfl) (by rw[f,m]) (by rw[g,l]) i h
class bH{α:Type}(enc:α->List Value)(n:Nat):Prop where h:∀z,(enc z).length=n
structure KD where
 t:TypeId->TypeId
 p:FuncId->FuncId
 sz:Nat
 u1:bh prog (t 145) (.slice (t 144))
 u2:Sz prog (t 144) sz
 u3:bV prog (t 144) true
 t0:t 0=0
 t3:t 3=3
 t4:t 4=4
 t28:t 28=28
 t197:t 197=197
 t232:t 232=232
 t484:t 484=484
 t485:t 485=485
 t565:t 565=565
 t568:t 568=568
 t597:t 597=597
 gj:p 284=284
 gk:p 448=448
 gl:p 449=449
 nn:ap prog (p 387)
 np:ap prog (p 388)
 nm:ap prog (p 386)
 nl:ap prog (p 385)
 nv:ap prog (p 459)
 nw:ap prog (p 460)
 ny:ap prog (p 490)
 nr:ap prog (p 390)
 nt:ap prog (p 392)
 ns:ap prog (p 391)
 nk:ap prog (p 289)
 nq:ap prog (p 389)
 nu:ap prog (p 458)
 ot:Twin prog t p 181 f181
 ox:Twin prog t p 387 f387
 oy:Twin prog t p 388 f388
 ow:Twin prog t p 386 f386
 ov:Twin prog t p 385 f385
 oE:Twin prog t p 459 f459
 oF:Twin prog t p 460 f460
 oG:Twin prog t p 490 f490
 oA:Twin prog t p 390 f390
 oC:Twin prog t p 392 f392
 oB:Twin prog t p 391 f391
 ou:Twin prog t p 289 f289
 oz:Twin prog t p 389 f389
 oD:Twin prog t p 458 f458
instance{κ:KD}:bh prog (κ.t 145) (.slice (κ.t 144)):=κ.u1
instance{κ:KD}:Sz prog (κ.t 144) κ.sz:=κ.u2
instance{κ:KD}:bV prog (κ.t 144) true:=κ.u3
instance{κ:KD}:ap prog (κ.p 387):=κ.nn
instance{κ:KD}:ap prog (κ.p 388):=κ.np
instance{κ:KD}:ap prog (κ.p 386):=κ.nm
instance{κ:KD}:ap prog (κ.p 385):=κ.nl
instance{κ:KD}:ap prog (κ.p 459):=κ.nv
instance{κ:KD}:ap prog (κ.p 460):=κ.nw
instance{κ:KD}:ap prog (κ.p 490):=κ.ny
instance{κ:KD}:ap prog (κ.p 390):=κ.nr
instance{κ:KD}:ap prog (κ.p 392):=κ.nt
instance{κ:KD}:ap prog (κ.p 391):=κ.ns
instance{κ:KD}:ap prog (κ.p 289):=κ.nk
instance{κ:KD}:ap prog (κ.p 389):=κ.nq
instance{κ:KD}:ap prog (κ.p 458):=κ.nu
namespace SG
section
variable{κ:KD}{α:Type}{enc:α->List Value} [en:bH enc κ.sz]{c:α->α->Int}{ok:α->Prop}{f:FuncId}{caps:List Value} [e:ap prog f]
theorem sB(v:Value)(xs:List α)(T:au)(a b:Nat)(R:ao)(h:OS (κ.t 144) κ.sz enc v xs T)(a3:a<=b)(J:b<=xs.length)(hl:xs.length<=1000000000)(O:eR prog f caps R (λp:α=>Value.agg (enc p).toArray) c ok)(K:∀x∈xs,ok x)(G:SO (aM c)):
  Spec prog (κ.p 385) [v,.int .i64 a,.int .i64 b,.func (.func f) #[] caps.toArray] R [T] λu H'=>∃T',H'=[T']/\u=.tuple #[]/\∃ys,OS (κ.t 144) κ.sz enc v ys T'/\RP a b xs ys/\SR (aM c) ys a b:=by
 have iv:=h.ay
 refine Spec.js κ.ov rfl results385 ntmps385 rfl ?_
 simp only[cR,oR,iW,adZ,ad0,ad1,ad2,ad3,ad4,κ.t0,κ.t3,κ.t4,κ.t28,κ.t197,κ.t232,κ.t484,κ.t485,κ.t565,κ.t568,κ.t597,κ.gj,κ.gk,κ.gl]
 refine .sr<|.mo rfl ?_
 refine .ia (a+1) .add ?_
 refine .az rfl<|.block ?_
 refine .loop (X:=Nat×List α×au) (λy=>(a+1<=y.1/\(y.1<=b\/y.1=a+1))/\OS (κ.t 144) κ.sz enc v y.2.1 y.2.2/\RP a b xs y.2.1/\SR (aM c) y.2.1 a y.1) (λy=>[(0,v),(1,iN a),(2,iN b),(3,.func (.func f) #[] caps.toArray),(8,iN y.1)]) (λy=>[y.2.2]) (λy=>b-y.1) (a+1,xs,T) ⟨⟨by simp only;omega,.inr rfl⟩,h,.refl _,λi j s m I=>by simp only at I;omega⟩ kE.c.c.c.c.c rH ?_
 rintro⟨i,ys,M⟩ ⟨⟨Q,S⟩,D,C,E⟩
 simp only at Q S D C E⊢
 have a6:=C.length
 refine .seq<|.sr<|.mo rfl<|.mo rfl<|.q .lss<|.zn ?_
 refine .cond rfl (λs=>?_) λs=>?_
 have a5:i<b:=by simp at s;omega
 refine .kn<|.seq<|.block<|.sr<|.mo rfl<|.az rfl<|.block ?_
 refine .loop (X:=Nat×List α×au) (λy=>(a<=y.1/\y.1<=i)/\OS (κ.t 144) κ.sz enc v y.2.1 y.2.2/\RP a b xs y.2.1/\kp (aM c) y.2.1 a y.1 (i+1)) (λy=>[(0,v),(1,iN a),(2,iN b),(3,.func (.func f) #[] caps.toArray),(8,iN i),(9,iN y.1)]) (λy=>[y.2.2]) (λy=>y.1) (i,ys,M) ⟨⟨by simp only;omega,adV _⟩,D,C,E.ins⟩ kE.c.c.c.c.c.c rH ?_
 rintro⟨j,z,H⟩ ⟨⟨U,V⟩,e,n,B⟩
 simp only at U V e n B⊢
 have a7:=n.length
 refine .seq<|.seq ?_
 refine .cM 14 mixed (by kernel_rfl) ?_
 conv=>arg 6;dsimp only[List.take]
 refine .mo rfl<|.mo rfl<|.q .gtr<|.mo rfl ?_
 refine .split (t:=21) rfl (λd=>?_) (λd=>?_)
 have F:a<j:=by have:=bp d;omega
 obtain⟨x,g⟩:∃x,z[j]? =some x:=⟨_,bd (by omega)⟩
 obtain⟨y,l⟩:∃x,z[j-1]? =some x:=⟨_,bd (by omega)⟩
 have a0:=K x (n.perm.mem_iff.1 (bD g))
 have a1:=K y (n.perm.mem_iff.1 (bD l))
 refine .gT d<|.mo rfl<|.gT d<|.mo rfl<|.gT d<|.mo rfl<|.gT d ?_
 refine .aU j e g (λa8=>?_)
 refine .gT d<|.q (.bj rfl (bH.h _)) ?_
 refine .gT d<|.mo rfl<|.gT d<|.mo rfl<|.gT d ?_
 refine .ia (j-1) .sub ?_
 refine .gT d ?_
 refine .aU (j-1) e l (λa9=>?_)
 refine .gT d<|.q (.bj rfl (bH.h _)) ?_
 refine .nil<|.gT d ?_
 refine .gP (first:=[]) (captured:=caps) (vs:=[(λp:α=>Value.agg (enc p).toArray) x,(λp:α=>Value.agg (enc p).toArray) y]) (O x y a0 a1 _ (λb o J=>.inl J)) (λu r=>?_)
 subst r
 refine .gT d<|.q .lss<|.q (.bA d) ?_
 refine .zn ?_
 refine .cond rfl (λm=>?_) λm=>?_
 refine .kn<|.seq<|.block<|.cq [15,17] mixed ?_
 refine .tO 0 rfl .move<|.tO 1 rfl .move<|.tK 2 rfl .move<|.tK 3 rfl .move ?_
 refine .take 4 rfl (.i64 ((j-1:Nat):Int) .sub ⟨by omega,by omega,by omega⟩) (by kernel_rfl) ?_
 refine .tO 5 rfl .move<|.tO 6 rfl .move ?_
 refine .eF 7 rfl (.i64 ((j-1:Nat):Int) .sub ⟨by omega,by omega,by omega⟩) (by kernel_rfl) ?_
 refine RA.aU 8 rfl (j-1) e l rfl rfl rfl (by kernel_rfl) (λb0=>?_)
 refine .tO 9 rfl (.bj rfl (bH.h _)) ?_
 refine .tO 10 rfl .move<|.tO 11 rfl .move ?_
 refine RA.aU 12 rfl (j) e g rfl rfl rfl (by kernel_rfl) (λb1=>?_)
 refine .tO 13 rfl (.bj rfl (bH.h _)) ?_
 refine RA.aU 14 rfl (j) e g rfl rfl rfl (by kernel_rfl) (λb2=>?_)
 refine .sT 15 rfl ?_
 refine .ee (j) e g y (λa2 Y=>?_) (e.one _ (bD l)) (bH.h _)
 refine .nil (Next.mod rfl ?_)
 refine RA.aU 16 rfl (j-1) e l rfl rfl rfl (by kernel_rfl) (λb3=>?_)
 refine .sT 17 rfl ?_
 obtain⟨zz,Z⟩:∃u,(z.set (j) y)[j-1]? =some u:=⟨_,bd (by rw[adX];exact(adW.1 l).1)⟩
 refine .ee (j-1) Y Z x (λN L=>?_) (e.one _ (bD g)) (bH.h _)
 rw[<-dW g l]at L
 refine .nil (Next.mod rfl ?_)
 refine RA.nil (by kernel_rfl) ?_
 refine bz<|aG<|.region<|.mo rfl ?_
 refine .ia (j-1) .sub ?_
 refine .ag rfl<|.nil ?_
 ·have W:aM c x y=true:=m
  exact br (j-1,bY z j (j-1),N) ⟨⟨by simp only;omega,by simp only;omega⟩,L,n.step (by omega) (by omega) (by omega) (by omega) (by omega),B.step G (by omega) (by omega) F g l W⟩ (by simp only;omega) kE.c.c.c.c.c.c rH
 refine .exit<|bk<|bw<|bq<|bz<|aG<|.region<|.mo rfl ?_
 refine .ia (i+1) .add ?_
 refine .ag rfl<|.nil ?_
 ·refine br (i+1,z,H) ⟨⟨by simp only;omega,.inl (by simp only;omega)⟩,e,n,B.done G (by omega) (by omega) ?_⟩ (by simp only;omega) kE.c.c.c.c.c rH
  first
   |exact .inr ⟨F,λu w r A=>by
     rw[l]at r;rw[g]at A;cases r;cases A;exact m⟩
   |exact .inl (by have:=ba d;omega)
 refine .gF d<|.gF d<|.gF d<|.gF d<|.gF d<|.gF d<|.gF d<|.gF d<|.gF d<|.gF d<|.nil<|.gF d<|.gF d<|.q (.bg d) ?_
 refine .zn<|.bB<|.exit<|bk<|bw<|bq<|bz<|aG<|.region<|.mo rfl ?_
 refine .ia (i+1) .add ?_
 refine .ag rfl<|.nil ?_
 ·refine br (i+1,z,H) ⟨⟨by simp only;omega,.inl (by simp only;omega)⟩,e,n,B.done G (by omega) (by omega) ?_⟩ (by simp only;omega) kE.c.c.c.c.c rH
  first
   |exact .inr ⟨F,λu w r A=>by
     rw[l]at r;rw[g]at A;cases r;cases A;exact m⟩
   |exact .inl (by have:=ba d;omega)
 refine .exit<|bk<|bw<|bq<|dc _ .none rH ?_
 ·have a4:b<=i:=by simp at s;omega
  exact⟨_,rfl,rfl,ys,D,C,λj k s m I=>E j k s m (by omega)⟩
theorem pJ(v:Value)(xs:List α)(T:au)(lo hi d:Nat)(R:ao)(h:OS (κ.t 144) κ.sz enc v xs T)(b1:lo<=hi)(V:d+hi<=xs.length)(hl:xs.length<=1000000000)(hf:eR prog f caps R (λp:α=>Value.agg (enc p).toArray) c ok)(a3:∀x∈xs,ok x)(J:SO (aM c)):
    Spec prog (κ.p 458) [v,.int .i64 lo,.int .i64 hi,.int .i64 d,.func (.func f) #[] caps.toArray] R [T] λu H'=>∃T',H'=[T']/\u=.tuple #[]/\∃ys,OS (κ.t 144) κ.sz enc v ys T'/\RP d (d+hi) xs ys/\
      (jw (λx y=>aM c y x) (xs.drop d) hi lo lo->iH (λx y=>aM c y x) (ys.drop d) hi lo):=by
  have iv:=h.ay
  have a4:=J.rev
  refine Spec.js κ.oD rfl results458 ntmps458 rfl ?_
  simp only[cR,oR,iW,adZ,ad0,ad1,ad2,ad3,ad4,κ.t0,κ.t3,κ.t4,κ.t28,κ.t197,κ.t232,κ.t484,κ.t485,κ.t565,κ.t568,κ.t597,κ.gj,κ.gk,κ.gl]
  refine .sr<|.mo rfl<|.az rfl<|.block ?_
  refine .loop (X:=Nat×List α×au) (λy=>(lo<=y.1/\y.1<=hi)/\OS (κ.t 144) κ.sz enc v y.2.1 y.2.2/\RP d (d+hi) xs y.2.1/\(jw (λx y=>aM c y x) (xs.drop d) hi lo lo->jw (λx y=>aM c y x) (y.2.1.drop d) hi lo y.1)) (λy=>[(0,v),(2,iN hi),(3,iN d),(4,.func (.func f) #[] caps.toArray),(10,iN y.1)]) (λy=>[y.2.2]) (λy=>hi-y.1) (lo,xs,T) ⟨⟨adV _,b1⟩,h,.refl _,λh=>h⟩ kE.c.c.c.c.c rH ?_
  rintro⟨r,ys,T1⟩ ⟨⟨a6,b3⟩,l,D,U⟩
  simp only at a6 b3 l D U⊢
  have c1:=D.length
  have c0:(ys.drop d).length=ys.length-d:=ad7
  refine .block<|.sr<|.mo rfl ?_
  refine .ia (2*r) .mul ?_
  refine .ia (2*r+1) .add ?_
  refine .ag rfl<|.zs<|.sr<|.mo rfl<|.mo rfl<|.q .geq<|.zn ?_
  refine .cond rfl (λN=>?_) λN=>?_
  have b8:hi<=2*r+1:=by have:=bp N;omega
  refine .exit (bk (iP (bw (bq ?_))))
  refine dc _ .none rH ?_
  ·refine⟨_,rfl,rfl,ys,l,D,λQ=>(U Q).stop λa C E k u w g S=>?_⟩
   first
     |(simp only[bx]at k;omega)
     |(rw[gy]at g S
       rw[s]at g;cases g
       have O:(!aM c G x)=true:=L
       exact a4.fJ _ _ _ (W a w C E k S) (by simpa using O))
  have M:2*r+1<hi:=by have:=ba N;omega
  obtain⟨G,s⟩:∃y,ys[d+r]? =some y:=⟨_,bd (by omega)⟩
  obtain⟨n,m⟩:∃y,ys[d+(2*r+1)]? =some y:=⟨_,bd (by omega)⟩
  have b6:=a3 G (D.perm.mem_iff.1 (bD s))
  have I:=a3 n (D.perm.mem_iff.1 (bD m))
  refine .kn<|.seq ?_
  refine bF.cut (X:=Nat×α) (λz=>0<z.1/\z.1<hi/\bx z.1=r/\ys[d+z.1]? =some z.2/\ok z.2/\∀a u,0<a->a<hi->bx a=r->ys[d+a]? =some u->aM c z.2 u=false) (λz=>[(0,v),(2,iN hi),(3,iN d),(4,.func (.func f) #[] caps.toArray),(10,iN r),(11,iN z.1)]) (λz=>[T1]) ?_ ?_
  refine .seq ?_
  refine .cM 19 mixed (by kernel_rfl) ?_
  conv=>arg 6;dsimp only[List.take]
  refine .mo rfl ?_
  refine .ia (2*r+2) .add ?_
  refine .mo rfl<|.q .lss<|.mo rfl ?_
  refine .split (t:=23) rfl (λe=>?_) (λe=>?_)
  have a1:2*r+2<hi:=by have:=bp e;omega
  obtain⟨K,B⟩:∃y,ys[d+(2*r+2)]? =some y:=⟨_,bd (by omega)⟩
  have Y:=a3 K (D.perm.mem_iff.1 (bD B))
  refine .gT e<|.mo rfl<|.gT e<|.mo rfl<|.gT e<|.mo rfl<|.gT e<|.mo rfl<|.gT e ?_
  refine .ia (d+(2*r+1)) .add ?_
  refine .gT e ?_
  refine .aU (d+(2*r+1)) l m (λc2=>?_)
  refine .gT e<|.q (.bj rfl (bH.h _)) ?_
  refine .gT e<|.mo rfl<|.gT e<|.mo rfl<|.gT e<|.mo rfl<|.gT e ?_
  refine .ia (d+(2*r+1)) .add ?_
  refine .gT e ?_
  refine .ia (d+(2*r+2)) .add ?_
  refine .gT e ?_
  refine .aU (d+(2*r+2)) l B (λc3=>?_)
  refine .gT e<|.q (.bj rfl (bH.h _)) ?_
  refine .nil<|.gT e ?_
  refine .gP (first:=[]) (captured:=caps) (vs:=[(λp:α=>Value.agg (enc p).toArray) n,(λp:α=>Value.agg (enc p).toArray) K]) (hf n K I Y _ (λb o V=>.inl V)) (λu g=>?_)
  subst g
  refine .gT e<|.q .lss<|.q (.bA e) ?_
  refine .zn ?_
  refine .cond rfl (λH=>?_) λH=>?_
  have a2:∀a u,0<a->a<hi->bx a=r->ys[d+a]? =some u->aM c K u=false:=λa u C E k g=>by
    have:a=2*r+1\/a=2*r+2:=by simp only[bx]at k;omega
    rcases this with rfl|rfl
    ·rw[m]at g;cases g;exact J.kP H
    ·rw[B]at g;cases g;exact J.eK _
  refine .region<|.mo rfl ?_
  refine .ia (2*r+2) .add ?_
  refine .ag rfl<|.nil ?_
  ·first
      |exact aN (2*r+2,K) ⟨by simp only;omega,a1,by simp only[bx];omega,B,Y,a2⟩ kE.c.c.c.c.c.c rH
      |exact aN (2*r+1,n) ⟨by simp only;omega,M,by simp only[bx];omega,m,I,A⟩ kE.c.c.c.c.c.c rH
      |(have A:∀a u,0<a->a<hi->bx a=r->ys[d+a]? =some u->aM c n u=false:=λa u C E k g=>by
           have:a=2*r+1\/a=2*r+2:=by simp only[bx]at k;omega
           rcases this with rfl|rfl
           ·rw[m]at g;cases g;exact J.eK _
           ·rw[B]at g;cases g;exact H
        exact aN (2*r+1,n) ⟨by simp only;omega,M,by simp only[bx];omega,m,I,A⟩ kE.c.c.c.c.c.c rH)
  refine .skip ?_
  ·first
      |exact aN (2*r+2,K) ⟨by simp only;omega,a1,by simp only[bx];omega,B,Y,a2⟩ kE.c.c.c.c.c.c rH
      |exact aN (2*r+1,n) ⟨by simp only;omega,M,by simp only[bx];omega,m,I,A⟩ kE.c.c.c.c.c.c rH
      |(have A:∀a u,0<a->a<hi->bx a=r->ys[d+a]? =some u->aM c n u=false:=λa u C E k g=>by
           have:a=2*r+1\/a=2*r+2:=by simp only[bx]at k;omega
           rcases this with rfl|rfl
           ·rw[m]at g;cases g;exact J.eK _
           ·rw[B]at g;cases g;exact H
        exact aN (2*r+1,n) ⟨by simp only;omega,M,by simp only[bx];omega,m,I,A⟩ kE.c.c.c.c.c.c rH)
  have A:∀a u,0<a->a<hi->bx a=r->ys[d+a]? =some u->aM c n u=false:=λa u C E k g=>by
    have:a=2*r+1:=by have:=ba e;simp only[bx]at k;omega
    subst this
    rw[m]at g;cases g;exact J.eK _
  refine .gF e<|.gF e<|.gF e<|.gF e<|.gF e<|.gF e<|.gF e<|.gF e<|.gF e<|.gF e<|.gF e<|.gF e<|.gF e<|.gF e<|.nil<|.gF e<|.gF e<|.q (.bg e) ?_
  refine .zn<|.bB<|.skip ?_
  ·first
      |exact aN (2*r+2,K) ⟨by simp only;omega,a1,by simp only[bx];omega,B,Y,a2⟩ kE.c.c.c.c.c.c rH
      |exact aN (2*r+1,n) ⟨by simp only;omega,M,by simp only[bx];omega,m,I,A⟩ kE.c.c.c.c.c.c rH
      |(have A:∀a u,0<a->a<hi->bx a=r->ys[d+a]? =some u->aM c n u=false:=λa u C E k g=>by
           have:a=2*r+1\/a=2*r+2:=by simp only[bx]at k;omega
           rcases this with rfl|rfl
           ·rw[m]at g;cases g;exact J.eK _
           ·rw[B]at g;cases g;exact H
        exact aN (2*r+1,n) ⟨by simp only;omega,M,by simp only[bx];omega,m,I,A⟩ kE.c.c.c.c.c.c rH)
  intro y hy
  obtain⟨j,x⟩:=y
  obtain⟨Z,a5,a0,F,a8,W⟩:=hy
  simp only at Z a5 a0 F a8 W⊢
  have b9:r<j:=a0▸eP Z
  refine aG<|.seq<|.seq ?_
  refine .cM 13 mixed (by kernel_rfl) ?_
  conv=>arg 6;dsimp only[List.take]
  refine .mo rfl<|.mo rfl<|.mo rfl<|.mo rfl ?_
  refine .ia (d+r) .add ?_
  refine .aU (d+r) l s (λc4=>?_)
  refine .q (.bj rfl (bH.h _)) ?_
  refine .mo rfl<|.mo rfl<|.mo rfl ?_
  refine .ia (d+j) .add ?_
  refine .aU (d+j) l F (λc5=>?_)
  refine .q (.bj rfl (bH.h _)) ?_
  refine .nil ?_
  refine .gP (first:=[]) (captured:=caps) (vs:=[(λp:α=>Value.agg (enc p).toArray) G,(λp:α=>Value.agg (enc p).toArray) x]) (hf G x b6 a8 _ (λb o V=>.inl V)) (λu g=>?_)
  subst g
  refine .q .lss<|.q .not<|.zn ?_
  refine .cond rfl (λL=>?_) λL=>?_
  refine .ret (aR (bi (cK (bi (aO _ .none rH ?_)))))
  ·refine⟨_,rfl,rfl,ys,l,D,λQ=>(U Q).stop λa C E k u w g S=>?_⟩
   first
     |(simp only[bx]at k;omega)
     |(rw[gy]at g S
       rw[s]at g;cases g
       have O:(!aM c G x)=true:=L
       exact a4.fJ _ _ _ (W a w C E k S) (by simpa using O))
  refine .kn<|.seq<|.cq [21,23] mixed ?_
  refine .tO 0 rfl .move<|.tO 1 rfl .move<|.tO 2 rfl .move ?_
  refine .eF 3 rfl (.i64 ((d+r:Nat):Int) .add ⟨by omega,by omega,by omega⟩) (by kernel_rfl) ?_
  refine .tK 4 rfl .move<|.tK 5 rfl .move<|.tK 6 rfl .move ?_
  refine .take 7 rfl (.i64 ((d+j:Nat):Int) .add ⟨by omega,by omega,by omega⟩) (by kernel_rfl) ?_
  refine .tO 8 rfl .move<|.tO 9 rfl .move<|.tO 10 rfl .move ?_
  refine .eF 11 rfl (.i64 ((d+j:Nat):Int) .add ⟨by omega,by omega,by omega⟩) (by kernel_rfl) ?_
  refine RA.aU 12 rfl (d+j) l F rfl rfl rfl (by kernel_rfl) (λc6=>?_)
  refine .tO 13 rfl (.bj rfl (bH.h _)) ?_
  refine .tO 14 rfl .move<|.tO 15 rfl .move<|.tO 16 rfl .move ?_
  refine .eF 17 rfl (.i64 ((d+r:Nat):Int) .add ⟨by omega,by omega,by omega⟩) (by kernel_rfl) ?_
  refine RA.aU 18 rfl (d+r) l s rfl rfl rfl (by kernel_rfl) (λc7=>?_)
  refine .tO 19 rfl (.bj rfl (bH.h _)) ?_
  refine RA.aU 20 rfl (d+r) l s rfl rfl rfl (by kernel_rfl) (λc8=>?_)
  refine .sT 21 rfl ?_
  refine .ee (d+r) l s x (λb7 b4=>?_) (l.one _ (bD F)) (bH.h _)
  refine .nil (Next.mod rfl ?_)
  refine RA.aU 22 rfl (d+j) l F rfl rfl rfl (by kernel_rfl) (λc9=>?_)
  refine .sT 23 rfl ?_
  obtain⟨zz,b5⟩:∃u,(ys.set (d+r) x)[d+j]? =some u:=⟨_,bd (by rw[adX];exact(adW.1 F).1)⟩
  refine .ee (d+j) b4 b5 G (λa9 a7=>?_) (l.one _ (bD s)) (bH.h _)
  rw[<-dW s F]at a7
  refine .nil (Next.mod rfl ?_)
  refine RA.nil (by kernel_rfl) ?_
  refine aG<|.region<|.mo rfl<|.ag rfl<|.nil<|bz ?_
  ·have b2:aM c G x=true:=by
      have O:(!aM c G x)=false:=L
      simpa using O
   have b0:=qc (xs:=ys) (f:=d) (i:=r) (j:=j) (by omega) (by omega)
   exact br (j,bY ys (d+r) (d+j),a9) ⟨⟨by simp only;omega,by simp only;omega⟩,a7,D.step (by omega) (by omega) (by omega) (by omega) (by omega),λQ=>by
     simp only
     rw[b0]
     exact(U Q).step a4 a6 Z a5 (by omega) a0 (by rw[gy];exact F) (by rw[gy];exact s) b2 λa z N H L h4=>W a z N H L (by rw[<-gy];exact h4)⟩ (by simp only;omega) kE.c.c.c.c.c rH
end
end SG
namespace SG
section
variable{κ:KD}{α:Type}{enc:α->List Value} [en:bH enc κ.sz]{c:α->α->Int}{ok:α->Prop}{f:FuncId}{caps:List Value} [e:ap prog f]
theorem sy(v:Value)(xs:List α)(T:au)(a b:Nat)(R:ao)(h:OS (κ.t 144) κ.sz enc v xs T)(a9:a<=b)(hb:b<=xs.length)(hl:xs.length<=1000000000)(N:eR prog f caps R (λp:α=>Value.agg (enc p).toArray) c ok)(O:∀x∈xs,ok x)(H:SO (aM c)):
  Spec prog (κ.p 386) [v,.int .i64 a,.int .i64 b,.func (.func f) #[] caps.toArray] R [T] λu H'=>∃T',H'=[T']/\u=.tuple #[]/\∃ys,OS (κ.t 144) κ.sz enc v ys T'/\RP a b xs ys/\SR (aM c) ys a b:=by
 have iv:=h.ay
 have a7:=H.rev
 obtain⟨n,hn⟩:∃n,b=a+n:=⟨b-a,by omega⟩
 subst hn
 refine Spec.js κ.ow rfl results386 ntmps386 rfl ?_
 simp only[cR,oR,iW,adZ,ad0,ad1,ad2,ad3,ad4,κ.t0,κ.t3,κ.t4,κ.t28,κ.t197,κ.t232,κ.t484,κ.t485,κ.t565,κ.t568,κ.t597,κ.gj,κ.gk,κ.gl]
 refine .sr<|.mo rfl<|.ag rfl<|.z<|.ag rfl<|.z<|.mo rfl<|.mo rfl ?_
 refine .ia (n) .sub ?_
 refine .ag rfl<|.zs<|.sr<|.mo rfl ?_
 refine .q (.i64 ((n:Int)-1) .sub ⟨rfl,by omega,by omega⟩) ?_
 refine .q (.i64 (((n-1)/2:Nat):Int) .quo ⟨tT,by omega,by omega⟩) ?_
 refine .az rfl<|.block ?_
 refine .loop (X:=Nat×Int×List α×au) (λy=>(y.2.1=(y.1:Int)-1/\y.1<=n+1)/\OS (κ.t 144) κ.sz enc v y.2.2.1 y.2.2.2/\RP a (a+n) xs y.2.2.1/\iH (λx y=>aM c y x) (y.2.2.1.drop a) n y.1) (λy=>[(0,v),(3,.func (.func f) #[] caps.toArray),(8,iN a),(9,.int .i64 ((0:Nat):Int)),(10,iN n),(11,.int .i64 y.2.1)]) (λy=>[y.2.2.2]) (λy=>y.1) ((n-1)/2+1,(((n-1)/2:Nat):Int),xs,T) ⟨⟨by simp only;omega,by simp only;omega⟩,h,.refl _,λk W hk hp=>by simp only[bx]at hp;omega⟩ kE.c.c.c.c.c.c rH ?_
 rintro⟨m,z,ys,I⟩ ⟨⟨hz,hm⟩,D,s,C⟩
 simp only at hz hm D s C⊢
 have b0:=s.length
 refine .seq<|.sr<|.mo rfl<|.q .geq<|.zn ?_
 refine .cond rfl (λo=>?_) λo=>?_
 have a4:0<=z:=bp o
 obtain⟨k,rfl⟩:∃k,m=k+1:=⟨m-1,by omega⟩
 obtain rfl:z=(k:Int):=by omega
 refine .kn<|.seq<|.block<|.region<|.mo rfl<|.mo rfl<|.mo rfl<|.mo rfl<|.mo rfl ?_
 refine .aT (pJ (c:=c) (ok:=ok) v ys I k n a _ D (by omega) (by omega) (by omega) N (λx e=>O x (s.perm.mem_iff.1 e)) H) (λu J G=>?_)
 obtain⟨rfl,g,d,l,r⟩:=G
 refine .nil<|bz<|aG<|.region<|.mo rfl ?_
 refine .q (.i64 ((k:Int)-1) .sub ⟨rfl,by omega,by omega⟩) ?_
 refine .ag rfl<|.nil ?_
 ·exact br (k,(k:Int)-1,g,J) ⟨⟨rfl,by simp only;omega⟩,d,s.trans l,r C.hole⟩ (by simp only;omega) kE.c.c.c.c.c.c rH
 have F:m=0:=by have:=ba o;omega
 subst F
 refine .exit<|bk<|bw<|bq<|aG<|.sr<|.mo rfl ?_
 refine .q (.i64 ((n:Int)-1) .sub ⟨rfl,by omega,by omega⟩) ?_
 refine .az rfl<|.block ?_
 refine .loop (X:=Nat×Int×List α×au) (λy=>(y.2.1=(y.1:Int)-1/\y.1<=n)/\OS (κ.t 144) κ.sz enc v y.2.2.1 y.2.2.2/\RP a (a+n) xs y.2.2.1/\iH (λx y=>aM c y x) (y.2.2.1.drop a) y.1 0/\OX (aM c) y.2.2.1 a (a+n) a (a+y.1)) (λy=>[(0,v),(3,.func (.func f) #[] caps.toArray),(8,iN a),(9,.int .i64 ((0:Nat):Int)),(10,iN n),(12,.int .i64 y.2.1)]) (λy=>[y.2.2.2]) (λy=>y.1) (n,(n:Int)-1,ys,I) ⟨⟨rfl,adV _⟩,D,s,C,OX.start⟩ kE.c.c.c.c.c.c rH ?_
 rintro⟨m,S,g,J⟩ ⟨⟨a5,a2⟩,d,l,r,E⟩
 simp only at a5 a2 d l r E⊢
 have b1:=l.length
 refine .seq<|.sr<|.mo rfl<|.q .geq<|.zn ?_
 refine .cond rfl (λB=>?_) λB=>?_
 have a4:0<=S:=bp B
 obtain⟨k,rfl⟩:∃k,m=k+1:=⟨m-1,by omega⟩
 obtain rfl:S=(k:Int):=by omega
 obtain⟨x,e⟩:∃x,g[a]? =some x:=⟨_,bd (by omega)⟩
 obtain⟨y,A⟩:∃x,g[a+k]? =some x:=⟨_,bd (by omega)⟩
 refine .kn<|.seq<|.block<|.seq<|.cq [17,19] mixed ?_
 refine .tO 0 rfl .move<|.tO 1 rfl .move<|.tK 2 rfl .move<|.tK 3 rfl .move<|.tK 4 rfl .move ?_
 refine .take 5 rfl (.i64 ((a+k:Nat):Int) .add ⟨by omega,by omega,by omega⟩) (by kernel_rfl) ?_
 refine .tO 6 rfl .move<|.tO 7 rfl .move<|.tO 8 rfl .move ?_
 refine .eF 9 rfl (.i64 ((a+k:Nat):Int) .add ⟨by omega,by omega,by omega⟩) (by kernel_rfl) ?_
 refine RA.aU 10 rfl (a+k) d A rfl rfl rfl (by kernel_rfl) (λb2=>?_)
 refine .tO 11 rfl (.bj rfl (bH.h _)) ?_
 refine .tO 12 rfl .move<|.tO 13 rfl .move ?_
 refine RA.aU 14 rfl (a) d e rfl rfl rfl (by kernel_rfl) (λb3=>?_)
 refine .tO 15 rfl (.bj rfl (bH.h _)) ?_
 refine RA.aU 16 rfl (a) d e rfl rfl rfl (by kernel_rfl) (λb4=>?_)
 refine .sT 17 rfl ?_
 refine .ee (a) d e y (λa8 a3=>?_) (d.one _ (bD A)) (bH.h _)
 refine .nil (Next.mod rfl ?_)
 refine RA.aU 18 rfl (a+k) d A rfl rfl rfl (by kernel_rfl) (λb5=>?_)
 refine .sT 19 rfl ?_
 obtain⟨zz,a6⟩:∃u,(g.set (a) y)[a+k]? =some u:=⟨_,bd (by rw[adX];exact(adW.1 A).1)⟩
 refine .ee (a+k) a3 a6 x (λV Q=>?_) (d.one _ (bD e)) (bH.h _)
 rw[<-dW e A]at Q
 refine .nil (Next.mod rfl ?_)
 refine RA.nil (by kernel_rfl) ?_
 refine aG<|.region<|.mo rfl<|.mo rfl<|.mo rfl<|.mo rfl<|.mo rfl ?_
 have M:=qc (xs:=g) (f:=a) (i:=0) (j:=k) (by omega) (by omega)
 have K:=l.step (i:=a) (j:=a+k) (by omega) (by omega) (by omega) (by omega) (by omega)
 have a1:=OX.last (m:=a+k) (x:=x) E (by omega) (by omega) (by omega) e (λj w o Y hw=>iH.top a7 r (by rw[ad7];omega) (x:=x) (by rw[gy];exact e) (j-a) w (by omega) (by rw[gy,show a+(j-a)=j by omega];exact hw))
 refine .aT (pJ (c:=c) (ok:=ok) v (bY g a (a+k)) V 0 k a _ Q (by omega) (by rw[kl];omega) (by rw[kl];omega) N (λx e=>O x (K.perm.mem_iff.1 e)) H) (λu U G=>?_)
 obtain⟨rfl,ws,a0,L,Z⟩:=G
 refine .nil<|bz<|aG<|.region<|.mo rfl ?_
 refine .q (.i64 ((k:Int)-1) .sub ⟨rfl,by omega,by omega⟩) ?_
 refine .ag rfl<|.nil ?_
 ·exact br (k,(k:Int)-1,ws,U) ⟨⟨rfl,by simp only;omega⟩,a0,K.trans (L.mono (adV a) (by omega) (by rw[kl];omega)),Z (r.wJ λj W hj=>by
   rw[Nat.add_zero]at M
   rw[M,eg (by rw[ad7];omega) (by rw[ad7];omega),adY (by omega),adY (by omega)]),a1.rp L (adV _) (by omega)⟩ (by simp only;omega) kE.c.c.c.c.c.c rH
 refine .exit<|bk<|bw<|bq<|dc _ .none rH ?_
 ·have F:m=0:=by have:=ba B;omega
  subst F
  exact⟨_,rfl,rfl,g,d,l,E.jq λi j o B Y=>by omega⟩
theorem tB(v:Value)(xs:List α)(T:au)(a b:Nat)(R:ao)(k:Value)(F:One k)(h:OS (κ.t 144) κ.sz enc v xs T)(D:a<b)(E:b<=xs.length)(G:xs.length<=1000000000):
  Spec prog (κ.p 389) [v,.int .i64 a,.int .i64 b,k] R [T] λu H'=>∃T',H'=[T']/\u=.tuple #[]/\∃ys,OS (κ.t 144) κ.sz enc v ys T'/\RP a b xs ys:=by
 have J:=h.ay
 refine Spec.js κ.oz rfl results389 ntmps389 rfl ?_
 simp only[cR,oR,iW,adZ,ad0,ad1,ad2,ad3,ad4,κ.t0,κ.t3,κ.t4,κ.t28,κ.t197,κ.t232,κ.t484,κ.t485,κ.t565,κ.t568,κ.t597,κ.gj,κ.gk,κ.gl]
 refine .sr<|.mo rfl<|.ag rfl<|.z<|.mo rfl ?_
 refine .ia (b-1) .sub ?_
 refine .az rfl<|.block ?_
 refine .loop (X:=Nat×Nat×List α×au) (λy=>(a<=y.1/\y.1<=y.2.1+1/\y.2.1<b)/\OS (κ.t 144) κ.sz enc v y.2.2.1 y.2.2.2/\RP a b xs y.2.2.1) (λy=>[(0,v),(8,iN y.1),(9,iN y.2.1)]) (λy=>[y.2.2.2]) (λy=>b-y.1) (a,b-1,xs,T) ⟨⟨adV _,by simp only;omega,by simp only;omega⟩,h,.refl _⟩ kE.c.c.c rH ?_
 rintro⟨i,j,ys,B⟩ ⟨⟨o,r,s⟩,d,g⟩
 simp only at o r s d g⊢
 have H:=g.length
 refine .seq<|.sr<|.mo rfl<|.mo rfl<|.q .lss<|.zn ?_
 refine .cond rfl (λl=>?_) λl=>?_
 have I:i<j:=fg l
 obtain⟨x,e⟩:∃x,ys[i]? =some x:=⟨_,bd (by omega)⟩
 obtain⟨y,f⟩:∃x,ys[j]? =some x:=⟨_,bd (by omega)⟩
 refine .kn<|.block<|.seq<|.cq [13,15] mixed ?_
 refine .tO 0 rfl .move<|.tO 1 rfl .move<|.tK 2 rfl .move<|.tK 3 rfl .move<|.tO 4 rfl .move<|.tO 5 rfl .move ?_
 refine RA.aU 6 rfl (j) d f rfl rfl rfl (by kernel_rfl) (λK=>?_)
 refine .tO 7 rfl (.bj rfl (bH.h _)) ?_
 refine .tO 8 rfl .move<|.tO 9 rfl .move ?_
 refine RA.aU 10 rfl (i) d e rfl rfl rfl (by kernel_rfl) (λL=>?_)
 refine .tO 11 rfl (.bj rfl (bH.h _)) ?_
 refine RA.aU 12 rfl (i) d e rfl rfl rfl (by kernel_rfl) (λM=>?_)
 refine .sT 13 rfl ?_
 refine .ee (i) d e y (λC w=>?_) (d.one _ (bD f)) (bH.h _)
 refine .nil (Next.mod rfl ?_)
 refine RA.aU 14 rfl (j) d f rfl rfl rfl (by kernel_rfl) (λN=>?_)
 refine .sT 15 rfl ?_
 obtain⟨O,A⟩:∃u,(ys.set (i) y)[j]? =some u:=⟨_,bd (by rw[adX];exact(adW.1 f).1)⟩
 refine .ee (j) w A x (λn m=>?_) (d.one _ (bD e)) (bH.h _)
 rw[<-dW e f]at m
 refine .nil (Next.mod rfl ?_)
 refine RA.nil (by kernel_rfl) ?_
 refine aG<|.sr<|.mo rfl ?_
 refine .ia (i+1) .add ?_
 refine .az rfl<|.region<|.mo rfl ?_
 refine .ia (j-1) .sub ?_
 refine .ag rfl<|.nil<|bz ?_
 ·exact br (i+1,j-1,bY ys i j,n) ⟨⟨by simp only;omega,by simp only;omega,by simp only;omega⟩,m,g.step (by omega) (by omega) (by omega) (by omega) (by omega)⟩ (by simp only;omega) kE.c.c.c rH
 refine .exit<|bk<|bw<|bq<|dc _ .none rH ?_
 ·exact⟨_,rfl,rfl,ys,d,g⟩
theorem rM(v:Value)(xs:List α)(T:au)(a b:Nat)(R:ao)(s:Value)(W:One s)(h:OS (κ.t 144) κ.sz enc v xs T)(U:a<=b)(V:b<=xs.length)(Z:xs.length<=1000000000):
  Spec prog (κ.p 387) [v,.int .i64 a,.int .i64 b,s] R [T] λu H'=>∃T',H'=[T']/\u=.tuple #[]/\∃ys,OS (κ.t 144) κ.sz enc v ys T'/\RP a b xs ys:=by
 have iv:=h.ay
 obtain⟨n,K⟩:∃n,b=a+n:=⟨b-a,by omega⟩
 subst K
 refine Spec.js κ.ox rfl results387 ntmps387 rfl ?_
 simp only[cR,oR,iW,adZ,ad0,ad1,ad2,ad3,ad4,κ.t0,κ.t3,κ.t4,κ.t28,κ.t197,κ.t232,κ.t484,κ.t485,κ.t565,κ.t568,κ.t597,κ.gj,κ.gk,κ.gl]
 refine .sr<|.mo rfl<|.mo rfl ?_
 refine .ia (n) .sub ?_
 refine .ag rfl<|.z<|.mo rfl<|.q .geq<|.zn ?_
 refine .cond rfl (λA=>?_) λA=>?_
 have a3:8<=n:=by have:=bp A;omega
 obtain⟨q,E⟩:∃q,q=n/4:=⟨_,rfl⟩
 refine .sr<|.mo rfl<|.q .fv ?_
 refine .p4 (λe=>?_)
 refine .ca rfl rfl<|.z<|.mo rfl ?_
 refine .aH (xv n (by omega) (by omega) _) (λu r=>?_)
 obtain⟨j,rfl,a1,a2⟩:=r
 refine .ag rfl<|.z<|.mo rfl<|.mo rfl ?_
 refine .q (.i64 ((q:Nat):Int) .quo ⟨by rw[E,ad5 (by omega)];omega,by omega,by omega⟩) ?_
 refine .ia (q*2) .mul ?_
 refine .ia (a+q*2) .add ?_
 refine .ia (a+q*2-1) .sub ?_
 refine .az rfl<|.block ?_
 refine .loop (X:=Nat×Int×List α×au) (λy=>(a+q*2-1<=y.1/\y.1<=a+q*2+2)/\OS (κ.t 144) κ.sz enc v y.2.2.1 y.2.2.2/\RP a (a+n) xs y.2.2.1) (λy=>[(0,v),(1,iN a),(8,iN n),(9,pT e),(10,.int .u64 (j:Nat)),(11,iN y.1)]) (λy=>[bl e [.int .u64 y.2.1] 565,y.2.2.2]) (λy=>a+q*2+2-y.1) (a+q*2-1,_,xs,T) ⟨⟨adV _,by simp only;omega⟩,h,.refl _⟩ kE.c.c.c.c.c.c rH ?_
 rintro⟨i,z,ys,G⟩ ⟨⟨I,J⟩,d,k⟩
 simp only at I J d k⊢
 have a0:=k.length
 refine .seq<|.sr<|.mo rfl<|.mo rfl<|.mo rfl ?_
 refine .q (.i64 ((q:Nat):Int) .quo ⟨by rw[E,ad5 (by omega)];omega,by omega,by omega⟩) ?_
 refine .ia (q*2) .mul ?_
 refine .ia (a+q*2) .add ?_
 refine .ia (a+q*2+1) .add ?_
 refine .q .leq<|.zn ?_
 refine .cond rfl (λB=>?_) λB=>?_
 have Y:i<=a+q*2+1:=by have:=bp B;omega
 refine .kn<|.seq<|.block<|.sr ?_
 refine .aT (xY e z _) (λu Q r=>?_)
 obtain⟨l,rfl,rfl⟩:=r
 refine .mo rfl ?_
 refine .q (aI.cast (v':=.int .u64 ((j-1:Nat):Int)) .sub (by rw[na (by omega) (by omega)];congr 1;omega)) ?_
 have C:=ux (z:=l) (q:=((j-1:Nat):Int)) (by omega) (by omega)
 obtain⟨o,D⟩:∃o:Nat,IntKind.u64.wrap (BitVec.ofInt IntKind.u64.bits l&&&BitVec.ofInt IntKind.u64.bits ((j-1:Nat):Int)).toNat=(o:Int):=⟨_,(Int.toNat_of_nonneg C.1).symm⟩
 refine .q (aI.cast (v':=.int .u64 ((o:Nat):Int)) .rJ (by rw[D])) ?_
 rw[D]at C
 refine .q (aI.cast (v':=.int .i64 ((o:Nat):Int)) .fv (by rw[lj (by omega) (by omega)])) ?_
 refine .ag rfl<|.zs ?_
 refine bF.cut (X:=Nat) (λp=>p<n) (λp=>[(0,v),(1,iN a),(8,iN n),(9,pT e),(10,.int .u64 (j:Nat)),(11,iN i),(12,iN p)]) (λ_=>[bl e [.int .u64 l] 565,G]) ?_ ?_
 refine .sr<|.mo rfl<|.mo rfl<|.q .geq<|.zn ?_
 refine .cond rfl (λm=>?_) λm=>?_
 have L:n<=o:=by have:=bp m;omega
 refine .region<|.mo rfl<|.mo rfl ?_
 refine .ia (o-n) .sub ?_
 refine .ag rfl<|.nil ?_
 ·first
   |exact aN (o-n) (by omega) kE.c.c.c.c.c.c.c rH
   |exact aN o (by omega) kE.c.c.c.c.c.c.c rH
 have L:o<n:=by have:=ba m;omega
 refine .skip ?_
 ·first
   |exact aN (o-n) (by omega) kE.c.c.c.c.c.c.c rH
   |exact aN o (by omega) kE.c.c.c.c.c.c.c rH
 intro y N
 have a4:y<n:=N
 obtain⟨p,rfl⟩:∃p,p=y:=⟨_,rfl⟩
 obtain⟨x,g⟩:∃x,ys[i]? =some x:=⟨_,bd (by omega)⟩
 obtain⟨w,f⟩:∃x,ys[a+p]? =some x:=⟨_,bd (by omega)⟩
 refine aG<|.cq [17,19] mixed ?_
 refine .tO 0 rfl .move<|.tO 1 rfl .move<|.tK 2 rfl .move<|.tK 3 rfl .move<|.tK 4 rfl .move ?_
 refine .take 5 rfl (.i64 ((a+p:Nat):Int) .add ⟨by omega,by omega,by omega⟩) (by kernel_rfl) ?_
 refine .tO 6 rfl .move<|.tO 7 rfl .move<|.tO 8 rfl .move ?_
 refine .eF 9 rfl (.i64 ((a+p:Nat):Int) .add ⟨by omega,by omega,by omega⟩) (by kernel_rfl) ?_
 refine RA.aU 10 rfl (a+p) d f rfl rfl rfl (by kernel_rfl) (λa5=>?_)
 refine .tO 11 rfl (.bj rfl (bH.h _)) ?_
 refine .tO 12 rfl .move<|.tO 13 rfl .move ?_
 refine RA.aU 14 rfl (i) d g rfl rfl rfl (by kernel_rfl) (λa6=>?_)
 refine .tO 15 rfl (.bj rfl (bH.h _)) ?_
 refine RA.aU 16 rfl (i) d g rfl rfl rfl (by kernel_rfl) (λa7=>?_)
 refine .sT 17 rfl ?_
 refine .ee (i) d g w (λS M=>?_) (d.one _ (bD f)) (bH.h _)
 refine .nil (Next.mod rfl ?_)
 refine RA.aU 18 rfl (a+p) d f rfl rfl rfl (by kernel_rfl) (λa8=>?_)
 refine .sT 19 rfl ?_
 obtain⟨zz,O⟩:∃u,(ys.set (i) w)[a+p]? =some u:=⟨_,bd (by rw[adX];exact(adW.1 f).1)⟩
 refine .ee (a+p) M O x (λH F=>?_) (d.one _ (bD g)) (bH.h _)
 rw[<-dW g f]at F
 refine .nil (Next.mod rfl ?_)
 refine RA.nil (by kernel_rfl) ?_
 refine bz<|aG<|.region<|.mo rfl ?_
 refine .ia (i+1) .add ?_
 refine .ag rfl<|.nil ?_
 ·exact br (i+1,l,bY ys i (a+p),H) ⟨⟨by simp only;omega,by simp only;omega⟩,F,k.step (by omega) (by omega) (by omega) (by omega) (by omega)⟩ (by simp only;omega) kE.c.c.c.c.c.c rH
 refine .exit<|bk<|bw<|bq<|dc _ .none (bG [1]) ?_
 ·exact⟨_,rfl,rfl,ys,d,k⟩
 refine .skip<|dc _ .none rH ?_
 ·exact⟨_,rfl,rfl,xs,h,.refl _⟩
end
end SG
namespace SG
section
variable{κ:KD}{α:Type}{enc:α->List Value} [en:bH enc κ.sz]{c:α->α->Int}{ok:α->Prop}{f:FuncId}{caps:List Value} [e:ap prog f]
theorem td(v:Value)(xs:List α)(T:au)(a b:Nat)(R:ao)(h:OS (κ.t 144) κ.sz enc v xs T)(b5:a<b)(V:b<=xs.length)(hl:xs.length<=1000000000)(hf:eR prog f caps R (λp:α=>Value.agg (enc p).toArray) c ok)(W:∀x∈xs,ok x)(so:SO (aM c))(c4:LB (aM c) xs a b):
  Spec prog (κ.p 390) [v,.int .i64 a,.int .i64 b,.func (.func f) #[] caps.toArray] R [T] λu H'=>∃T',H'=[T']/\∃ys m,u=.bool m/\OS (κ.t 144) κ.sz enc v ys T'/\RP a b xs ys/\(m=true->SR (aM c) ys a b):=by
 have iv:=h.ay
 refine Spec.js κ.oA rfl results390 ntmps390 rfl ?_
 simp only[cR,oR,iW,adZ,ad0,ad1,ad2,ad3,ad4,κ.t0,κ.t3,κ.t4,κ.t28,κ.t197,κ.t232,κ.t484,κ.t485,κ.t565,κ.t568,κ.t597,κ.gj,κ.gk,κ.gl]
 refine .sr<|.ag rfl<|.z<|.mo rfl ?_
 refine .ia (a+1) .add ?_
 refine .ag rfl<|.zs<|.sr<|.az rfl<|.block ?_
 refine .loop (X:=Nat×Nat×List α×au) (λy=>(y.1<=5/\a+1<=y.2.1/\y.2.1<=b)/\OS (κ.t 144) κ.sz enc v y.2.2.1 y.2.2.2/\RP a b xs y.2.2.1/\SR (aM c) y.2.2.1 a y.2.1) (λy=>[(0,v),(1,iN a),(2,iN b),(3,.func (.func f) #[] caps.toArray),(9,iN y.2.1),(10,iN y.1)]) (λy=>[y.2.2.2]) (λy=>5-y.1) (0,a+1,xs,T) ⟨⟨by omega,adV _,b5⟩,h,.refl _,λi j S U M=>by simp only at M;omega⟩ kE.c.c.c.c.c.c rH ?_
 rintro⟨n,i,ys,T1⟩ ⟨⟨hn,I,J⟩,B,N,E⟩
 simp only at hn I J B N E⊢
 have c8:=N.length
 refine .seq<|.sr<|.mo rfl<|.q .lss<|.zn ?_
 refine .cond rfl (λS=>?_) λS=>?_
 have d1:n<5:=fg S
 refine .kn<|.seq<|.block<|.seq ?_
 refine bF.cut (X:=Nat) (λi=>(a+1<=i/\i<=b)/\SR (aM c) ys a i) (λi=>[(0,v),(1,iN a),(2,iN b),(3,.func (.func f) #[] caps.toArray),(9,iN i),(10,iN n)]) (λ_=>[T1]) ?_ ?_
 refine .block ?_
 refine .loop (X:=Nat) (λi=>(a+1<=i/\i<=b)/\SR (aM c) ys a i) (λi=>[(0,v),(1,iN a),(2,iN b),(3,.func (.func f) #[] caps.toArray),(9,iN i),(10,iN n)]) (λ_=>[T1]) (λi=>b-i) i ⟨⟨I,J⟩,E⟩ kE.c.c.c.c.c.c rH ?_
 clear I J E
 rintro i ⟨⟨I,J⟩,E⟩
 refine .seq<|.seq ?_
 refine .cM 14 mixed (by kernel_rfl) ?_
 conv=>arg 6;dsimp only[List.take]
 refine .mo rfl<|.mo rfl<|.q .lss<|.mo rfl ?_
 refine .split (t:=22) rfl (λe=>?_) (λe=>?_)
 have c3:i<b:=by have:=bp e;omega
 obtain⟨x,F⟩:∃x,ys[i]? =some x:=⟨_,bd (by omega)⟩
 obtain⟨y,D⟩:∃x,ys[i-1]? =some x:=⟨_,bd (by omega)⟩
 have c6:=W x (N.perm.mem_iff.1 (bD F))
 have c7:=W y (N.perm.mem_iff.1 (bD D))
 refine .gT e<|.mo rfl<|.gT e<|.mo rfl<|.gT e<|.mo rfl<|.gT e ?_
 refine .aU i B F (λe1=>?_)
 refine .gT e<|.q (.bj rfl (bH.h _)) ?_
 refine .gT e<|.mo rfl<|.gT e<|.mo rfl<|.gT e ?_
 refine .ia (i-1) .sub ?_
 refine .gT e ?_
 refine .aU (i-1) B D (λe2=>?_)
 refine .gT e<|.q (.bj rfl (bH.h _)) ?_
 refine .nil<|.gT e ?_
 refine .gP (first:=[]) (captured:=caps) (vs:=[(λp:α=>Value.agg (enc p).toArray) x,(λp:α=>Value.agg (enc p).toArray) y]) (hf x y c6 c7 _ (λb o V=>.inl V)) (λu H=>?_)
 subst H
 refine .gT e<|.q .lss<|.gT e<|.q .not<|.q (.bA e) ?_
 refine .zn ?_
 refine .cond rfl (λU=>?_) λU=>?_
 refine .kn<|.block<|.region<|.mo rfl ?_
 refine .ia (i+1) .add ?_
 refine .ag rfl<|.nil<|bz ?_
 ·have c5:aM c x y=false:=by
   have b8:(!aM c x y)=true:=U
   simpa using b8
  exact br (i+1) ⟨⟨by omega,by omega⟩,E.snoc so (by omega) (by omega) λu w H hw=>by
   rw[D]at H;rw[F]at hw;cases H;cases hw;exact c5⟩ (by omega) kE.c.c.c.c.c.c rH
 refine .exit<|bk<|bw<|bq ?_
 exact aN i ⟨⟨I,J⟩,E⟩ kE.c.c.c.c.c.c rH
 refine .gF e<|.gF e<|.gF e<|.gF e<|.gF e<|.gF e<|.gF e<|.gF e<|.gF e<|.gF e<|.nil<|.gF e<|.gF e<|.gF e<|.q (.bg e) ?_
 refine .zn<|.bB<|.exit<|bk<|bw<|bq ?_
 exact aN i ⟨⟨I,J⟩,E⟩ kE.c.c.c.c.c.c rH
 intro x F
 obtain⟨d,b6⟩:∃d,d=x:=⟨_,rfl⟩
 rw[<-b6]at F⊢
 clear b6 x I J E
 obtain⟨⟨I,J⟩,E⟩:=F
 refine aG<|.seq<|.sr<|.mo rfl<|.mo rfl<|.q .cG<|.zn ?_
 refine .cond rfl (λM=>?_) λM=>?_
 refine .sr<|.az rfl ?_
 refine .ret (aR (bi (aR (cK (bi (aR (aO _ (.one (.tmp rfl)) rH ?_)))))))
 ·have c2:d=b:=by
   have b9:((d:Int)=b):=by simpa using M
   omega
  exact⟨_,rfl,ys,true,rfl,B,N,λ_=>c2▸E⟩
 have c3:d<b:=by
  have b9:¬((d:Int)=b):=by simpa using M
  omega
 obtain⟨x,F⟩:∃x,ys[d]? =some x:=⟨_,bd (by omega)⟩
 obtain⟨y,D⟩:∃x,ys[d-1]? =some x:=⟨_,bd (by omega)⟩
 refine .kn<|.seq<|.sr<|.mo rfl<|.mo rfl ?_
 refine .ia (b-a) .sub ?_
 refine .q .lss<|.zn ?_
 refine .cond rfl (λh4=>?_) λh4=>?_
 refine .sr<|.az rfl ?_
 refine .ret (aR (bi (aR (cK (bi (aR (aO _ (.one (.tmp rfl)) rH ?_)))))))
 ·exact⟨_,rfl,ys,false,rfl,B,N,λh=>by cases h⟩
 refine .kn<|.seq<|.cq [15,17] mixed ?_
 refine .tO 0 rfl .move<|.tO 1 rfl .move<|.tK 2 rfl .move<|.tK 3 rfl .move ?_
 refine .take 4 rfl (.i64 ((d-1:Nat):Int) .sub ⟨by omega,by omega,by omega⟩) (by kernel_rfl) ?_
 refine .tO 5 rfl .move<|.tO 6 rfl .move ?_
 refine .eF 7 rfl (.i64 ((d-1:Nat):Int) .sub ⟨by omega,by omega,by omega⟩) (by kernel_rfl) ?_
 refine RA.aU 8 rfl (d-1) B D rfl rfl rfl (by kernel_rfl) (λe3=>?_)
 refine .tO 9 rfl (.bj rfl (bH.h _)) ?_
 refine .tO 10 rfl .move<|.tO 11 rfl .move ?_
 refine RA.aU 12 rfl (d) B F rfl rfl rfl (by kernel_rfl) (λe4=>?_)
 refine .tO 13 rfl (.bj rfl (bH.h _)) ?_
 refine RA.aU 14 rfl (d) B F rfl rfl rfl (by kernel_rfl) (λe5=>?_)
 refine .sT 15 rfl ?_
 refine .ee (d) B F y (λb1 a0=>?_) (B.one _ (bD D)) (bH.h _)
 refine .nil (Next.mod rfl ?_)
 refine RA.aU 16 rfl (d-1) B D rfl rfl rfl (by kernel_rfl) (λe6=>?_)
 refine .sT 17 rfl ?_
 obtain⟨zz,a1⟩:∃u,(ys.set (d) y)[d-1]? =some u:=⟨_,bd (by rw[adX];exact(adW.1 D).1)⟩
 refine .ee (d-1) a0 a1 x (λL G=>?_) (B.one _ (bD F)) (bH.h _)
 rw[<-dW F D]at G
 refine .nil (Next.mod rfl ?_)
 refine RA.nil (by kernel_rfl) ?_
 have a3:=N.step (i:=d) (j:=d-1) (by omega) (by omega) (by omega) (by omega) (by omega)
 have c0:=E.yC (by omega)
 clear E
 refine aG<|.seq ?_
 refine bF.cut (X:=List α×au) (λz=>OS (κ.t 144) κ.sz enc v z.1 z.2/\RP a b xs z.1/\SR (aM c) z.1 a d) (λ_=>[(0,v),(1,iN a),(2,iN b),(3,.func (.func f) #[] caps.toArray),(9,iN d),(10,iN n)]) (λz=>[z.2]) ?_ ?_
 refine .sr<|.mo rfl<|.mo rfl ?_
 refine .ia (d-a) .sub ?_
 refine .q .geq<|.zn ?_
 refine .cond rfl (λh5=>?_) λh5=>?_
 refine .sr<|.mo rfl ?_
 refine .ia (d-1) .sub ?_
 refine .az rfl<|.block ?_
 refine .loop (X:=Nat×List α×au) (λz=>(a<=z.1/\z.1<=d-1)/\OS (κ.t 144) κ.sz enc v z.2.1 z.2.2/\RP a b xs z.2.1/\kp (aM c) z.2.1 a z.1 d) (λz=>[(0,v),(1,iN a),(2,iN b),(3,.func (.func f) #[] caps.toArray),(9,iN d),(10,iN n),(11,iN z.1)]) (λz=>[z.2.2]) (λz=>z.1) (d-1,bY ys d (d-1),L) ⟨⟨by simp only;omega,adV _⟩,G,a3,c0⟩ kE.c.c.c.c.c.c.c rH ?_
 rintro⟨q,A,K⟩ ⟨⟨a7,a8⟩,g,r,a2⟩
 simp only at a7 a8 g r a2⊢
 have c9:=r.length
 refine .seq<|.sr<|.mo rfl<|.q .geq<|.zn ?_
 refine .cond rfl (λh6=>?_) λh6=>?_
 have d2:1<=q:=by have:=bp h6;omega
 obtain⟨s,k⟩:∃x,A[q]? =some x:=⟨_,bd (by omega)⟩
 obtain⟨t,l⟩:∃x,A[q-1]? =some x:=⟨_,bd (by omega)⟩
 have a9:=W s (r.perm.mem_iff.1 (bD k))
 have b0:=W t (r.perm.mem_iff.1 (bD l))
 refine .kn<|.seq<|.block<|.seq<|.seq ?_
 refine .cM 10 mixed (by kernel_rfl) ?_
 conv=>arg 6;dsimp only[List.take]
 refine .mo rfl<|.mo rfl<|.mo rfl ?_
 refine .aU q g k (λe7=>?_)
 refine .q (.bj rfl (bH.h _)) ?_
 refine .mo rfl<|.mo rfl ?_
 refine .ia (q-1) .sub ?_
 refine .aU (q-1) g l (λe8=>?_)
 refine .q (.bj rfl (bH.h _)) ?_
 refine .nil ?_
 refine .gP (first:=[]) (captured:=caps) (vs:=[(λp:α=>Value.agg (enc p).toArray) s,(λp:α=>Value.agg (enc p).toArray) t]) (hf s t a9 b0 _ (λb o V=>.inl V)) (λu H=>?_)
 subst H
 refine .q .lss<|.q .not<|.zn ?_
 refine .cond rfl (λh7=>?_) λh7=>?_
 have a4:SR (aM c) A a d:=a2.done so (by omega) (by omega) (by
  have a5:(!aM c s t)=true:=h7
  rcases aea a q with hh|hh
  ·exact .inr ⟨hh,λu w H hw=>by rw[l]at H;rw[k]at hw;cases H;cases hw;simpa using a5⟩
  ·exact .inl (by omega))
 refine .exit (bk (iP (bk (bw (bq ?_)))))
 ·first
   |exact aN (A,K) ⟨g,r,a4⟩ kE.c.c.c.c.c.c rH
   |exact aN (bY ys d (d-1),L) ⟨G,a3,λp q S U M=>by have:=ba h5;omega⟩ kE.c.c.c.c.c.c rH
 have a6:aM c s t=true:=by
  have a5:(!aM c s t)=false:=h7
  simpa using a5
 have c1:a<q:=by
  rcases aea a q with hh|hh
  ·exact hh
  ·have ea:q=a:=by omega
   subst ea
   have:=(c4.rp r) (by omega) q (adV _) b5 t s l k
   rw[this]at a6;cases a6
 refine .kn<|.cq [15,17] mixed ?_
 refine .tO 0 rfl .move<|.tO 1 rfl .move<|.tK 2 rfl .move<|.tK 3 rfl .move ?_
 refine .take 4 rfl (.i64 ((q-1:Nat):Int) .sub ⟨by omega,by omega,by omega⟩) (by kernel_rfl) ?_
 refine .tO 5 rfl .move<|.tO 6 rfl .move ?_
 refine .eF 7 rfl (.i64 ((q-1:Nat):Int) .sub ⟨by omega,by omega,by omega⟩) (by kernel_rfl) ?_
 refine RA.aU 8 rfl (q-1) g l rfl rfl rfl (by kernel_rfl) (λe9=>?_)
 refine .tO 9 rfl (.bj rfl (bH.h _)) ?_
 refine .tO 10 rfl .move<|.tO 11 rfl .move ?_
 refine RA.aU 12 rfl (q) g k rfl rfl rfl (by kernel_rfl) (λf0=>?_)
 refine .tO 13 rfl (.bj rfl (bH.h _)) ?_
 refine RA.aU 14 rfl (q) g k rfl rfl rfl (by kernel_rfl) (λf1=>?_)
 refine .sT 15 rfl ?_
 refine .ee (q) g k t (λb1 a0=>?_) (g.one _ (bD l)) (bH.h _)
 refine .nil (Next.mod rfl ?_)
 refine RA.aU 16 rfl (q-1) g l rfl rfl rfl (by kernel_rfl) (λd4=>?_)
 refine .sT 17 rfl ?_
 obtain⟨zz,a1⟩:∃u,(A.set (q) t)[q-1]? =some u:=⟨_,bd (by rw[adX];exact(adW.1 l).1)⟩
 refine .ee (q-1) a0 a1 s (λL G=>?_) (g.one _ (bD k)) (bH.h _)
 rw[<-dW k l]at G
 refine .nil (Next.mod rfl ?_)
 refine RA.nil (by kernel_rfl) ?_
 refine bz<|aG<|.region<|.mo rfl ?_
 refine .ia (q-1) .sub ?_
 refine .ag rfl<|.nil ?_
 ·exact br (q-1,bY A q (q-1),L) ⟨⟨by simp only;omega,by simp only;omega⟩,G,r.step (by omega) (by omega) (by omega) (by omega) (by omega),a2.step so (by omega) (by omega) c1 k l a6⟩ (by simp only;omega) kE.c.c.c.c.c.c.c rH
 have a4:SR (aM c) A a d:=a2.done so (by omega) (by omega) (.inl (by have:=ba h6;omega))
 refine .exit<|bk<|bw<|bq ?_
 ·first
   |exact aN (A,K) ⟨g,r,a4⟩ kE.c.c.c.c.c.c rH
   |exact aN (bY ys d (d-1),L) ⟨G,a3,λp q S U M=>by have:=ba h5;omega⟩ kE.c.c.c.c.c.c rH
 refine .skip ?_
 ·first
   |exact aN (A,K) ⟨g,r,a4⟩ kE.c.c.c.c.c.c rH
   |exact aN (bY ys d (d-1),L) ⟨G,a3,λp q S U M=>by have:=ba h5;omega⟩ kE.c.c.c.c.c.c rH
 intro y D
 obtain⟨A,K⟩:=y
 obtain⟨g,r,Y⟩:=D
 simp only at g r Y⊢
 refine aG ?_
 refine bF.cut (X:=List α×au) (λz=>OS (κ.t 144) κ.sz enc v z.1 z.2/\RP a b xs z.1/\SR (aM c) z.1 a d) (λ_=>[(0,v),(1,iN a),(2,iN b),(3,.func (.func f) #[] caps.toArray),(9,iN d),(10,iN n)]) (λz=>[z.2]) ?_ ?_
 refine .sr<|.mo rfl<|.mo rfl ?_
 refine .ia (b-d) .sub ?_
 refine .q .geq<|.zn ?_
 refine .cond rfl (λh8=>?_) λh8=>?_
 refine .sr<|.mo rfl ?_
 refine .ia (d+1) .add ?_
 refine .az rfl<|.block ?_
 refine .loop (X:=Nat×List α×au) (λz=>(d+1<=z.1/\z.1<=b)/\OS (κ.t 144) κ.sz enc v z.2.1 z.2.2/\RP a b xs z.2.1/\SR (aM c) z.2.1 a d) (λz=>[(0,v),(1,iN a),(2,iN b),(3,.func (.func f) #[] caps.toArray),(9,iN d),(10,iN n),(12,iN z.1)]) (λz=>[z.2.2]) (λz=>b-z.1) (d+1,A,K) ⟨⟨adV _,by simp only;omega⟩,g,r,Y⟩ kE.c.c.c.c.c.c.c rH ?_
 rintro⟨q,Q,T4⟩ ⟨⟨a7,a8⟩,C,O,Z⟩
 simp only at a7 a8 C O Z⊢
 have d0:=O.length
 refine .seq<|.sr<|.mo rfl<|.mo rfl<|.q .lss<|.zn ?_
 refine .cond rfl (λh9=>?_) λh9=>?_
 have d3:q<b:=fg h9
 obtain⟨s,k⟩:∃x,Q[q]? =some x:=⟨_,bd (by omega)⟩
 obtain⟨t,l⟩:∃x,Q[q-1]? =some x:=⟨_,bd (by omega)⟩
 have a9:=W s (O.perm.mem_iff.1 (bD k))
 have b0:=W t (O.perm.mem_iff.1 (bD l))
 refine .kn<|.seq<|.block<|.seq<|.seq ?_
 refine .cM 10 mixed (by kernel_rfl) ?_
 conv=>arg 6;dsimp only[List.take]
 refine .mo rfl<|.mo rfl<|.mo rfl ?_
 refine .aU q C k (λd5=>?_)
 refine .q (.bj rfl (bH.h _)) ?_
 refine .mo rfl<|.mo rfl ?_
 refine .ia (q-1) .sub ?_
 refine .aU (q-1) C l (λd6=>?_)
 refine .q (.bj rfl (bH.h _)) ?_
 refine .nil ?_
 refine .gP (first:=[]) (captured:=caps) (vs:=[(λp:α=>Value.agg (enc p).toArray) s,(λp:α=>Value.agg (enc p).toArray) t]) (hf s t a9 b0 _ (λb o V=>.inl V)) (λu H=>?_)
 subst H
 refine .q .lss<|.q .not<|.zn ?_
 refine .cond rfl (λb7=>?_) λb7=>?_
 refine .exit (bk (iP (bk (bw (bq ?_)))))
 ·first
   |exact aN (Q,T4) ⟨C,O,Z⟩ kE.c.c.c.c.c.c rH
   |exact aN (A,K) ⟨g,r,Y⟩ kE.c.c.c.c.c.c rH
 refine .kn<|.cq [15,17] mixed ?_
 refine .tO 0 rfl .move<|.tO 1 rfl .move<|.tK 2 rfl .move<|.tK 3 rfl .move ?_
 refine .take 4 rfl (.i64 ((q-1:Nat):Int) .sub ⟨by omega,by omega,by omega⟩) (by kernel_rfl) ?_
 refine .tO 5 rfl .move<|.tO 6 rfl .move ?_
 refine .eF 7 rfl (.i64 ((q-1:Nat):Int) .sub ⟨by omega,by omega,by omega⟩) (by kernel_rfl) ?_
 refine RA.aU 8 rfl (q-1) C l rfl rfl rfl (by kernel_rfl) (λd7=>?_)
 refine .tO 9 rfl (.bj rfl (bH.h _)) ?_
 refine .tO 10 rfl .move<|.tO 11 rfl .move ?_
 refine RA.aU 12 rfl (q) C k rfl rfl rfl (by kernel_rfl) (λd8=>?_)
 refine .tO 13 rfl (.bj rfl (bH.h _)) ?_
 refine RA.aU 14 rfl (q) C k rfl rfl rfl (by kernel_rfl) (λd9=>?_)
 refine .sT 15 rfl ?_
 refine .ee (q) C k t (λb1 a0=>?_) (C.one _ (bD l)) (bH.h _)
 refine .nil (Next.mod rfl ?_)
 refine RA.aU 16 rfl (q-1) C l rfl rfl rfl (by kernel_rfl) (λe0=>?_)
 refine .sT 17 rfl ?_
 obtain⟨zz,a1⟩:∃u,(Q.set (q) t)[q-1]? =some u:=⟨_,bd (by rw[adX];exact(adW.1 l).1)⟩
 refine .ee (q-1) a0 a1 s (λL G=>?_) (C.one _ (bD k)) (bH.h _)
 rw[<-dW k l]at G
 refine .nil (Next.mod rfl ?_)
 refine RA.nil (by kernel_rfl) ?_
 refine bz<|aG<|.region<|.mo rfl ?_
 refine .ia (q+1) .add ?_
 refine .ag rfl<|.nil ?_
 ·exact br (q+1,bY Q q (q-1),L) ⟨⟨by simp only;omega,by simp only;omega⟩,G,O.step (by omega) (by omega) (by omega) (by omega) (by omega),Z.yD (by omega) (by omega) (by omega) (by omega)⟩ (by simp only;omega) kE.c.c.c.c.c.c.c rH
 refine .exit<|bk<|bw<|bq ?_
 ·first
   |exact aN (Q,T4) ⟨C,O,Z⟩ kE.c.c.c.c.c.c rH
   |exact aN (A,K) ⟨g,r,Y⟩ kE.c.c.c.c.c.c rH
 refine .skip ?_
 ·first
   |exact aN (Q,T4) ⟨C,O,Z⟩ kE.c.c.c.c.c.c rH
   |exact aN (A,K) ⟨g,r,Y⟩ kE.c.c.c.c.c.c rH
 intro y D
 obtain⟨us,T5⟩:=y
 obtain⟨b2,b3,b4⟩:=D
 simp only at b2 b3 b4⊢
 refine bz<|aG<|.region<|.mo rfl ?_
 refine .ia (n+1) .add ?_
 refine .ag rfl<|.nil ?_
 ·exact br (n+1,d,us,T5) ⟨⟨by simp only;omega,I,J⟩,b2,b3,b4⟩ (by simp only;omega) kE.c.c.c.c.c.c rH
 refine .exit<|bk<|bw<|bq<|aG<|.sr<|.az rfl ?_
 refine .ret (aO _ (.one (.tmp rfl)) rH ?_)
 ·exact⟨_,rfl,ys,false,rfl,B,N,λh=>by cases h⟩
end
end SG
namespace SG
section
variable{κ:KD}{α:Type}{enc:α->List Value} [en:bH enc κ.sz]{c:α->α->Int}{ok:α->Prop}{f:FuncId}{caps:List Value} [e:ap prog f]
theorem mS(v:Value)(xs:List α)(a b lo hi e:Nat)(s:Int)(R:ao)(h:RS R κ.sz enc v xs)(g:lo<=a/\a<hi)(d:lo<=b/\b<hi)(w:hi<=xs.length)(m:eR prog f caps R (λp:α=>Value.agg (enc p).toArray) c ok)(i:∀x∈xs,ok x):
  Spec prog (κ.p 490) [v,.int .i64 a,.int .i64 b,pT e,.func (.func f) #[] caps.toArray] R [bl e [.int .i64 s] 3] λu H'=>∃T',H'=[T']/\∃(s':Int) (p q:Nat),u=.tuple [.int .i64 p,.int .i64 q].toArray/\T'=(bl e [.int .i64 s'] 3)/\(lo<=p/\p<hi)/\(lo<=q/\q<hi):=by
 have A:=h.ay
 obtain⟨x,j⟩:∃x,xs[b]? =some x:=⟨_,bd (by omega)⟩
 obtain⟨y,k⟩:∃x,xs[a]? =some x:=⟨_,bd (by omega)⟩
 have r:=i x (bD j)
 have t:=i y (bD k)
 refine Spec.js κ.oG rfl results490 ntmps490 rfl ?_
 simp only[cR,oR,iW,adZ,ad0,ad1,ad2,ad3,ad4,κ.t0,κ.t3,κ.t4,κ.t28,κ.t197,κ.t232,κ.t484,κ.t485,κ.t565,κ.t568,κ.t597,κ.gj,κ.gk,κ.gl]
 refine .sr<|.ag rfl<|.ag rfl<|.zs<|.seq ?_
 refine .cM 9 mixed (by kernel_rfl) ?_
 conv=>arg 6;dsimp only[List.take]
 refine .mo rfl<|.mo rfl<|.mo rfl ?_
 refine .cB b h j (λB=>?_)
 refine .q (.bj rfl (bH.h _)) ?_
 refine .mo rfl<|.mo rfl ?_
 refine .cB a h k (λC=>?_)
 refine .q (.bj rfl (bH.h _)) ?_
 refine .nil ?_
 refine .gP (first:=[]) (captured:=caps) (vs:=[(λp:α=>Value.agg (enc p).toArray) x,(λp:α=>Value.agg (enc p).toArray) y]) (m x y r t _ (λb o d=>.inl d)) (λu n=>?_)
 subst n
 refine .q .lss<|.zn ?_
 refine .cond rfl (λl=>?_) λl=>?_
 refine .sr<|.mo rfl<|.nc rfl<|.lo rfl<|.q .add ?_
 refine .nc rfl<|.ca rfl rfl<|.z<|.mo rfl<|.mo rfl<|.ag rfl<|.az rfl ?_
 refine .ret (aR (aO _ (.two (.tmp rfl) (.tmp rfl)) rH ?_))
 ·exact⟨_,rfl,_,b,a,rfl,rfl,d,g⟩
 refine .kn<|.sr<|.mo rfl<|.mo rfl<|.ag rfl<|.az rfl ?_
 refine .ret (aO _ (.two (.tmp rfl) (.tmp rfl)) rH ?_)
 ·exact⟨_,rfl,_,a,b,rfl,rfl,g,d⟩
theorem ph(v:Value)(xs:List α)(a b d lo hi e:Nat)(s:Int)(R:ao)(h:RS R κ.sz enc v xs)(l:lo<=a/\a<hi)(m:lo<=b/\b<hi)(n:lo<=d/\d<hi)(j:hi<=xs.length)(i:eR prog f caps R (λp:α=>Value.agg (enc p).toArray) c ok)(k:∀x∈xs,ok x):
  Spec prog (κ.p 460) [v,.int .i64 a,.int .i64 b,.int .i64 d,pT e,.func (.func f) #[] caps.toArray] R [bl e [.int .i64 s] 3] λu H'=>∃T',H'=[T']/\∃(s':Int) (p:Nat),u=.int .i64 p/\T'=(bl e [.int .i64 s'] 3)/\(lo<=p/\p<hi):=by
 have L:=h.ay
 refine Spec.js κ.oF rfl results460 ntmps460 rfl ?_
 simp only[cR,oR,iW,adZ,ad0,ad1,ad2,ad3,ad4,κ.t0,κ.t3,κ.t4,κ.t28,κ.t197,κ.t232,κ.t484,κ.t485,κ.t565,κ.t568,κ.t597,κ.gj,κ.gk,κ.gl]
 refine .sr<|.ag rfl<|.z<|.mo rfl<|.mo rfl<|.mo rfl<|.mo rfl<|.mo rfl ?_
 refine .aT (mS v xs a b lo hi e s _ h l m j i k) (λu G g=>?_)
 obtain⟨D,y,B,rfl,rfl,o,t⟩:=g
 refine .mo rfl<|.q .extract<|.q .extract<|.ag rfl<|.ag rfl<|.z<|.mo rfl<|.mo rfl<|.mo rfl<|.mo rfl<|.mo rfl ?_
 refine .aT (mS v xs B d lo hi e D _ h t n j i k) (λu H g=>?_)
 obtain⟨E,A,N,rfl,rfl,r,K⟩:=g
 refine .mo rfl<|.q .extract<|.q .extract<|.ag rfl<|.ag rfl<|.z<|.mo rfl<|.mo rfl<|.mo rfl<|.mo rfl<|.mo rfl ?_
 refine .aT (mS v xs y A lo hi e E _ h o r j i k) (λu I g=>?_)
 obtain⟨F,M,C,rfl,rfl,J,w⟩:=g
 refine .mo rfl<|.q .extract<|.q .extract<|.ag rfl<|.ag rfl<|.z<|.mo rfl<|.az rfl ?_
 refine .ret (aO _ (.one (.tmp rfl)) rH ?_)
 ·exact⟨_,rfl,F,C,rfl,rfl,w⟩
theorem mP(v:Value)(xs:List α)(a lo hi b:Nat)(s:Int)(R:ao)(h:RS R κ.sz enc v xs)(n:lo+1<=a/\a+1<hi)(e:hi<=xs.length)(o:xs.length<=1000000000)(d:eR prog f caps R (λp:α=>Value.agg (enc p).toArray) c ok)(g:∀x∈xs,ok x):
  Spec prog (κ.p 459) [v,.int .i64 a,pT b,.func (.func f) #[] caps.toArray] R [bl b [.int .i64 s] 3] λu H'=>∃T',H'=[T']/\∃(s':Int) (p:Nat),u=.int .i64 p/\T'=(bl b [.int .i64 s'] 3)/\(lo<=p/\p<hi):=by
 have q:=h.ay
 refine Spec.js κ.oE rfl results459 ntmps459 rfl ?_
 simp only[cR,oR,iW,adZ,ad0,ad1,ad2,ad3,ad4,κ.t0,κ.t3,κ.t4,κ.t28,κ.t197,κ.t232,κ.t484,κ.t485,κ.t565,κ.t568,κ.t597,κ.gj,κ.gk,κ.gl]
 refine .sr<|.ag rfl<|.z<|.mo rfl<|.mo rfl ?_
 refine .ia (a-1) .sub ?_
 refine .mo rfl<|.mo rfl ?_
 refine .ia (a+1) .add ?_
 refine .mo rfl<|.mo rfl ?_
 refine .aT (ph v xs (a-1) a (a+1) lo hi b s _ h (by omega) (by omega) (by omega) e d g) (λu m j=>?_)
 obtain⟨l,k,rfl,rfl,i⟩:=j
 refine .az rfl ?_
 refine .ret (aO _ (.one (.tmp rfl)) rH ?_)
 ·exact⟨_,rfl,l,k,rfl,rfl,i⟩
theorem choose_spec(v:Value)(xs:List α)(a b:Nat)(R:ao)(h:RS R κ.sz enc v xs)(Y:a<b)(l:b<=xs.length)(w:xs.length<=1000000000)(m:eR prog f caps R (λp:α=>Value.agg (enc p).toArray) c ok)(o:∀x∈xs,ok x):
  Spec prog (κ.p 388) [v,.int .i64 a,.int .i64 b,.func (.func f) #[] caps.toArray] R [] λu H'=>(∃(p:Nat) (t:Int),u=.tuple [.int .i64 p,.int .i64 t].toArray/\a<=p/\p<b)/\H'=[]:=by
 have iv:=h.ay
 obtain⟨n,U⟩:∃n,b=a+n:=⟨b-a,by omega⟩
 subst U
 obtain⟨q,A⟩:∃q,q=n/4:=⟨_,rfl⟩
 refine Spec.js κ.oy rfl results388 ntmps388 rfl ?_
 simp only[cR,oR,iW,adZ,ad0,ad1,ad2,ad3,ad4,κ.t0,κ.t3,κ.t4,κ.t28,κ.t197,κ.t232,κ.t484,κ.t485,κ.t565,κ.t568,κ.t597,κ.gj,κ.gk,κ.gl]
 refine .sr<|.ag rfl<|.ag rfl<|.z<|.mo rfl<|.mo rfl ?_
 refine .ia (n) .sub ?_
 refine .ag rfl<|.z ?_
 refine .p4 (λe=>?_)
 refine .z<|.mo rfl<|.mo rfl ?_
 refine .q (.i64 ((q:Nat):Int) .quo ⟨by rw[A,ad5 (by omega)];omega,by omega,by omega⟩) ?_
 refine .ia (q) .mul ?_
 refine .ia (a+q) .add ?_
 refine .ag rfl<|.z<|.mo rfl<|.mo rfl ?_
 refine .q (.i64 ((q:Nat):Int) .quo ⟨by rw[A,ad5 (by omega)];omega,by omega,by omega⟩) ?_
 refine .ia (q*2) .mul ?_
 refine .ia (a+q*2) .add ?_
 refine .ag rfl<|.z<|.mo rfl<|.mo rfl ?_
 refine .q (.i64 ((q:Nat):Int) .quo ⟨by rw[A,ad5 (by omega)];omega,by omega,by omega⟩) ?_
 refine .ia (q*3) .mul ?_
 refine .ia (a+q*3) .add ?_
 refine .ag rfl<|.zs ?_
 refine bF.cut (X:=Nat×Int) (λz=>a<=z.1/\z.1<a+n) (λz=>[(11,pT e),(13,iN z.1)]) (λz=>[bl e [.int .i64 z.2] 3]) ?_ ?_
 refine .sr<|.mo rfl<|.q .geq<|.zn ?_
 refine .cond rfl (λB=>?_) λB=>?_
 have a0:8<=n:=by have:=bp B;omega
 refine .seq ?_
 refine bF.cut (X:=Nat×Nat×Nat×Int) (λz=>(a<=z.1/\z.1<a+n)/\(a<=z.2.1/\z.2.1<a+n)/\(a<=z.2.2.1/\z.2.2.1<a+n)) (λz=>[(0,v),(3,.func (.func f) #[] caps.toArray),(11,pT e),(12,iN z.1),(13,iN z.2.1),(14,iN z.2.2.1)]) (λz=>[bl e [.int .i64 z.2.2.2] 3]) ?_ ?_
 refine .sr<|.mo rfl<|.q .geq<|.zn ?_
 refine .cond rfl (λC=>?_) λC=>?_
 have Z:50<=n:=by have:=bp C;omega
 refine .sr<|.mo rfl<|.mo rfl<|.mo rfl ?_
 refine .aT (mP v xs (a+q) a (a+n) e 0 _ h (by omega) l w m o) (λu r g=>?_)
 obtain⟨V,K,rfl,rfl,G⟩:=g
 refine .ag rfl<|.z<|.mo rfl<|.mo rfl<|.mo rfl ?_
 refine .aT (mP v xs (a+q*2) a (a+n) e V _ h (by omega) l w m o) (λu r g=>?_)
 obtain⟨W,L,rfl,rfl,H⟩:=g
 refine .az rfl<|.region<|.mo rfl<|.mo rfl<|.mo rfl ?_
 refine .aT (mP v xs (a+q*3) a (a+n) e W _ h (by omega) l w m o) (λu r g=>?_)
 obtain⟨O,M,rfl,rfl,I⟩:=g
 refine .ag rfl<|.nil ?_
 ·first
   |exact aN (K,L,M,O) ⟨G,H,I⟩ kE.c.c.c.c.c.c rH
   |exact aN (a+q,a+q*2,a+q*3,0) ⟨by simp only;omega,by simp only;omega,by simp only;omega⟩ kE.c.c.c.c.c.c rH
 refine .skip ?_
 ·first
   |exact aN (K,L,M,O) ⟨G,H,I⟩ kE.c.c.c.c.c.c rH
   |exact aN (a+q,a+q*2,a+q*3,0) ⟨by simp only;omega,by simp only;omega,by simp only;omega⟩ kE.c.c.c.c.c.c rH
 intro y d
 obtain⟨i,j,k,s⟩:=y
 obtain⟨D,E,F⟩:=d
 simp only at D E F⊢
 refine aG<|.region<|.mo rfl<|.mo rfl<|.mo rfl<|.mo rfl<|.mo rfl ?_
 refine .aT (ph v xs i j k a (a+n) e s _ h D E F l m o) (λu r g=>?_)
 obtain⟨Q,N,rfl,rfl,J⟩:=g
 refine .ag rfl<|.nil ?_
 ·first
   |exact aN (N,Q) J kE.c.c rH
   |exact aN (a+q*2,0) (by simp only;omega) kE.c.c rH
 refine .skip ?_
 ·first
   |exact aN (N,Q) J kE.c.c rH
   |exact aN (a+q*2,0) (by simp only;omega) kE.c.c rH
 intro y d
 obtain⟨p,s⟩:=y
 simp only at d⊢
 refine aG<|.sr<|.lo rfl<|.zn<|.block<|.sr<|.q .cG<|.az rfl ?_
 refine .cond rfl (λS=>?_) λS=>?_
 refine .sr<|.mo rfl<|.ag rfl<|.az rfl ?_
 refine .ret (bi (aO _ (.two (.tmp rfl) (.tmp rfl)) (.none _) ?_))
 ·exact⟨⟨p,_,rfl,d.1,d.2⟩,rfl⟩
 refine .sr<|.q .cG<|.az rfl ?_
 refine .cond rfl (λT=>?_) λT=>?_
 refine .sr<|.mo rfl<|.ag rfl<|.az rfl ?_
 refine .ret (bi (aO _ (.two (.tmp rfl) (.tmp rfl)) (.none _) ?_))
 ·exact⟨⟨p,_,rfl,d.1,d.2⟩,rfl⟩
 refine .sr<|.mo rfl<|.ag rfl<|.az rfl ?_
 refine .ret (bi (aO _ (.two (.tmp rfl) (.tmp rfl)) (.none _) ?_))
 ·exact⟨⟨p,_,rfl,d.1,d.2⟩,rfl⟩
end
end SG
namespace SG
section
variable{κ:KD}{α:Type}{enc:α->List Value} [en:bH enc κ.sz]{c:α->α->Int}{ok:α->Prop}{f:FuncId}{caps:List Value} [e:ap prog f]
theorem sY(v:Value)(xs:List α)(T:au)(a b m:Nat)(p:α)(R:ao)(h:OS (κ.t 144) κ.sz enc v xs T)(b1:a<b)(hm:a<=m/\m<b)(C:xs[m]? =some p)(U:b<=xs.length)(hl:xs.length<=1000000000)(hf:eR prog f caps R (λp:α=>Value.agg (enc p).toArray) c ok)(a0:∀x∈xs,ok x)(so:SO (aM c))
  (b7:∀(k:Nat) (x:α),a<=k->k<b->xs[k]? =some x->aM c x p=false):
  Spec prog (κ.p 391) [v,.int .i64 a,.int .i64 b,.int .i64 m,.func (.func f) #[] caps.toArray] R [T] λu H'=>∃T',H'=[T']/\∃ys mid,u=iN mid/\OS (κ.t 144) κ.sz enc v ys T'/\RP a b xs ys/\pY (aM c) ys a mid b p:=by
 have iv:=h.ay
 obtain⟨x0,E⟩:∃x,xs[a]? =some x:=⟨_,bd (by omega)⟩
 have a8:=a0 p (bD C)
 refine Spec.js κ.oB rfl results391 ntmps391 rfl ?_
 simp only[cR,oR,iW,adZ,ad0,ad1,ad2,ad3,ad4,κ.t0,κ.t3,κ.t4,κ.t28,κ.t197,κ.t232,κ.t484,κ.t485,κ.t565,κ.t568,κ.t597,κ.gj,κ.gk,κ.gl]
 refine .sr<|.ag rfl<|.zs<|.cq [13,15] mixed ?_
 refine .tO 0 rfl .move<|.tO 1 rfl .move<|.tK 2 rfl .move<|.tK 3 rfl .move<|.tO 4 rfl .move<|.tO 5 rfl .move ?_
 refine RA.aU 6 rfl (m) h C rfl rfl rfl (by kernel_rfl) (λd1=>?_)
 refine .tO 7 rfl (.bj rfl (bH.h _)) ?_
 refine .tO 8 rfl .move<|.tO 9 rfl .move ?_
 refine RA.aU 10 rfl (a) h E rfl rfl rfl (by kernel_rfl) (λd2=>?_)
 refine .tO 11 rfl (.bj rfl (bH.h _)) ?_
 refine RA.aU 12 rfl (a) h E rfl rfl rfl (by kernel_rfl) (λd3=>?_)
 refine .sT 13 rfl ?_
 refine .ee (a) h E p (λa9 a1=>?_) (h.one _ (bD C)) (bH.h _)
 refine .nil (Next.mod rfl ?_)
 refine RA.aU 14 rfl (m) h C rfl rfl rfl (by kernel_rfl) (λd4=>?_)
 refine .sT 15 rfl ?_
 obtain⟨zz,a2⟩:∃u,(xs.set (a) p)[m]? =some u:=⟨_,bd (by rw[adX];exact(adW.1 C).1)⟩
 refine .ee (m) a1 a2 x0 (λY K=>?_) (h.one _ (bD E)) (bH.h _)
 rw[<-dW E C]at K
 refine .nil (Next.mod rfl ?_)
 refine RA.nil (by kernel_rfl) ?_
 have b0:RP a b xs (bY xs a m):=(RP.refl xs).step (by omega) (by omega) (by omega) (by omega) (by omega)
 have b2:(bY xs a m)[a]? =some p:=by
  rw[eg (by omega) (by omega)]
  by_cases hk:a=m
  ·rw[ad6 hk,E, <-C, <-hk,E]
  ·rw[adY hk,ad6 rfl,C]
 refine aG<|.sr<|.mo rfl ?_
 refine .ia (a+1) .add ?_
 refine .mo rfl ?_
 refine .ia (b-1) .sub ?_
 refine .ag rfl<|.ag rfl<|.zs<|.block ?_
 refine .loop (X:=Nat×Nat×List α×au) (λy=>OS (κ.t 144) κ.sz enc v y.2.2.1 y.2.2.2/\RP a b xs y.2.2.1/\PQ (λx=> !aM c p x) y.2.2.1 a y.1 y.2.1 b p) (λy=>[(0,v),(1,iN a),(4,.func (.func f) #[] caps.toArray),(11,iN y.1),(12,iN y.2.1)]) (λy=>[y.2.2.2]) (λy=>y.2.1+1-y.1) (a+1,b-1,bY xs a m,Y) ⟨K,b0,.start b1 b2⟩ kE.c.c.c.c.c rH ?_
 rintro⟨i,j,ys,N⟩ ⟨r,D,G⟩
 simp only at r D G⊢
 have d0:=D.length
 have c4:=G.i0
 have c6:=G.ij
 have c8:=G.jb
 have a7:=G.at_
 refine .block<|.seq ?_
 refine bF.cut (X:=Nat) (λs=>i<=s/\PQ (λx=> !aM c p x) ys a s j b p/\∀x,s<=j->ys[s]? =some x->(!aM c p x)=false) (λs=>[(0,v),(1,iN a),(4,.func (.func f) #[] caps.toArray),(11,.int .i64 (s:Nat)),(12,iN j)]) (λ_=>[N]) ?_ ?_
 refine .block ?_
 refine .loop (X:=Nat) (λs=>i<=s/\PQ (λx=> !aM c p x) ys a s j b p) (λs=>[(0,v),(1,iN a),(4,.func (.func f) #[] caps.toArray),(11,.int .i64 (s:Nat)),(12,iN j)]) (λ_=>[N]) (λs=>j+1-s) i ⟨adV _,G⟩ kE.c.c.c.c.c rH ?_
 rintro A ⟨V,I⟩
 refine .seq<|.seq ?_
 refine .cM 13 mixed (by kernel_rfl) ?_
 conv=>arg 6;dsimp only[List.take]
 refine .mo rfl<|.mo rfl<|.q .leq<|.mo rfl ?_
 refine .split (t:=34) rfl (λd=>?_) (λd=>?_)
 have b5:A<=j:=by have:=bp d;omega
 obtain⟨x2,L⟩:∃x,ys[A]? =some x:=⟨_,bd (by omega)⟩
 have c2:=a0 x2 (D.perm.mem_iff.1 (bD L))
 refine .gT d<|.mo rfl<|.gT d<|.mo rfl<|.gT d<|.mo rfl<|.gT d ?_
 refine .aU a r a7 (λd5=>?_)
 refine .gT d<|.q (.bj rfl (bH.h _)) ?_
 refine .gT d<|.mo rfl<|.gT d<|.mo rfl<|.gT d ?_
 refine .aU A r L (λd6=>?_)
 refine .gT d<|.q (.bj rfl (bH.h _)) ?_
 refine .nil<|.gT d ?_
 refine .gP (first:=[]) (captured:=caps) (vs:=[(λp:α=>Value.agg (enc p).toArray) p,(λp:α=>Value.agg (enc p).toArray) x2]) (hf p x2 a8 c2 _ (λb o U=>.inl U)) (λu hu=>?_)
 subst hu
 refine .gT d<|.q .lss<|.gT d<|.q .not<|.q (.bA d) ?_
 refine .zn ?_
 refine .cond rfl (λO=>?_) λO=>?_
 refine .kn<|.block<|.region<|.mo rfl ?_
 refine .ia (A+1) .add ?_
 refine .ag rfl<|.nil<|bz ?_
 ·exact br (A+1) ⟨by omega,I.inc b5 L O⟩ (by omega) kE.c.c.c.c.c rH
 refine .exit<|bk<|bw<|bq ?_
 first
  |exact aN A ⟨V,I,λx g n=>by rw[L]at n;cases n;exact O⟩ kE.c.c.c.c.c rH
  |exact aN A ⟨V,I,λx g n=>by have:=ba d;omega⟩ kE.c.c.c.c.c rH
 refine .gF d<|.gF d<|.gF d<|.gF d<|.gF d<|.gF d<|.gF d<|.gF d<|.gF d<|.nil<|.gF d<|.gF d<|.gF d<|.q (.bg d) ?_
 refine .zn<|.bB<|.exit<|bk<|bw<|bq ?_
 first
  |exact aN A ⟨V,I,λx g n=>by rw[L]at n;cases n;exact O⟩ kE.c.c.c.c.c rH
  |exact aN A ⟨V,I,λx g n=>by have:=ba d;omega⟩ kE.c.c.c.c.c rH
 intro x g
 obtain⟨l,a4⟩:∃l,l=x:=⟨_,rfl⟩
 rw[<-a4]at g⊢
 clear a4 x
 obtain⟨c5,a3,c0⟩:=g
 refine aG<|.seq ?_
 refine bF.cut (X:=Nat) (λw=>w<=j/\PQ (λx=> !aM c p x) ys a l w b p/\∀x,l<=w->ys[w]? =some x->(!aM c p x)=true) (λw=>[(0,v),(1,iN a),(4,.func (.func f) #[] caps.toArray),(11,iN l),(12,.int .i64 (w:Nat))]) (λ_=>[N]) ?_ ?_
 refine .block ?_
 refine .loop (X:=Nat) (λw=>w<=j/\PQ (λx=> !aM c p x) ys a l w b p) (λw=>[(0,v),(1,iN a),(4,.func (.func f) #[] caps.toArray),(11,iN l),(12,.int .i64 (w:Nat))]) (λ_=>[N]) (λw=>w) j ⟨adV _,a3⟩ kE.c.c.c.c.c rH ?_
 rintro B ⟨W,J⟩
 have b4:=a3.i0
 refine .seq<|.seq ?_
 refine .cM 13 mixed (by kernel_rfl) ?_
 conv=>arg 6;dsimp only[List.take]
 refine .mo rfl<|.mo rfl<|.q .leq<|.mo rfl ?_
 refine .split (t:=53) rfl (λe=>?_) (λe=>?_)
 have b6:l<=B:=by have:=bp e;omega
 obtain⟨H,M⟩:∃x,ys[B]? =some x:=⟨_,bd (by omega)⟩
 have c3:=a0 H (D.perm.mem_iff.1 (bD M))
 refine .gT e<|.mo rfl<|.gT e<|.mo rfl<|.gT e<|.mo rfl<|.gT e ?_
 refine .aU a r a7 (λd7=>?_)
 refine .gT e<|.q (.bj rfl (bH.h _)) ?_
 refine .gT e<|.mo rfl<|.gT e<|.mo rfl<|.gT e ?_
 refine .aU B r M (λd8=>?_)
 refine .gT e<|.q (.bj rfl (bH.h _)) ?_
 refine .nil<|.gT e ?_
 refine .gP (first:=[]) (captured:=caps) (vs:=[(λp:α=>Value.agg (enc p).toArray) p,(λp:α=>Value.agg (enc p).toArray) H]) (hf p H a8 c3 _ (λb o U=>.inl U)) (λu hu=>?_)
 subst hu
 refine .gT e<|.q .lss<|.q (.bA e) ?_
 refine .zn ?_
 refine .cond rfl (λQ=>?_) λQ=>?_
 refine .kn<|.block<|.region<|.mo rfl ?_
 refine .ia (B-1) .sub ?_
 refine .ag rfl<|.nil<|bz ?_
 ·have b8:aM c p H=true:=Q
  exact br (B-1) ⟨by omega,J.dec b6 M (by rw[b8];rfl)⟩ (by omega) kE.c.c.c.c.c rH
 refine .exit<|bk<|bw<|bq ?_
 first
  |exact aN B ⟨W,J,λx g n=>by have hh:aM c p H=false:=Q;rw[M]at n;cases n;rw[hh];rfl⟩ kE.c.c.c.c.c rH
  |exact aN B ⟨W,J,λx g n=>by have:=ba e;omega⟩ kE.c.c.c.c.c rH
 refine .gF e<|.gF e<|.gF e<|.gF e<|.gF e<|.gF e<|.gF e<|.gF e<|.gF e<|.nil<|.gF e<|.gF e<|.q (.bg e) ?_
 refine .zn<|.bB<|.exit<|bk<|bw<|bq ?_
 first
  |exact aN B ⟨W,J,λx g n=>by have hh:aM c p H=false:=Q;rw[M]at n;cases n;rw[hh];rfl⟩ kE.c.c.c.c.c rH
  |exact aN B ⟨W,J,λx g n=>by have:=ba e;omega⟩ kE.c.c.c.c.c rH
 intro x g
 obtain⟨z,a5⟩:∃z,z=x:=⟨_,rfl⟩
 rw[<-a5]at g⊢
 clear a5 x
 obtain⟨c9,S,c1⟩:=g
 have b4:=S.i0
 have c7:=S.ij
 refine aG<|.seq<|.sr<|.mo rfl<|.mo rfl<|.q .gtr<|.zn ?_
 refine .cond rfl (λZ=>?_) λZ=>?_
 refine .exit (bk (iP (bw (bq ?_))))
 refine aG<|.sr<|.mo rfl<|.az rfl ?_
 refine .ret (aO _ (.one (.tmp rfl)) rH ?_)
 ·have b3:z<l:=fg Z
  exact⟨_,rfl,ys,l,rfl,r,D,S.wq so b3 (D.all (p:=λx=>aM c x p=false) b7)⟩
 have a6:l<=z:=by have:=ba Z;omega
 obtain⟨x,g⟩:∃x,ys[l]? =some x:=⟨_,bd (by omega)⟩
 obtain⟨y,F⟩:∃x,ys[z]? =some x:=⟨_,bd (by omega)⟩
 have b9:=S.sw a6 (by omega) g F (c0 x (by omega) g) (c1 y a6 F)
 refine .kn<|.seq<|.cq [13,15] mixed ?_
 refine .tO 0 rfl .move<|.tO 1 rfl .move<|.tK 2 rfl .move<|.tK 3 rfl .move<|.tO 4 rfl .move<|.tO 5 rfl .move ?_
 refine RA.aU 6 rfl (z) r F rfl rfl rfl (by kernel_rfl) (λd9=>?_)
 refine .tO 7 rfl (.bj rfl (bH.h _)) ?_
 refine .tO 8 rfl .move<|.tO 9 rfl .move ?_
 refine RA.aU 10 rfl (l) r g rfl rfl rfl (by kernel_rfl) (λe0=>?_)
 refine .tO 11 rfl (.bj rfl (bH.h _)) ?_
 refine RA.aU 12 rfl (l) r g rfl rfl rfl (by kernel_rfl) (λe1=>?_)
 refine .sT 13 rfl ?_
 refine .ee (l) r g y (λa9 a1=>?_) (r.one _ (bD F)) (bH.h _)
 refine .nil (Next.mod rfl ?_)
 refine RA.aU 14 rfl (z) r F rfl rfl rfl (by kernel_rfl) (λe2=>?_)
 refine .sT 15 rfl ?_
 obtain⟨zz,a2⟩:∃u,(ys.set (l) y)[z]? =some u:=⟨_,bd (by rw[adX];exact(adW.1 F).1)⟩
 refine .ee (z) a1 a2 x (λY K=>?_) (r.one _ (bD g)) (bH.h _)
 rw[<-dW g F]at K
 refine .nil (Next.mod rfl ?_)
 refine RA.nil (by kernel_rfl) ?_
 refine aG<|.sr<|.mo rfl ?_
 refine .ia (l+1) .add ?_
 refine .az rfl<|.region<|.mo rfl ?_
 refine .ia (z-1) .sub ?_
 refine .ag rfl<|.nil<|bz ?_
 ·exact br (l+1,z-1,bY ys l z,Y) ⟨K,D.step (by omega) (by omega) (by omega) (by omega) (by omega),b9.2⟩ (by simp only;omega) kE.c.c.c.c.c rH
theorem pA(v:Value)(xs:List α)(T:au)(a b m:Nat)(p:α)(R:ao)(h:OS (κ.t 144) κ.sz enc v xs T)(e0:a<b)(hm:a<=m/\m<b)(U:xs[m]? =some p)(S:b<=xs.length)(hl:xs.length<=1000000000)(hf:eR prog f caps R (λp:α=>Value.agg (enc p).toArray) c ok)(b0:∀x∈xs,ok x)(so:SO (aM c)):
  Spec prog (κ.p 392) [v,.int .i64 a,.int .i64 b,.int .i64 m,.func (.func f) #[] caps.toArray] R [T] λu H'=>∃T',H'=[T']/\∃ys mid z,u=.tuple [iN mid,.bool z].toArray/\OS (κ.t 144) κ.sz enc v ys T'/\RP a b xs ys/\Part (aM c) ys a mid b p:=by
 have iv:=h.ay
 obtain⟨x0,Z⟩:∃x,xs[a]? =some x:=⟨_,bd (by omega)⟩
 have c3:=b0 p (bD U)
 refine Spec.js κ.oC rfl results392 ntmps392 rfl ?_
 simp only[cR,oR,iW,adZ,ad0,ad1,ad2,ad3,ad4,κ.t0,κ.t3,κ.t4,κ.t28,κ.t197,κ.t232,κ.t484,κ.t485,κ.t565,κ.t568,κ.t597,κ.gj,κ.gk,κ.gl]
 refine .sr<|.ag rfl<|.ag rfl<|.zs<|.cq [13,15] mixed ?_
 refine .tO 0 rfl .move<|.tO 1 rfl .move<|.tK 2 rfl .move<|.tK 3 rfl .move<|.tO 4 rfl .move<|.tO 5 rfl .move ?_
 refine RA.aU 6 rfl (m) h U rfl rfl rfl (by kernel_rfl) (λk0=>?_)
 refine .tO 7 rfl (.bj rfl (bH.h _)) ?_
 refine .tO 8 rfl .move<|.tO 9 rfl .move ?_
 refine RA.aU 10 rfl (a) h Z rfl rfl rfl (by kernel_rfl) (λk1=>?_)
 refine .tO 11 rfl (.bj rfl (bH.h _)) ?_
 refine RA.aU 12 rfl (a) h Z rfl rfl rfl (by kernel_rfl) (λk4=>?_)
 refine .sT 13 rfl ?_
 refine .ee (a) h Z p (λb7 J=>?_) (h.one _ (bD U)) (bH.h _)
 refine .nil (Next.mod rfl ?_)
 refine RA.aU 14 rfl (m) h U rfl rfl rfl (by kernel_rfl) (λk5=>?_)
 refine .sT 15 rfl ?_
 obtain⟨zz,K⟩:∃u,(xs.set (a) p)[m]? =some u:=⟨_,bd (by rw[adX];exact(adW.1 U).1)⟩
 refine .ee (m) J K x0 (λV E=>?_) (h.one _ (bD Z)) (bH.h _)
 rw[<-dW Z U]at E
 refine .nil (Next.mod rfl ?_)
 refine RA.nil (by kernel_rfl) ?_
 have a4:RP a b xs (bY xs a m):=(RP.refl xs).step (by omega) (by omega) (by omega) (by omega) (by omega)
 have I:(bY xs a m)[a]? =some p:=by
  rw[eg (by omega) (by omega)]
  by_cases hk:a=m
  ·rw[ad6 hk,Z, <-U, <-hk,Z]
  ·rw[adY hk,ad6 rfl,U]
 obtain⟨D,d5⟩:∃D,D=bY xs a m:=⟨_,rfl⟩
 rw[<-d5]at E a4 I
 obtain⟨T0,d9⟩:∃T0,T0=V:=⟨_,rfl⟩
 rw[<-d9]at E⊢
 have h8:=a4.length
 have A:=E
 clear E
 have d8:PQ (λx=>aM c x p) D a (a+1) (b-1) b p:=.start e0 I
 clear d5
 refine aG<|.sr<|.mo rfl ?_
 refine .ia (a+1) .add ?_
 refine .mo rfl ?_
 refine .ia (b-1) .sub ?_
 refine .ag rfl<|.ag rfl<|.zs ?_
 refine bF.cut (X:=Nat) (λs=>PQ (λx=>aM c x p) D a s (b-1) b p/\∀x,s<=b-1->D[s]? =some x->aM c x p=false) (λs=>[(0,v),(1,iN a),(4,.func (.func f) #[] caps.toArray),(12,.int .i64 (s:Nat)),(13,.int .i64 ((b-1:Nat):Int))]) (λ_=>[T0]) ?_ ?_
 refine .block ?_
 refine .loop (X:=Nat) (λs=>PQ (λx=>aM c x p) D a s (b-1) b p) (λs=>[(0,v),(1,iN a),(4,.func (.func f) #[] caps.toArray),(12,.int .i64 (s:Nat)),(13,.int .i64 ((b-1:Nat):Int))]) (λ_=>[T0]) (λs=>b-s) (a+1) d8 kE.c.c.c.c.c rH ?_
 rintro L a6
 refine .seq<|.seq ?_
 refine .cM 13 mixed (by kernel_rfl) ?_
 conv=>arg 6;dsimp only[List.take]
 refine .mo rfl<|.mo rfl<|.q .leq<|.mo rfl ?_
 refine .split (t:=35) rfl (λn=>?_) (λn=>?_)
 have e4:L<=b-1:=by have:=bp n;omega
 obtain⟨x2,b2⟩:∃x,D[L]? =some x:=⟨_,bd (by omega)⟩
 have f6:=b0 x2 (a4.perm.mem_iff.1 (bD b2))
 refine .gT n<|.mo rfl<|.gT n<|.mo rfl<|.gT n<|.mo rfl<|.gT n ?_
 refine .aU L A b2 (λk6=>?_)
 refine .gT n<|.q (.bj rfl (bH.h _)) ?_
 refine .gT n<|.mo rfl<|.gT n<|.mo rfl<|.gT n ?_
 refine .aU a A I (λk7=>?_)
 refine .gT n<|.q (.bj rfl (bH.h _)) ?_
 refine .nil<|.gT n ?_
 refine .gP (first:=[]) (captured:=caps) (vs:=[(λp:α=>Value.agg (enc p).toArray) x2,(λp:α=>Value.agg (enc p).toArray) p]) (hf x2 p f6 c3 _ (λb o S=>.inl S)) (λu Y=>?_)
 subst Y
 refine .gT n<|.q .lss<|.q (.bA n) ?_
 refine .zn ?_
 refine .cond rfl (λh1=>?_) λh1=>?_
 refine .kn<|.block<|.region<|.mo rfl ?_
 refine .ia (L+1) .add ?_
 refine .ag rfl<|.nil<|bz ?_
 ·exact br (L+1) (a6.inc e4 b2 h1) (by omega) kE.c.c.c.c.c rH
 refine .exit<|bk<|bw<|bq ?_
 first
  |exact aN L ⟨a6,λx d e=>by rw[b2]at e;cases e;exact h1⟩ kE.c.c.c.c.c rH
  |exact aN L ⟨a6,λx d e=>by have:=ba n;omega⟩ kE.c.c.c.c.c rH
 refine .gF n<|.gF n<|.gF n<|.gF n<|.gF n<|.gF n<|.gF n<|.gF n<|.gF n<|.nil<|.gF n<|.gF n<|.q (.bg n) ?_
 refine .zn<|.bB<|.exit<|bk<|bw<|bq ?_
 first
  |exact aN L ⟨a6,λx d e=>by rw[b2]at e;cases e;exact h1⟩ kE.c.c.c.c.c rH
  |exact aN L ⟨a6,λx d e=>by have:=ba n;omega⟩ kE.c.c.c.c.c rH
 intro x d
 obtain⟨B,c7⟩:∃B,B=x:=⟨_,rfl⟩
 rw[<-c7]at d⊢
 clear c7 x
 obtain⟨c5,f2⟩:=d
 refine aG<|.seq ?_
 refine bF.cut (X:=Nat) (λr=>r<=b-1/\PQ (λx=>aM c x p) D a B r b p/\∀x,B<=r->D[r]? =some x->aM c x p=true) (λr=>[(0,v),(1,iN a),(4,.func (.func f) #[] caps.toArray),(12,iN B),(13,.int .i64 (r:Nat))]) (λ_=>[T0]) ?_ ?_
 refine .block ?_
 refine .loop (X:=Nat) (λr=>r<=b-1/\PQ (λx=>aM c x p) D a B r b p) (λr=>[(0,v),(1,iN a),(4,.func (.func f) #[] caps.toArray),(12,iN B),(13,.int .i64 (r:Nat))]) (λ_=>[T0]) (λr=>r) (b-1) ⟨adV _,c5⟩ kE.c.c.c.c.c rH ?_
 rintro M ⟨c0,a7⟩
 have e2:=c5.i0
 refine .seq<|.seq ?_
 refine .cM 13 mixed (by kernel_rfl) ?_
 conv=>arg 6;dsimp only[List.take]
 refine .mo rfl<|.mo rfl<|.q .leq<|.mo rfl ?_
 refine .split (t:=53) rfl (λk=>?_) (λk=>?_)
 have e5:B<=M:=by have:=bp k;omega
 obtain⟨x4,b3⟩:∃x,D[M]? =some x:=⟨_,bd (by omega)⟩
 have f7:=b0 x4 (a4.perm.mem_iff.1 (bD b3))
 refine .gT k<|.mo rfl<|.gT k<|.mo rfl<|.gT k<|.mo rfl<|.gT k ?_
 refine .aU M A b3 (λk8=>?_)
 refine .gT k<|.q (.bj rfl (bH.h _)) ?_
 refine .gT k<|.mo rfl<|.gT k<|.mo rfl<|.gT k ?_
 refine .aU a A I (λk9=>?_)
 refine .gT k<|.q (.bj rfl (bH.h _)) ?_
 refine .nil<|.gT k ?_
 refine .gP (first:=[]) (captured:=caps) (vs:=[(λp:α=>Value.agg (enc p).toArray) x4,(λp:α=>Value.agg (enc p).toArray) p]) (hf x4 p f7 c3 _ (λb o S=>.inl S)) (λu Y=>?_)
 subst Y
 refine .gT k<|.q .lss<|.gT k<|.q .not<|.q (.bA k) ?_
 refine .zn ?_
 refine .cond rfl (λh2=>?_) λh2=>?_
 refine .kn<|.block<|.region<|.mo rfl ?_
 refine .ia (M-1) .sub ?_
 refine .ag rfl<|.nil<|bz ?_
 ·have e8:aM c x4 p=false:=by
   have d6:(!aM c x4 p)=true:=h2
   simpa using d6
  exact br (M-1) ⟨by omega,a7.dec e5 b3 e8⟩ (by omega) kE.c.c.c.c.c rH
 refine .exit<|bk<|bw<|bq ?_
 first
  |exact aN M ⟨c0,a7,λx d e=>by
    have W:(!aM c x4 p)=false:=h2
    rw[b3]at e;cases e
    simpa using W⟩ kE.c.c.c.c.c rH
  |exact aN M ⟨c0,a7,λx d e=>by have:=ba k;omega⟩ kE.c.c.c.c.c rH
 refine .gF k<|.gF k<|.gF k<|.gF k<|.gF k<|.gF k<|.gF k<|.gF k<|.gF k<|.nil<|.gF k<|.gF k<|.gF k<|.q (.bg k) ?_
 refine .zn<|.bB<|.exit<|bk<|bw<|bq ?_
 first
  |exact aN M ⟨c0,a7,λx d e=>by
    have W:(!aM c x4 p)=false:=h2
    rw[b3]at e;cases e
    simpa using W⟩ kE.c.c.c.c.c rH
  |exact aN M ⟨c0,a7,λx d e=>by have:=ba k;omega⟩ kE.c.c.c.c.c rH
 intro x d
 obtain⟨w,c8⟩:∃w,w=x:=⟨_,rfl⟩
 rw[<-c8]at d⊢
 clear c8 x
 obtain⟨g9,b8,f3⟩:=d
 have e2:=b8.i0
 have g3:=b8.ij
 refine aG<|.seq<|.sr<|.mo rfl<|.mo rfl<|.q .gtr<|.zn ?_
 refine .cond rfl (λh3=>?_) λh3=>?_
 have e1:w<B:=fg h3
 obtain⟨y,G⟩:∃x,D[w]? =some x:=⟨_,bd (by omega)⟩
 refine .seq<|.cq [13,15] mixed ?_
 refine .tO 0 rfl .move<|.tO 1 rfl .move<|.tK 2 rfl .move<|.tK 3 rfl .move<|.tO 4 rfl .move<|.tO 5 rfl .move ?_
 refine RA.aU 6 rfl (a) A I rfl rfl rfl (by kernel_rfl) (λl0=>?_)
 refine .tO 7 rfl (.bj rfl (bH.h _)) ?_
 refine .tO 8 rfl .move<|.tO 9 rfl .move ?_
 refine RA.aU 10 rfl (w) A G rfl rfl rfl (by kernel_rfl) (λl1=>?_)
 refine .tO 11 rfl (.bj rfl (bH.h _)) ?_
 refine RA.aU 12 rfl (w) A G rfl rfl rfl (by kernel_rfl) (λl2=>?_)
 refine .sT 13 rfl ?_
 refine .ee (w) A G p (λb7 J=>?_) (A.one _ (bD I)) (bH.h _)
 refine .nil (Next.mod rfl ?_)
 refine RA.aU 14 rfl (a) A I rfl rfl rfl (by kernel_rfl) (λl3=>?_)
 refine .sT 15 rfl ?_
 obtain⟨zz,K⟩:∃u,(D.set (w) p)[a]? =some u:=⟨_,bd (by rw[adX];exact(adW.1 I).1)⟩
 refine .ee (a) J K y (λV E=>?_) (A.one _ (bD G)) (bH.h _)
 rw[<-dW G I]at E
 refine .nil (Next.mod rfl ?_)
 refine RA.nil (by kernel_rfl) ?_
 refine aG<|.sr<|.mo rfl<|.ag rfl<|.az rfl ?_
 refine .ret (aR (aO _ (.two (.tmp rfl) (.tmp rfl)) rH ?_))
 ·exact⟨_,rfl,bY D w a,w,true,rfl,E,a4.step (by omega) (by omega) (by omega) (by omega) (by omega),b8.fin e1 (by omega)⟩
 have d1:B<=w:=by have:=ba h3;omega
 obtain⟨x,d⟩:∃x,D[B]? =some x:=⟨_,bd (by omega)⟩
 obtain⟨y,G⟩:∃x,D[w]? =some x:=⟨_,bd (by omega)⟩
 have f0:=b8.sw d1 (by omega) d G (f2 x (by omega) d) (f3 y d1 G)
 refine .kn<|.seq<|.cq [13,15] mixed ?_
 refine .tO 0 rfl .move<|.tO 1 rfl .move<|.tK 2 rfl .move<|.tK 3 rfl .move<|.tO 4 rfl .move<|.tO 5 rfl .move ?_
 refine RA.aU 6 rfl (w) A G rfl rfl rfl (by kernel_rfl) (λl4=>?_)
 refine .tO 7 rfl (.bj rfl (bH.h _)) ?_
 refine .tO 8 rfl .move<|.tO 9 rfl .move ?_
 refine RA.aU 10 rfl (B) A d rfl rfl rfl (by kernel_rfl) (λl5=>?_)
 refine .tO 11 rfl (.bj rfl (bH.h _)) ?_
 refine RA.aU 12 rfl (B) A d rfl rfl rfl (by kernel_rfl) (λl6=>?_)
 refine .sT 13 rfl ?_
 refine .ee (B) A d y (λb7 J=>?_) (A.one _ (bD G)) (bH.h _)
 refine .nil (Next.mod rfl ?_)
 refine RA.aU 14 rfl (w) A G rfl rfl rfl (by kernel_rfl) (λi1=>?_)
 refine .sT 15 rfl ?_
 obtain⟨zz,K⟩:∃u,(D.set (B) y)[w]? =some u:=⟨_,bd (by rw[adX];exact(adW.1 G).1)⟩
 refine .ee (w) J K x (λV E=>?_) (A.one _ (bD d)) (bH.h _)
 rw[<-dW d G]at E
 refine .nil (Next.mod rfl ?_)
 refine RA.nil (by kernel_rfl) ?_
 refine aG<|.sr<|.mo rfl ?_
 refine .ia (B+1) .add ?_
 refine .ag rfl<|.z<|.mo rfl ?_
 refine .ia (w-1) .sub ?_
 refine .ag rfl<|.zs ?_
 refine bF.cut (X:=Nat×Nat×List α×au) (λy=>OS (κ.t 144) κ.sz enc v y.2.2.1 y.2.2.2/\RP a b xs y.2.2.1/\PQ (λx=>aM c x p) y.2.2.1 a y.1 y.2.1 b p/\y.2.1<y.1) (λy=>[(0,v),(1,iN a),(4,.func (.func f) #[] caps.toArray),(12,iN y.1),(13,iN y.2.1)]) (λy=>[y.2.2.2]) ?_ ?_
 refine .block ?_
 refine .loop (X:=Nat×Nat×List α×au) (λy=>OS (κ.t 144) κ.sz enc v y.2.2.1 y.2.2.2/\RP a b xs y.2.2.1/\PQ (λx=>aM c x p) y.2.2.1 a y.1 y.2.1 b p) (λy=>[(0,v),(1,iN a),(4,.func (.func f) #[] caps.toArray),(12,iN y.1),(13,iN y.2.1)]) (λy=>[y.2.2.2]) (λy=>y.2.1+1-y.1) (B+1,w-1,bY D B w,V) ⟨E,a4.step (by omega) (by omega) (by omega) (by omega) (by omega),f0.2⟩ kE.c.c.c.c.c rH ?_
 rintro⟨i,j,ys,T1⟩ ⟨F,a5,a2⟩
 simp only at F a5 a2⊢
 have h7:=a5.length
 have g0:=a2.i0
 have g2:=a2.ij
 have g7:=a2.jb
 have d4:=a2.at_
 refine .block<|.seq ?_
 refine bF.cut (X:=Nat) (λs=>i<=s/\PQ (λx=>aM c x p) ys a s j b p/\∀x,s<=j->ys[s]? =some x->aM c x p=false) (λs=>[(0,v),(1,iN a),(4,.func (.func f) #[] caps.toArray),(12,.int .i64 (s:Nat)),(13,iN j)]) (λ_=>[T1]) ?_ ?_
 refine .block ?_
 refine .loop (X:=Nat) (λs=>i<=s/\PQ (λx=>aM c x p) ys a s j b p) (λs=>[(0,v),(1,iN a),(4,.func (.func f) #[] caps.toArray),(12,.int .i64 (s:Nat)),(13,iN j)]) (λ_=>[T1]) (λs=>j+1-s) i ⟨adV _,a2⟩ kE.c.c.c.c.c rH ?_
 rintro N ⟨c1,a8⟩
 refine .seq<|.seq ?_
 refine .cM 13 mixed (by kernel_rfl) ?_
 conv=>arg 6;dsimp only[List.take]
 refine .mo rfl<|.mo rfl<|.q .leq<|.mo rfl ?_
 refine .split (t:=108) rfl (λl=>?_) (λl=>?_)
 have e6:N<=j:=by have:=bp l;omega
 obtain⟨x6,b4⟩:∃x,ys[N]? =some x:=⟨_,bd (by omega)⟩
 have f8:=b0 x6 (a5.perm.mem_iff.1 (bD b4))
 refine .gT l<|.mo rfl<|.gT l<|.mo rfl<|.gT l<|.mo rfl<|.gT l ?_
 refine .aU N F b4 (λi4=>?_)
 refine .gT l<|.q (.bj rfl (bH.h _)) ?_
 refine .gT l<|.mo rfl<|.gT l<|.mo rfl<|.gT l ?_
 refine .aU a F d4 (λi5=>?_)
 refine .gT l<|.q (.bj rfl (bH.h _)) ?_
 refine .nil<|.gT l ?_
 refine .gP (first:=[]) (captured:=caps) (vs:=[(λp:α=>Value.agg (enc p).toArray) x6,(λp:α=>Value.agg (enc p).toArray) p]) (hf x6 p f8 c3 _ (λb o S=>.inl S)) (λu Y=>?_)
 subst Y
 refine .gT l<|.q .lss<|.q (.bA l) ?_
 refine .zn ?_
 refine .cond rfl (λh4=>?_) λh4=>?_
 refine .kn<|.block<|.region<|.mo rfl ?_
 refine .ia (N+1) .add ?_
 refine .ag rfl<|.nil<|bz ?_
 ·exact br (N+1) ⟨by omega,a8.inc e6 b4 h4⟩ (by omega) kE.c.c.c.c.c rH
 refine .exit<|bk<|bw<|bq ?_
 first
  |exact aN N ⟨c1,a8,λx d e=>by rw[b4]at e;cases e;exact h4⟩ kE.c.c.c.c.c rH
  |exact aN N ⟨c1,a8,λx d e=>by have:=ba l;omega⟩ kE.c.c.c.c.c rH
 refine .gF l<|.gF l<|.gF l<|.gF l<|.gF l<|.gF l<|.gF l<|.gF l<|.gF l<|.nil<|.gF l<|.gF l<|.q (.bg l) ?_
 refine .zn<|.bB<|.exit<|bk<|bw<|bq ?_
 first
  |exact aN N ⟨c1,a8,λx d e=>by rw[b4]at e;cases e;exact h4⟩ kE.c.c.c.c.c rH
  |exact aN N ⟨c1,a8,λx d e=>by have:=ba l;omega⟩ kE.c.c.c.c.c rH
 intro x d
 obtain⟨C,d0⟩:∃C,C=x:=⟨_,rfl⟩
 rw[<-d0]at d⊢
 clear d0 x
 obtain⟨g6,c6,f4⟩:=d
 refine aG<|.seq ?_
 refine bF.cut (X:=Nat) (λr=>r<=j/\PQ (λx=>aM c x p) ys a C r b p/\∀x,C<=r->ys[r]? =some x->aM c x p=true) (λr=>[(0,v),(1,iN a),(4,.func (.func f) #[] caps.toArray),(12,iN C),(13,.int .i64 (r:Nat))]) (λ_=>[T1]) ?_ ?_
 refine .block ?_
 refine .loop (X:=Nat) (λr=>r<=j/\PQ (λx=>aM c x p) ys a C r b p) (λr=>[(0,v),(1,iN a),(4,.func (.func f) #[] caps.toArray),(12,iN C),(13,.int .i64 (r:Nat))]) (λ_=>[T1]) (λr=>r) j ⟨adV _,c6⟩ kE.c.c.c.c.c rH ?_
 rintro O ⟨c2,a9⟩
 have e3:=c6.i0
 refine .seq<|.seq ?_
 refine .cM 13 mixed (by kernel_rfl) ?_
 conv=>arg 6;dsimp only[List.take]
 refine .mo rfl<|.mo rfl<|.q .leq<|.mo rfl ?_
 refine .split (t:=126) rfl (λg=>?_) (λg=>?_)
 have e7:C<=O:=by have:=bp g;omega
 obtain⟨x7,b5⟩:∃x,ys[O]? =some x:=⟨_,bd (by omega)⟩
 have f9:=b0 x7 (a5.perm.mem_iff.1 (bD b5))
 refine .gT g<|.mo rfl<|.gT g<|.mo rfl<|.gT g<|.mo rfl<|.gT g ?_
 refine .aU O F b5 (λi6=>?_)
 refine .gT g<|.q (.bj rfl (bH.h _)) ?_
 refine .gT g<|.mo rfl<|.gT g<|.mo rfl<|.gT g ?_
 refine .aU a F d4 (λi7=>?_)
 refine .gT g<|.q (.bj rfl (bH.h _)) ?_
 refine .nil<|.gT g ?_
 refine .gP (first:=[]) (captured:=caps) (vs:=[(λp:α=>Value.agg (enc p).toArray) x7,(λp:α=>Value.agg (enc p).toArray) p]) (hf x7 p f9 c3 _ (λb o S=>.inl S)) (λu Y=>?_)
 subst Y
 refine .gT g<|.q .lss<|.gT g<|.q .not<|.q (.bA g) ?_
 refine .zn ?_
 refine .cond rfl (λh5=>?_) λh5=>?_
 refine .kn<|.block<|.region<|.mo rfl ?_
 refine .ia (O-1) .sub ?_
 refine .ag rfl<|.nil<|bz ?_
 ·have e9:aM c x7 p=false:=by
   have d7:(!aM c x7 p)=true:=h5
   simpa using d7
  exact br (O-1) ⟨by omega,a9.dec e7 b5 e9⟩ (by omega) kE.c.c.c.c.c rH
 refine .exit<|bk<|bw<|bq ?_
 first
  |exact aN O ⟨c2,a9,λx d e=>by
    have W:(!aM c x7 p)=false:=h5
    rw[b5]at e;cases e
    simpa using W⟩ kE.c.c.c.c.c rH
  |exact aN O ⟨c2,a9,λx d e=>by have:=ba g;omega⟩ kE.c.c.c.c.c rH
 refine .gF g<|.gF g<|.gF g<|.gF g<|.gF g<|.gF g<|.gF g<|.gF g<|.gF g<|.nil<|.gF g<|.gF g<|.gF g<|.q (.bg g) ?_
 refine .zn<|.bB<|.exit<|bk<|bw<|bq ?_
 first
  |exact aN O ⟨c2,a9,λx d e=>by
    have W:(!aM c x7 p)=false:=h5
    rw[b5]at e;cases e
    simpa using W⟩ kE.c.c.c.c.c rH
  |exact aN O ⟨c2,a9,λx d e=>by have:=ba g;omega⟩ kE.c.c.c.c.c rH
 intro x d
 obtain⟨H,d3⟩:∃H,H=x:=⟨_,rfl⟩
 rw[<-d3]at d⊢
 clear d3 x
 obtain⟨h0,b9,f5⟩:=d
 have e3:=b9.i0
 have g4:=b9.ij
 refine aG<|.seq<|.sr<|.mo rfl<|.mo rfl<|.q .gtr<|.zn ?_
 refine .cond rfl (λh6=>?_) λh6=>?_
 refine .exit (bk (iP (bw (bq ?_))))
 exact aN (C,H,ys,T1) ⟨F,a5,b9,by have:=bp h6;simp only;omega⟩ kE.c.c.c.c.c rH
 have d2:C<=H:=by have:=ba h6;omega
 obtain⟨x8,a0⟩:∃x,ys[C]? =some x:=⟨_,bd (by omega)⟩
 obtain⟨y8,a1⟩:∃x,ys[H]? =some x:=⟨_,bd (by omega)⟩
 have f1:=b9.sw d2 (by omega) a0 a1 (f4 x8 (by omega) a0) (f5 y8 d2 a1)
 refine .kn<|.seq<|.cq [13,15] mixed ?_
 refine .tO 0 rfl .move<|.tO 1 rfl .move<|.tK 2 rfl .move<|.tK 3 rfl .move<|.tO 4 rfl .move<|.tO 5 rfl .move ?_
 refine RA.aU 6 rfl (H) F a1 rfl rfl rfl (by kernel_rfl) (λi8=>?_)
 refine .tO 7 rfl (.bj rfl (bH.h _)) ?_
 refine .tO 8 rfl .move<|.tO 9 rfl .move ?_
 refine RA.aU 10 rfl (C) F a0 rfl rfl rfl (by kernel_rfl) (λj0=>?_)
 refine .tO 11 rfl (.bj rfl (bH.h _)) ?_
 refine RA.aU 12 rfl (C) F a0 rfl rfl rfl (by kernel_rfl) (λj1=>?_)
 refine .sT 13 rfl ?_
 refine .ee (C) F a0 y8 (λb7 J=>?_) (F.one _ (bD a1)) (bH.h _)
 refine .nil (Next.mod rfl ?_)
 refine RA.aU 14 rfl (H) F a1 rfl rfl rfl (by kernel_rfl) (λj4=>?_)
 refine .sT 15 rfl ?_
 obtain⟨zz,K⟩:∃u,(ys.set (C) y8)[H]? =some u:=⟨_,bd (by rw[adX];exact(adW.1 a1).1)⟩
 refine .ee (H) J K x8 (λV E=>?_) (F.one _ (bD a0)) (bH.h _)
 rw[<-dW a0 a1]at E
 refine .nil (Next.mod rfl ?_)
 refine RA.nil (by kernel_rfl) ?_
 refine aG<|.sr<|.mo rfl ?_
 refine .ia (C+1) .add ?_
 refine .az rfl<|.region<|.mo rfl ?_
 refine .ia (H-1) .sub ?_
 refine .ag rfl<|.nil<|bz ?_
 ·exact br (C+1,H-1,bY ys C H,V) ⟨E,a5.step (by omega) (by omega) (by omega) (by omega) (by omega),f1.2⟩ (by simp only;omega) kE.c.c.c.c.c rH
 intro x d
 obtain⟨i9,j9,zs,T9⟩:=x
 obtain⟨Q,c4,a3,c9⟩:=d
 simp only at Q c4 a3 c9⊢
 have h9:=c4.length
 have g5:=a3.ij
 have g1:=a3.i0
 have g8:=a3.jb
 have b1:=a3.at_
 obtain⟨y9,b6⟩:∃x,zs[j9]? =some x:=⟨_,bd (by omega)⟩
 refine aG<|.seq<|.cq [13,15] mixed ?_
 refine .tO 0 rfl .move<|.tO 1 rfl .move<|.tK 2 rfl .move<|.tK 3 rfl .move<|.tO 4 rfl .move<|.tO 5 rfl .move ?_
 refine RA.aU 6 rfl (a) Q b1 rfl rfl rfl (by kernel_rfl) (λj5=>?_)
 refine .tO 7 rfl (.bj rfl (bH.h _)) ?_
 refine .tO 8 rfl .move<|.tO 9 rfl .move ?_
 refine RA.aU 10 rfl (j9) Q b6 rfl rfl rfl (by kernel_rfl) (λj6=>?_)
 refine .tO 11 rfl (.bj rfl (bH.h _)) ?_
 refine RA.aU 12 rfl (j9) Q b6 rfl rfl rfl (by kernel_rfl) (λj7=>?_)
 refine .sT 13 rfl ?_
 refine .ee (j9) Q b6 p (λb7 J=>?_) (Q.one _ (bD b1)) (bH.h _)
 refine .nil (Next.mod rfl ?_)
 refine RA.aU 14 rfl (a) Q b1 rfl rfl rfl (by kernel_rfl) (λj8=>?_)
 refine .sT 15 rfl ?_
 obtain⟨zz,K⟩:∃u,(zs.set (j9) p)[a]? =some u:=⟨_,bd (by rw[adX];exact(adW.1 b1).1)⟩
 refine .ee (a) J K y9 (λV E=>?_) (Q.one _ (bD b6)) (bH.h _)
 rw[<-dW b6 b1]at E
 refine .nil (Next.mod rfl ?_)
 refine RA.nil (by kernel_rfl) ?_
 refine aG<|.sr<|.mo rfl<|.ag rfl<|.az rfl ?_
 refine .ret (aO _ (.two (.tmp rfl) (.tmp rfl)) rH ?_)
 ·exact⟨_,rfl,bY zs j9 a,j9,false,rfl,E,c4.step (by omega) (by omega) (by omega) (by omega) (by omega),a3.fin c9 (by omega)⟩
end
end SG
namespace SG
section
variable{κ:KD}{α:Type}{enc:α->List Value} [en:bH enc κ.sz]{c:α->α->Int}{ok:α->Prop}{f:FuncId}{caps:List Value} [e:ap prog f]
def oN(c:α->α->Int)(ok:α->Prop)(f:FuncId)(caps:List Value)(n:Nat):Prop:=∀(v:Value) (xs:List α) (T:au) (a b lim:Nat) (R:ao),OS (κ.t 144) κ.sz enc v xs T->a<=b->b<=xs.length->xs.length<=1000000000->lim<=1000000000->eR prog f caps R (λp:α=>Value.agg (enc p).toArray) c ok->(∀x∈xs,ok x)->LB (aM c) xs a b->b-a<n->
  Spec prog (κ.p 289) [v,.int .i64 a,.int .i64 b,.int .i64 lim,.func (.func f) #[] caps.toArray] R [T] λu H'=>∃T',H'=[T']/\u=.tuple #[]/\∃ys,OS (κ.t 144) κ.sz enc v ys T'/\RP a b xs ys/\SR (aM c) ys a b
theorem tg(n:Nat)(ih:oN (κ:=κ) (enc:=enc) c ok f caps n)(D:SO (aM c))(v:Value)(xs:List α)(T:au)(H F c7:Nat)(R:ao)(h:OS (κ.t 144) κ.sz enc v xs T)(d6:H<=F)(hb:F<=xs.length)(hl:xs.length<=1000000000)(e0:c7<=1000000000)(O:eR prog f caps R (λp:α=>Value.agg (enc p).toArray) c ok)(e2:∀x∈xs,ok x)(d8:LB (aM c) xs H F)(hn:F-H<n+1):
  Spec prog (κ.p 289) [v,.int .i64 H,.int .i64 F,.int .i64 c7,.func (.func f) #[] caps.toArray] R [T] λu H'=>∃T',H'=[T']/\u=.tuple #[]/\∃ys,OS (κ.t 144) κ.sz enc v ys T'/\RP H F xs ys/\SR (aM c) ys H F:=by
 have iv:=h.ay
 refine Spec.js κ.ou rfl results289 ntmps289 rfl ?_
 simp only[cR,oR,iW,adZ,ad0,ad1,ad2,ad3,ad4,κ.t0,κ.t3,κ.t4,κ.t28,κ.t197,κ.t232,κ.t484,κ.t485,κ.t565,κ.t568,κ.t597,κ.gj,κ.gk,κ.gl]
 refine .sr<|.ag rfl<|.z<|.az rfl<|.block ?_
 refine .loop (X:=Nat×Nat×Nat×Bool×Bool×List α×au) (λy=>(H<=y.1/\y.1<=y.2.1/\y.2.1<=F/\y.2.2.1<=1000000000)/\OS (κ.t 144) κ.sz enc v y.2.2.2.2.2.1 y.2.2.2.2.2.2/\RP H F xs y.2.2.2.2.2.1/\OX (aM c) y.2.2.2.2.2.1 H F y.1 y.2.1) (λy=>[(0,v),(1,iN y.1),(2,iN y.2.1),(3,iN y.2.2.1),(4,.func (.func f) #[] caps.toArray),(10,.bool y.2.2.2.1),(11,.bool y.2.2.2.2.1)]) (λy=>[y.2.2.2.2.2.2]) (λy=>y.2.1-y.1) (H,F,c7,true,true,xs,T) ⟨⟨adV _,d6,adV _,e0⟩,h,.refl _,.start⟩ kE.c.c.c.c.c.c.c rH ?_
 rintro⟨a,b,l,wb,wp,ys,T1⟩ ⟨⟨e,c1,g,d7⟩,b1,U,Z⟩
 simp only at e c1 g d7 b1 U Z⊢
 have f0:=U.length
 have b8:∀x∈ys,ok x:=λx W=>e2 x (U.perm.mem_iff.1 W)
 have d1:=Z.lb (d8.rp U) e g
 refine .block<|.sr<|.mo rfl<|.mo rfl ?_
 refine .ia (b-a) .sub ?_
 refine .ag rfl<|.zs<|.sr<|.mo rfl<|.q .leq<|.zn ?_
 refine .cond rfl (λh1=>?_) λh1=>?_
 refine .sr<|.mo rfl<|.mo rfl<|.mo rfl<|.mo rfl ?_
 refine .aT (sB v ys T1 a b _ b1 c1 (by omega) (by omega) O b8 D) (λu T2 k=>?_)
 obtain⟨rfl,N,I,B,c0⟩:=k
 refine .zn ?_
 refine .ret (aR (bi (cK (bi (aO _ .none rH ?_)))))
 ·first
   |exact⟨_,rfl,rfl,N,I,U.trans (B.mono e g (by omega)),(Z.rp B e g).jq c0⟩
   |exact⟨_,rfl,rfl,ms,a2,U.trans ((C.trans Y).mono e g (by omega)),(Z.rp (C.trans Y) e g).jq (c4 (by assumption))⟩
 have f4:12<b-a:=by have:=ba h1;omega
 refine .kn<|.seq<|.sr<|.mo rfl<|.q .cG<|.zn ?_
 refine .cond rfl (λh2=>?_) λh2=>?_
 refine .sr<|.mo rfl<|.mo rfl<|.mo rfl<|.mo rfl ?_
 refine .aT (sy v ys T1 a b _ b1 c1 (by omega) (by omega) O b8 D) (λu T2 k=>?_)
 obtain⟨rfl,N,I,B,c0⟩:=k
 refine .zn ?_
 refine .ret (aR (bi (cK (bi (aO _ .none rH ?_)))))
 ·first
   |exact⟨_,rfl,rfl,N,I,U.trans (B.mono e g (by omega)),(Z.rp B e g).jq c0⟩
   |exact⟨_,rfl,rfl,ms,a2,U.trans ((C.trans Y).mono e g (by omega)),(Z.rp (C.trans Y) e g).jq (c4 (by assumption))⟩
 have e9:0<l:=by
  have e8:¬((l:Int)=0):=by simpa using h2
  omega
 refine .kn<|.seq ?_
 refine bF.cut (X:=Nat×List α×au) (λz=>z.1<=1000000000/\OS (κ.t 144) κ.sz enc v z.2.1 z.2.2/\RP a b ys z.2.1) (λz=>[(0,v),(1,iN a),(2,iN b),(3,iN z.1),(4,.func (.func f) #[] caps.toArray),(10,.bool wb),(11,.bool wp),(12,.int .i64 ((b-a:Nat):Int))]) (λz=>[z.2.2]) ?_ ?_
 refine .sr<|.mo rfl<|.q .not<|.zn ?_
 refine .cond rfl (λh3=>?_) λh3=>?_
 refine .sr<|.mo rfl<|.mo rfl<|.mo rfl<|.mo rfl ?_
 refine .aT (rM v ys T1 a b _ (.func (.func f) #[] caps.toArray) inferInstance b1 c1 (by omega) (by omega)) (λu T2 k=>?_)
 obtain⟨rfl,N,I,B⟩:=k
 refine .zn<|.region<|.mo rfl ?_
 refine .ia (l-1) .sub ?_
 refine .ag rfl<|.nil ?_
 ·first
   |exact aN (l-1,N,T2) ⟨by simp only;omega,I,B⟩ kE.c.c.c.c.c.c.c.c rH
   |exact aN (l,ys,T1) ⟨by simp only;omega,b1,.refl _⟩ kE.c.c.c.c.c.c.c.c rH
 refine .skip ?_
 ·first
   |exact aN (l-1,N,T2) ⟨by simp only;omega,I,B⟩ kE.c.c.c.c.c.c.c.c rH
   |exact aN (l,ys,T1) ⟨by simp only;omega,b1,.refl _⟩ kE.c.c.c.c.c.c.c.c rH
 intro y hy
 obtain⟨r,N,T2⟩:=y
 obtain⟨s,I,B⟩:=hy
 simp only at s I B⊢
 have f1:=B.length
 have e3:∀x∈N,ok x:=λx W=>b8 x (B.perm.mem_iff.1 W)
 refine aG<|.sr<|.mo rfl<|.mo rfl<|.mo rfl<|.mo rfl ?_
 refine .aH (choose_spec v N a b _ (I.rs λp hp=>.inr (by simpa using hp)) (by omega) (by omega) (by omega) (O.mono λb o hb=>.inl hb) e3) (λu k=>?_)
 obtain⟨pv,d0,rfl,d2,d3⟩:=k
 refine .mo rfl<|.q .extract<|.q .extract<|.ag rfl<|.ag rfl<|.zs ?_
 refine bF.cut (X:=Nat×Int×List α×au) (λz=>(a<=z.1/\z.1<b)/\OS (κ.t 144) κ.sz enc v z.2.2.1 z.2.2.2/\RP a b ys z.2.2.1) (λz=>[(0,v),(1,iN a),(2,iN b),(3,iN r),(4,.func (.func f) #[] caps.toArray),(10,.bool wb),(11,.bool wp),(12,.int .i64 ((b-a:Nat):Int)),(13,iN z.1),(14,.int .i64 z.2.1)]) (λz=>[z.2.2.2]) ?_ ?_
 refine .sr<|.mo rfl<|.q .cG<|.zn ?_
 refine .cond rfl (λh4=>?_) λh4=>?_
 refine .sr<|.mo rfl<|.mo rfl<|.mo rfl<|.mo rfl ?_
 refine .aT (tB v N T2 a b _ (.func (.func f) #[] caps.toArray) inferInstance I (by omega) (by omega) (by omega)) (λu T3 k=>?_)
 obtain⟨rfl,ws,c8,c9⟩:=k
 refine .z<|.mo rfl ?_
 refine .ia (b-1) .sub ?_
 refine .mo rfl<|.mo rfl ?_
 refine .ia (pv-a) .sub ?_
 refine .ia ((b-1)-(pv-a)) .sub ?_
 refine .az rfl<|.region<|.ag rfl<|.nil ?_
 ·first
   |exact aN ((b-1)-(pv-a),1,ws,T3) ⟨by simp only;omega,c8,B.trans c9⟩ kE.c.c.c.c.c.c.c.c.c.c rH
   |exact aN (pv,d0,N,T2) ⟨⟨d2,d3⟩,I,B⟩ kE.c.c.c.c.c.c.c.c.c.c rH
 refine .skip ?_
 ·first
   |exact aN ((b-1)-(pv-a),1,ws,T3) ⟨by simp only;omega,c8,B.trans c9⟩ kE.c.c.c.c.c.c.c.c.c.c rH
   |exact aN (pv,d0,N,T2) ⟨⟨d2,d3⟩,I,B⟩ kE.c.c.c.c.c.c.c.c.c.c rH
 intro y hy
 obtain⟨q,f5,us,T4⟩:=y
 obtain⟨⟨c2,c3⟩,b2,C⟩:=hy
 simp only at c2 c3 b2 C⊢
 have f2:=C.length
 have e4:∀x∈us,ok x:=λx W=>b8 x (C.perm.mem_iff.1 W)
 refine aG<|.seq ?_
 refine bF.cut (X:=List α×au) (λz=>OS (κ.t 144) κ.sz enc v z.1 z.2/\RP a b ys z.1) (λz=>[(0,v),(1,iN a),(2,iN b),(3,iN r),(4,.func (.func f) #[] caps.toArray),(10,.bool wb),(11,.bool wp),(12,.int .i64 ((b-a:Nat):Int)),(13,iN q)]) (λz=>[z.2]) ?_ ?_
 refine .sr<|.mo rfl<|.mo rfl ?_
 refine .split (t:=69) rfl (λb5=>?_) (λb5=>?_)
 refine .gT b5<|.mo rfl<|.q (.bA b5) ?_
 refine .mo rfl ?_
 refine .split (t:=72) rfl (λa1=>?_) (λa1=>?_)
 refine .gT a1<|.mo rfl<|.gT a1<|.q .cG<|.q (.bA a1) ?_
 refine .zn ?_
 refine .cond rfl (λh5=>?_) λh5=>?_
 refine .sr<|.mo rfl<|.mo rfl<|.mo rfl<|.mo rfl ?_
 refine .aT (td v us T4 a b _ b2 (by omega) (by omega) (by omega) O e4 D (d1.rp C)) (λu T5 k=>?_)
 obtain⟨ms,mb,rfl,a2,Y,c4⟩:=k
 refine .zn ?_
 refine .cond rfl (λh6=>?_) λh6=>?_
 refine .ret (wR (aR (bi (cK (bi (aO _ .none rH ?_))))))
 ·first
   |exact⟨_,rfl,rfl,N,I,U.trans (B.mono e g (by omega)),(Z.rp B e g).jq c0⟩
   |exact⟨_,rfl,rfl,ms,a2,U.trans ((C.trans Y).mono e g (by omega)),(Z.rp (C.trans Y) e g).jq (c4 (by assumption))⟩
 refine .skip ?_
 ·first
   |exact aN (ms,T5) ⟨a2,C.trans Y⟩ kE.c.c.c.c.c.c.c.c.c rH
   |exact aN (us,T4) ⟨b2,C⟩ kE.c.c.c.c.c.c.c.c.c rH
 refine .skip ?_
 ·first
   |exact aN (ms,T5) ⟨a2,C.trans Y⟩ kE.c.c.c.c.c.c.c.c.c rH
   |exact aN (us,T4) ⟨b2,C⟩ kE.c.c.c.c.c.c.c.c.c rH
 refine .gF a1<|.gF a1<|.q (.bg a1) ?_
 refine .zn<|.bB<|.skip ?_
 ·first
   |exact aN (ms,T5) ⟨a2,C.trans Y⟩ kE.c.c.c.c.c.c.c.c.c rH
   |exact aN (us,T4) ⟨b2,C⟩ kE.c.c.c.c.c.c.c.c.c rH
 refine .gF b5<|.q (.bg b5) ?_
 refine .mo rfl<|.gX<|.gX<|.q .cd<|.zn<|.bB<|.skip ?_
 ·first
   |exact aN (ms,T5) ⟨a2,C.trans Y⟩ kE.c.c.c.c.c.c.c.c.c rH
   |exact aN (us,T4) ⟨b2,C⟩ kE.c.c.c.c.c.c.c.c.c rH
 intro y hy
 obtain⟨a9,T6⟩:=y
 obtain⟨b3,b4⟩:=hy
 simp only at b3 b4⊢
 have f3:=b4.length
 have a8:∀x∈a9,ok x:=λx W=>b8 x (b4.perm.mem_iff.1 W)
 have a3:RP H F xs a9:=U.trans (b4.mono e g (by omega))
 have a5:=Z.rp b4 e g
 have c5:=d1.rp b4
 obtain⟨p,hp⟩:∃x,a9[q]? =some x:=⟨_,bd (by omega)⟩
 have e5:=a8 p (bD hp)
 refine aG<|.seq<|.seq ?_
 refine .cM 13 mixed (by kernel_rfl) ?_
 conv=>arg 6;dsimp only[List.take]
 refine .mo rfl<|.q .gtr<|.mo rfl ?_
 refine .split (t:=83) rfl (λi=>?_) (λi=>?_)
 have d5:0<a:=by have:=bp i;omega
 obtain⟨w,hw⟩:∃x,a9[a-1]? =some x:=⟨_,bd (by omega)⟩
 have e6:=a8 w (bD hw)
 refine .gT i<|.mo rfl<|.gT i<|.mo rfl<|.gT i<|.mo rfl<|.gT i ?_
 refine .ia (a-1) .sub ?_
 refine .gT i ?_
 refine .aU (a-1) b3 hw (λf6=>?_)
 refine .gT i<|.q (.bj rfl (bH.h _)) ?_
 refine .gT i<|.mo rfl<|.gT i<|.mo rfl<|.gT i ?_
 refine .aU q b3 hp (λf7=>?_)
 refine .gT i<|.q (.bj rfl (bH.h _)) ?_
 refine .nil<|.gT i ?_
 refine .gP (first:=[]) (captured:=caps) (vs:=[(λp:α=>Value.agg (enc p).toArray) w,(λp:α=>Value.agg (enc p).toArray) p]) (O w p e6 e5 _ (λb o hb=>.inl hb)) (λu k=>?_)
 subst k
 refine .gT i<|.q .lss<|.gT i<|.q .not<|.q (.bA i) ?_
 refine .zn ?_
 refine .cond rfl (λh7=>?_) λh7=>?_
 have e1:aM c w p=false:=by
  have d4:(!aM c w p)=true:=h7
  simpa using d4
 refine .sr<|.mo rfl<|.mo rfl<|.mo rfl<|.mo rfl<|.mo rfl ?_
 refine .aT (sY v a9 T6 a b q p _ b3 (by omega) ⟨c2,c3⟩ hp (by omega) (by omega) O a8 D (c5.xu D d5 hw e1)) (λu Q k=>?_)
 obtain⟨E,j,rfl,S,m,A⟩:=k
 have a7:=A.lo
 have a6:=A.hi
 refine .ag rfl<|.z<|.mo rfl<|.az rfl<|.exit<|bk<|bq ?_
 ·first
   |exact br (j+1,b,r,_,_,M,G) ⟨⟨by simp only;omega,by simp only;omega,by simp only;omega,s⟩,J,K,L⟩ (by simp only;omega) (((((((kE.d rfl).d rfl).d rfl).d rfl).d rfl).d rfl).d rfl) rH
   |exact br (a,j,r,_,_,M,G) ⟨⟨e,a7,by simp only;omega,s⟩,J,K,L⟩ (by simp only;omega) (((((((kE.d rfl).d rfl).d rfl).d rfl).d rfl).d rfl).d rfl) rH
   |exact br (j,b,r,_,_,E,Q) ⟨⟨by simp only;omega,a6,g,s⟩,S,a3.trans (m.mono e g (by omega)),(a5.rp m e g).eqs D A⟩ (by simp only;omega) (((((((kE.d rfl).d rfl).d rfl).d rfl).d rfl).d rfl).d rfl) rH
 refine .kn<|.sr<|.mo rfl<|.mo rfl<|.mo rfl<|.mo rfl<|.mo rfl ?_
 refine .aT (pA v a9 T6 a b q p _ b3 (by omega) ⟨c2,c3⟩ hp (by omega) (by omega) O a8 D) (λu Q k=>?_)
 obtain⟨E,j,e7,rfl,S,m,A⟩:=k
 have a7:=A.lo
 have a6:=A.hi
 have d9:=m.length
 have b9:∀x∈E,ok x:=λx W=>a8 x (m.perm.mem_iff.1 W)
 have b7:=a5.rp m e g
 have b6:RP H F xs E:=a3.trans (m.mono e g (by omega))
 have c6:=c5.rp m
 refine .mo rfl<|.q .extract<|.q .extract<|.ag rfl<|.ag rfl<|.z<|.mo rfl<|.ag rfl<|.z<|.mo rfl<|.mo rfl ?_
 refine .ia (j-a) .sub ?_
 refine .mo rfl<|.mo rfl ?_
 refine .ia (b-j) .sub ?_
 refine .ag rfl<|.ag rfl<|.z<|.mo rfl ?_
 refine .q (.i64 (((b-a)/8:Nat):Int) .quo ⟨by rw[ad5 (by omega)];omega,by omega,by omega⟩) ?_
 refine .ag rfl<|.z<|.mo rfl<|.mo rfl<|.q .lss<|.zn ?_
 refine .cond rfl (λh8=>?_) λh8=>?_
 refine .sr<|.mo rfl<|.mo rfl<|.q .geq<|.ag rfl<|.z<|.mo rfl<|.mo rfl<|.mo rfl<|.mo rfl<|.mo rfl ?_
 refine .aT (ih v E Q a j r _ S (by omega) (by omega) (by omega) s O b9 (c6.less (by omega)) (by omega)) (λu G k=>?_)
 obtain⟨rfl,M,J,V,a4⟩:=k
 have L:=b7.left D A V a4 e g (by omega)
 have K:=b6.trans (V.mono e (by omega) (by omega))
 refine .zn<|.region<|.mo rfl ?_
 refine .ia (j+1) .add ?_
 refine .ag rfl<|.nil<|bz ?_
 ·first
   |exact br (j+1,b,r,_,_,M,G) ⟨⟨by simp only;omega,by simp only;omega,by simp only;omega,s⟩,J,K,L⟩ (by simp only;omega) (((((((kE.d rfl).d rfl).d rfl).d rfl).d rfl).d rfl).d rfl) rH
   |exact br (a,j,r,_,_,M,G) ⟨⟨e,a7,by simp only;omega,s⟩,J,K,L⟩ (by simp only;omega) (((((((kE.d rfl).d rfl).d rfl).d rfl).d rfl).d rfl).d rfl) rH
   |exact br (j,b,r,_,_,E,Q) ⟨⟨by simp only;omega,a6,g,s⟩,S,a3.trans (m.mono e g (by omega)),(a5.rp m e g).eqs D A⟩ (by simp only;omega) (((((((kE.d rfl).d rfl).d rfl).d rfl).d rfl).d rfl).d rfl) rH
 refine .sr<|.mo rfl<|.mo rfl<|.q .geq<|.ag rfl<|.z<|.mo rfl<|.mo rfl ?_
 refine .ia (j+1) .add ?_
 refine .mo rfl<|.mo rfl<|.mo rfl ?_
 refine .aT (ih v E Q (j+1) b r _ S (by omega) (by omega) (by omega) s O b9 A.lb (by omega)) (λu G k=>?_)
 obtain⟨rfl,M,J,V,a4⟩:=k
 have L:=b7.right D A V a4 e g (by omega)
 have K:=b6.trans (V.mono (by omega) g (by omega))
 refine .zn<|.region<|.mo rfl<|.ag rfl<|.nil<|bz ?_
 ·first
   |exact br (j+1,b,r,_,_,M,G) ⟨⟨by simp only;omega,by simp only;omega,by simp only;omega,s⟩,J,K,L⟩ (by simp only;omega) (((((((kE.d rfl).d rfl).d rfl).d rfl).d rfl).d rfl).d rfl) rH
   |exact br (a,j,r,_,_,M,G) ⟨⟨e,a7,by simp only;omega,s⟩,J,K,L⟩ (by simp only;omega) (((((((kE.d rfl).d rfl).d rfl).d rfl).d rfl).d rfl).d rfl) rH
   |exact br (j,b,r,_,_,E,Q) ⟨⟨by simp only;omega,a6,g,s⟩,S,a3.trans (m.mono e g (by omega)),(a5.rp m e g).eqs D A⟩ (by simp only;omega) (((((((kE.d rfl).d rfl).d rfl).d rfl).d rfl).d rfl).d rfl) rH
 refine .gF i<|.gF i<|.gF i<|.gF i<|.gF i<|.gF i<|.gF i<|.gF i<|.gF i<|.gF i<|.nil<|.gF i<|.gF i<|.gF i<|.q (.bg i) ?_
 refine .zn<|.bB<|.kn<|.sr<|.mo rfl<|.mo rfl<|.mo rfl<|.mo rfl<|.mo rfl ?_
 refine .aT (pA v a9 T6 a b q p _ b3 (by omega) ⟨c2,c3⟩ hp (by omega) (by omega) O a8 D) (λu Q k=>?_)
 obtain⟨E,j,e7,rfl,S,m,A⟩:=k
 have a7:=A.lo
 have a6:=A.hi
 have d9:=m.length
 have b9:∀x∈E,ok x:=λx W=>a8 x (m.perm.mem_iff.1 W)
 have b7:=a5.rp m e g
 have b6:RP H F xs E:=a3.trans (m.mono e g (by omega))
 have c6:=c5.rp m
 refine .mo rfl<|.q .extract<|.q .extract<|.ag rfl<|.ag rfl<|.z<|.mo rfl<|.ag rfl<|.z<|.mo rfl<|.mo rfl ?_
 refine .ia (j-a) .sub ?_
 refine .mo rfl<|.mo rfl ?_
 refine .ia (b-j) .sub ?_
 refine .ag rfl<|.ag rfl<|.z<|.mo rfl ?_
 refine .q (.i64 (((b-a)/8:Nat):Int) .quo ⟨by rw[ad5 (by omega)];omega,by omega,by omega⟩) ?_
 refine .ag rfl<|.z<|.mo rfl<|.mo rfl<|.q .lss<|.zn ?_
 refine .cond rfl (λh8=>?_) λh8=>?_
 refine .sr<|.mo rfl<|.mo rfl<|.q .geq<|.ag rfl<|.z<|.mo rfl<|.mo rfl<|.mo rfl<|.mo rfl<|.mo rfl ?_
 refine .aT (ih v E Q a j r _ S (by omega) (by omega) (by omega) s O b9 (c6.less (by omega)) (by omega)) (λu G k=>?_)
 obtain⟨rfl,M,J,V,a4⟩:=k
 have L:=b7.left D A V a4 e g (by omega)
 have K:=b6.trans (V.mono e (by omega) (by omega))
 refine .zn<|.region<|.mo rfl ?_
 refine .ia (j+1) .add ?_
 refine .ag rfl<|.nil<|bz ?_
 ·first
   |exact br (j+1,b,r,_,_,M,G) ⟨⟨by simp only;omega,by simp only;omega,by simp only;omega,s⟩,J,K,L⟩ (by simp only;omega) (((((((kE.d rfl).d rfl).d rfl).d rfl).d rfl).d rfl).d rfl) rH
   |exact br (a,j,r,_,_,M,G) ⟨⟨e,a7,by simp only;omega,s⟩,J,K,L⟩ (by simp only;omega) (((((((kE.d rfl).d rfl).d rfl).d rfl).d rfl).d rfl).d rfl) rH
   |exact br (j,b,r,_,_,E,Q) ⟨⟨by simp only;omega,a6,g,s⟩,S,a3.trans (m.mono e g (by omega)),(a5.rp m e g).eqs D A⟩ (by simp only;omega) (((((((kE.d rfl).d rfl).d rfl).d rfl).d rfl).d rfl).d rfl) rH
 refine .sr<|.mo rfl<|.mo rfl<|.q .geq<|.ag rfl<|.z<|.mo rfl<|.mo rfl ?_
 refine .ia (j+1) .add ?_
 refine .mo rfl<|.mo rfl<|.mo rfl ?_
 refine .aT (ih v E Q (j+1) b r _ S (by omega) (by omega) (by omega) s O b9 A.lb (by omega)) (λu G k=>?_)
 obtain⟨rfl,M,J,V,a4⟩:=k
 have L:=b7.right D A V a4 e g (by omega)
 have K:=b6.trans (V.mono (by omega) g (by omega))
 refine .zn<|.region<|.mo rfl<|.ag rfl<|.nil<|bz ?_
 ·first
   |exact br (j+1,b,r,_,_,M,G) ⟨⟨by simp only;omega,by simp only;omega,by simp only;omega,s⟩,J,K,L⟩ (by simp only;omega) (((((((kE.d rfl).d rfl).d rfl).d rfl).d rfl).d rfl).d rfl) rH
   |exact br (a,j,r,_,_,M,G) ⟨⟨e,a7,by simp only;omega,s⟩,J,K,L⟩ (by simp only;omega) (((((((kE.d rfl).d rfl).d rfl).d rfl).d rfl).d rfl).d rfl) rH
   |exact br (j,b,r,_,_,E,Q) ⟨⟨by simp only;omega,a6,g,s⟩,S,a3.trans (m.mono e g (by omega)),(a5.rp m e g).eqs D A⟩ (by simp only;omega) (((((((kE.d rfl).d rfl).d rfl).d rfl).d rfl).d rfl).d rfl) rH
theorem tf(q:SO (aM c))(n:Nat):oN (κ:=κ) (enc:=enc) c ok f caps n:=by
 induction n with
 |zero=>exact λv e T a b d R _ _ _ _ _ _ _ _ r=>by omega
 |succ n ih=>exact λv e T a b d R g h i j k l m o p=>tg n ih q v e T a b d R g h i j k l m o p
end
end SG
namespace SG
section
variable{κ:KD}{α:Type}{enc:α->List Value} [en:bH enc κ.sz]{c:α->α->Int}{ok:α->Prop}{f:FuncId}{caps:List Value} [e:ap prog f]
theorem hE(v:Value)(xs:List α)(T:au)(R:ao)(h:OS (κ.t 144) κ.sz enc v xs T)(k:xs.length<=1000000000)(j:eR prog f caps R (λp:α=>Value.agg (enc p).toArray) c ok)(l:∀x∈xs,ok x)(m:SO (aM c)):
  Spec prog (κ.p 181) [v,.func (.func f) #[] caps.toArray] R [T] λu H'=>∃T',H'=[T']/\u=.tuple #[]/\∃ys,OS (κ.t 144) κ.sz enc v ys T'/\ys.Perm xs/\SR (aM c) ys 0 ys.length:=by
 have s:=h.ay
 have i:Lib.bitLen xs.length<=1000000000:=by
  have r:=bitLen_le 64 xs.length
  have o:Lib.bitLen xs.length=Lib.bitLenAux 64 xs.length:=rfl
  omega
 refine Spec.js κ.ot rfl results181 ntmps181 rfl ?_
 simp only[cR,oR,iW,adZ,ad0,ad1,ad2,ad3,ad4,κ.t0,κ.t3,κ.t4,κ.t28,κ.t197,κ.t232,κ.t484,κ.t485,κ.t565,κ.t568,κ.t597,κ.gj,κ.gk,κ.gl]
 refine .sr<|.mo rfl<|.q (.kD h) ?_
 refine .az rfl<|.region<|.mo rfl<|.mo rfl<|.mo rfl ?_
 refine .q (aI.cast (v':=.int .u64 ((xs.length:Nat):Int)) .fv (by rw[na (by omega) (by omega)])) ?_
 refine .aH (sM xs.length (by omega) _) (λu a=>?_)
 subst a
 refine .mo rfl ?_
 refine .aT (tf m (xs.length+1) v xs T 0 xs.length (Lib.bitLen xs.length) _ h (Nat.zero_le _) (adV _) k i j l (λd=>absurd d (by omega)) (by omega)) (λu n a=>?_)
 obtain⟨rfl,ys,e,b,g⟩:=a
 refine .nil<|dc _ .none rH ?_
 ·exact⟨_,rfl,rfl,ys,e,b.perm,b.length▸g⟩
end
end SG
namespace SCL
def kd:KD where
 t:=λx=>cond (Nat.beq x 144) 24<|cond (Nat.beq x 145) 121<|cond (Nat.beq x 290) 268<|x
 p:=λx=>cond (Nat.beq x 181) 166<|cond (Nat.beq x 387) 360<|cond (Nat.beq x 388) 361<|cond (Nat.beq x 386) 359<|cond (Nat.beq x 385) 358<|cond (Nat.beq x 459) 450<|cond (Nat.beq x 460) 451<|cond (Nat.beq x 490) 487<|cond (Nat.beq x 390) 363<|cond (Nat.beq x 392) 365<|cond (Nat.beq x 391) 364<|cond (Nat.beq x 289) 283<|cond (Nat.beq x 389) 362<|cond (Nat.beq x 458) 447<|x
 sz:=4
 u1:=(inferInstance:bh prog 121 (.slice 24))
 u2:=(inferInstance:Sz prog 24 4)
 u3:=(inferInstance:bV prog 24 true)
 t0:=rfl
 t3:=rfl
 t4:=rfl
 t28:=rfl
 t197:=rfl
 t232:=rfl
 t484:=rfl
 t485:=rfl
 t565:=rfl
 t568:=rfl
 t597:=rfl
 gj:=rfl
 gk:=rfl
 gl:=rfl
 nn:=(inferInstance:ap prog 360)
 np:=(inferInstance:ap prog 361)
 nm:=(inferInstance:ap prog 359)
 nl:=(inferInstance:ap prog 358)
 nv:=(inferInstance:ap prog 450)
 nw:=(inferInstance:ap prog 451)
 ny:=(inferInstance:ap prog 487)
 nr:=(inferInstance:ap prog 363)
 nt:=(inferInstance:ap prog 365)
 ns:=(inferInstance:ap prog 364)
 nk:=(inferInstance:ap prog 283)
 nq:=(inferInstance:ap prog 362)
 nu:=(inferInstance:ap prog 447)
 ot:=⟨f166,func166,by kernel_rfl,by kernel_rfl,by kernel_rfl⟩
 ox:=⟨f360,func360,by kernel_rfl,by kernel_rfl,by kernel_rfl⟩
 oy:=⟨f361,func361,by kernel_rfl,by kernel_rfl,by kernel_rfl⟩
 ow:=⟨f359,func359,by kernel_rfl,by kernel_rfl,by kernel_rfl⟩
 ov:=⟨f358,func358,by kernel_rfl,by kernel_rfl,by kernel_rfl⟩
 oE:=⟨f450,func450,by kernel_rfl,by kernel_rfl,by kernel_rfl⟩
 oF:=⟨f451,func451,by kernel_rfl,by kernel_rfl,by kernel_rfl⟩
 oG:=⟨f487,func487,by kernel_rfl,by kernel_rfl,by kernel_rfl⟩
 oA:=⟨f363,func363,by kernel_rfl,by kernel_rfl,by kernel_rfl⟩
 oC:=⟨f365,func365,by kernel_rfl,by kernel_rfl,by kernel_rfl⟩
 oB:=⟨f364,func364,by kernel_rfl,by kernel_rfl,by kernel_rfl⟩
 ou:=⟨f283,func283,by kernel_rfl,by kernel_rfl,by kernel_rfl⟩
 oz:=⟨f362,func362,by kernel_rfl,by kernel_rfl,by kernel_rfl⟩
 oD:=⟨f447,func447,by kernel_rfl,by kernel_rfl,by kernel_rfl⟩
instance:bH gz kd.sz:=⟨λ_=>rfl⟩
section
variable{c:CP->CP->Int}{ok:CP->Prop}{f:FuncId}{caps:List Value} [e:ap prog f]
theorem hE(v:Value)(xs:List CP)(T:au)(R:ao)(h:OS 24 4 gz v xs T)(b:xs.length<=1000000000)(a:eR prog f caps R (λp:CP=>Value.agg (gz p).toArray) c ok)(d:∀x∈xs,ok x)(e:SO (aM c)):
  Spec prog 166 [v,.func (.func f) #[] caps.toArray] R [T] λu H'=>∃T',H'=[T']/\u=.tuple #[]/\∃ys,OS 24 4 gz v ys T'/\ys.Perm xs/\SR (aM c) ys 0 ys.length:=by
 exact SG.hE (κ:=kd) (enc:=gz) v xs T R h b a d e
end
end SCL
def nH(M:List (ByteArray×CP))(k:ByteArray):bP:=((bO k M).map (·.2)).getD bP.zero
theorem LQ{M:List (ByteArray×CP)}(a:(M.map (·.1)).Nodup):(M.map (·.1)).map (nH M)=M.map (·.2.2):=by
 rw[List.map_map]
 refine List.map_congr_left λp b=>?_
 have:bO p.1 M=some p.2:=jl a (by exact b)
 simp[nH,this]
theorem z2(g:Nat)(A:List bP)(T:au)(h:RI g A T)(hl:A.length<=1000000)(R:ao)(w:∀p∈T,R p.1 p.2):
  Spec prog 72 [pT g] R [] λv H'=>∃T',H'=[T']/\∃ps To Ti,T'=To++Ti/\OS 24 4 gz v ps To/\(∀p∈ps,eG (sg Ti) p.1 p.2)/\(ps.map (·.2)).Perm A/\ps.Pairwise (λp q=>aM ni q p=false):=by
 obtain⟨vm,M,Tm,G,rfl,i,hI,H⟩:=h
 obtain⟨d,rfl⟩:∃b,vm=.map (some b):=by obtain⟨b,es,clock,h1,_⟩:=i;exact⟨b,h1⟩
 have pq:PC R (pT g) [.map (some d)]:=PC.of (E:=264) (fr:=(0,0)) (w (g,.cells [.map (some d)].toArray 264 (0,0)) (by simp))
 have rm:RM R (λs:ByteArray=>.string s) (λp:CR×bP=>.agg p.1.cells.toArray) (.map (some d)) M:=i.rm λp hp=>w p (by simp[hp])
 have hT:∀b o,sg G b o->R b o:=λb o a=>w (b,o) (by have:(b,o)∈G:=a;simp[this])
 have b0:M.length=A.length:=by simpa using H.length_eq
 refine Spec.du (H':=[[],[]]) (by simp) ?_
 refine Spec.body func72 rfl results72 ntmps72 rfl ?_
 refine .sr<|.ag rfl<|.zs<|.sr<|.mo rfl ?_
 refine .aH (uV g d _) (λv B=>?_)
 subst B
 refine .q .not<|.zn<|.bB<|.kn<|.sr<|.ag rfl<|.zs<|.sr<|.mo rfl<|.nc rfl<|.fa rfl<|.lo rfl ?_
 refine .range rm (λ_ _=>.inl) rfl (λU Z a5=>?_)
 refine .zn<|.block ?_
 refine .loop (X:=List CP×List ByteArray×Value×au×au×au) (λy=>(∀p∈y.1,eG (sg y.2.2.2.2.1) p.1 p.2)/\y.2.1.Nodup/\(y.1.map (·.2)++y.2.1.map (nH M)).Perm A/\OS 24 4 gz y.2.2.1 y.1 y.2.2.2.1/\It R (λs:ByteArray=>.string s) (λp:CR×bP=>.agg p.1.cells.toArray) (.map (some d)) M U y.2.1 y.2.2.2.2.2) (λy=>[(0,pT g),(3,y.2.2.1),(13,U)]) (λy=>[y.2.2.2.2.2,y.2.2.2.1,y.2.2.2.2.1]) (λy=>y.2.1.length) ([],M.map (·.1),sZ,[],[],Z) ⟨by simp,i.nd,by rw[LQ i.nd];exact H,OS.nil,a5⟩ kE.c.c.c rH ?_
 rintro⟨ps,a8,vo,To,m,Ti⟩ ⟨l,t,f,j,L⟩
 simp only at l t f j L⊢
 have i2:=j.ay
 have Q:=f.length_eq
 simp only[List.length_append,List.length_map]at Q
 refine .sr ?_
 refine .pj L (λ_ _=>.inl) rfl (λb rest a0 hf ht=>?_)
 refine .q .extract<|.zs ?_
 refine .cond rfl (λn=>?_) λn=>?_
 obtain⟨k,⟨C,e⟩,hk,O,N⟩:=ht n
 obtain⟨_,J,a2⟩:=hI (k,(C,e)) (jW O)
 have i3:bI C.cells:=⟨J.bU⟩
 have a4:nH M k=e:=by simp[nH,O]
 have K:=filter_one t hk
 refine .kn<|.block<|.sr ?_
 refine .q (.entry N (λ_ _=>.inl) rfl) ?_
 refine .q .extract ?_
 refine .cn (λb5=>?_)
 refine .bZ rfl rfl<|.zn<|.region<|.mo rfl<|.q (.bj rfl) ?_
 refine .bM (uX C e _ (J.mono λb o a=>.inl (hT b o a)) a2) (λv W B=>?_)
 obtain⟨D,rfl,r⟩:=B
 have i4:bI D.cells:=⟨r.bU⟩
 refine .hY (λa9=>?_)
 refine .append j (RS.lits (xs:=[(D,e)]) rfl (by simp[gz,CR.cells]) (by have:=r.bU;simpa[gz]using this)) (by simp;omega) (λv5 Y a1=>?_)
 refine .ag rfl<|.nil<|bz ?_
 ·refine br (ps++[(D,e)],a8.filter λk'=>decide (k'≠k),v5,Y,W++m,a0) ⟨λp hp=>?_,t.sublist List.filter_sublist,?_,a1,N.it⟩ ?_ kE.c.c.c ((bG [3,3,1,2]).trans (bu.cu (by simp[take,bf])))
  ·simp only
   rcases List.mem_append.1 hp with hp|hp
   ·exact(l p hp).mono λb o a=>lO a
   ·simp only[List.mem_singleton]at hp;subst hp
    exact r.mono λb o a=>og a
  ·simp only
   refine List.Perm.trans ?_ f
   rw[ad1,List.append_assoc]
   refine List.Perm.append_left _ ?_
   have:=(K.map (nH M)).symm
   rw[adZ,a4]at this
   exact this
  ·have:=K.length_eq
   simp only[List.length_cons]at this
   simp only;omega
 have a7:=hf n
 subst a7
 simp only[ad0,List.append_nil]at f
 have a3:eR prog 167 [] R (λp:CP=>Value.agg (gz p).toArray) ni rA:=λx y hx hy V _=>zO x y V hx hy
 refine .exit<|bk<|bw<|bq<|aG<|.sr<|.mo rfl ?_
 refine .aT (SCL.hE (caps:=[]) vo ps To _ j (by simp at Q;omega) a3 (λp hp=>(l p hp).bU) zN) (λu F hu=>?_)
 obtain⟨rfl,ys,I,S,a6⟩:=hu
 have i5:=I.ay
 refine .z<|.mo rfl<|.az rfl ?_
 refine .ret (aO _ (.one (.tmp rfl)) ((bG [1,1]).trans (bu.cu (H':=[F++m]) (by simp[take,bf]))) ?_)
 ·exact⟨_,rfl,ys,F,m,rfl,I,λp hp=>l p (S.mem_iff.1 hp),(S.map _).trans f,a6.ordered⟩
def CL(R:ao)(ps:List CP):Prop:=∀p∈ps,eG R p.1 p.2
abbrev fQ(ps:List CP):List bP:=ps.map (·.2)
def m4(cs:List bP)(i:Nat):Bool:=match cs[i]? with
 |none=>true
 |some c=>decide (c.check=0)&&(decide (i=0)||match cs[i-1]? with
  |none=>true
  |some d=>cw d.id c.id)
def kW(cs:List bP)(n:Nat):Bool:=(List.range n).all (m4 cs)
def kV(cs:List bP):Bool:=decide (cs.length<=64)&&kW cs cs.length
theorem qK{cs:List bP}{i:Nat}:kW cs (i+1)=(kW cs i&&m4 cs i):=by
 simp[kW,List.range_succ]
theorem NG{cs:List bP}{i n:Nat}(h:kW cs n=true)(hi:i<=n):kW cs i=true:=by
 simp only[kW,List.all_eq_true,List.mem_range]at h⊢
 exact λj a=>h j (by omega)
theorem tM{cs:List bP}{i:Nat}{c:bP}(b:cs[i]? =some c)(h:m4 cs i=true):c.check=0/\(i=0\/∃d,cs[i-1]? =some d/\cw d.id c.id=true):=by
 have f:=(adW.1 b).1
 simp only[m4,b,ad8,aeb,Bool.or_eq_true]at h
 refine⟨h.1,h.2.imp id λa=>?_⟩
 obtain⟨d,e⟩:∃d,cs[i-1]? =some d:=⟨_,bd (by omega)⟩
 rw[e]at a
 exact⟨d,e,a⟩
theorem yr{cs:List bP}{i:Nat}{c:bP}(e:cs[i]? =some c)(a:c.check=0)(b:i=0\/∃d,cs[i-1]? =some d/\cw d.id c.id=true):m4 cs i=true:=by
 simp only[m4,e,ad8,aeb,Bool.or_eq_true]
 refine⟨a,b.imp id λ⟨d,f,g⟩=>?_⟩
 rw[f];exact g
theorem xz{cs:List bP}:∀{i:Nat} {c:bP},kW cs (i+1)=true->cs[i]? =some c->∀(j:Nat) (d:bP),j<i->cs[j]? =some d->cw d.id c.id=true
 |0,c,_,_,j,d,hj,_=>by omega
 |i+1,c,h,hc,j,d,hj,hd=>by
  rw[qK,ad8]at h
  obtain⟨_,h2⟩:=tM hc h.2
  rcases h2 with h2|⟨e,a,b⟩
  ·omega
  ·rw[Nat.add_sub_cancel]at a
   by_cases f:j=i
   ·subst f
    rw[a]at hd;cases hd;exact b
   ·exact kY (xz h.1 a j d (by omega) hd) b
theorem NH{cs:List bP}{i:Nat}{c:bP}(h:kW cs (i+1)=true)(f:cs[i]? =some c):lX c.id (cs.take i)=none:=by
 unfold lX
 rw[List.find?_eq_none]
 intro d g
 obtain⟨j,a,b⟩:=List.mem_iff_getElem.1 g
 have l:j<i:=by simp at a;omega
 have k:cs[j]? =some d:=by
  rw[List.getElem_take]at b
  rw[bd (by simp at a;omega),b]
 have:=xz h f j d l k
 simp only[aeb]
 intro e
 rw[e,ki]at this;cases this
theorem qI{cs:List bP}{i:Nat}{c:bP}(h:kV cs=true)(b:cs[i]? =some c):m4 cs i=true/\gO (cs.take i) c=(0,cs.take i++[c]):=by
 have f:=(adW.1 b).1
 simp only[kV,ad8,aeb]at h
 have d:=NG h.2 (show i+1<=cs.length by omega)
 have a:=d
 rw[qK,ad8]at a
 refine⟨a.2,?_⟩
 have e:=(tM b a.2).1
 unfold gO
 rw[adY (by simp[e]),NH d b]
 simp only[Option.isSome_none,Bool.false_eq_true,if_false]
 rw[adY (by simp;omega)]
theorem uI{A:List bP}{c:bP}(h:(gO A c).1=0):(gO A c).2=A++[c]/\c.check=0/\A.length<64:=by
 unfold gO at h⊢
 split at h
 ·rename_i a;exact absurd h a
 ·rename_i a
  split at h
  ·simp at h
  ·rename_i b
   split at h
   ·simp at h
   ·rename_i d
    rw[adY a,adY b,adY d]
    exact⟨rfl,by simpa using a,by omega⟩
namespace SST
def gJ(c:ByteArray->ByteArray->Int)(ok:ByteArray->Prop)(R:ao):Prop:=c=dy
theorem gJ.mono{c:ByteArray->ByteArray->Int}{ok:ByteArray->Prop}{R R':ao}(h:gJ c ok R)(a:∀b o,R b o->R' b o):gJ c ok R':=h
theorem Ps(a:ByteArray)(R:ao):Spec prog 471 [.string a] R [] λu H'=>u=.bool false/\H'=[]:=by
 refine Spec.body func471 rfl results471 ntmps471 rfl ?_
 refine .sr<|.ag rfl<|.z<|.mo rfl<|.mo rfl<|.q .qB<|.az rfl ?_
 refine .ret (aW rfl ?_)
 ·exact⟨by simp,rfl⟩
theorem jo{c:ByteArray->ByteArray->Int}{ok:ByteArray->Prop}{e:ao}(g:gJ c ok e)(a b:ByteArray)(R:ao):Spec prog 418 [.string a,.string b] R [] λu H'=>u=.bool (decide (c a b<0))/\H'=[]:=by
 have f:c=dy:=g
 subst f
 refine Spec.body func418 rfl results418 ntmps418 rfl ?_
 refine .sr<|.ag rfl<|.z<|.mo rfl ?_
 refine .aH (Ps a _) (λu h=>?_)
 subst h
 refine .mo rfl ?_
 refine .split (t:=7) rfl (λd=>?_) (λd=>?_)
 ·simp at d
 refine .gF d<|.gF d<|.gF d<|.q (.bg d) ?_
 refine .mo rfl<|.gt rfl ?_
 refine .mo rfl<|.gt rfl ?_
 refine .mo rfl<|.gt rfl ?_
 refine .q .Nj<|.q .cd<|.az rfl ?_
 refine .ret (aW rfl ?_)
 ·exact⟨congrArg _ (by rw[Bool.eq_iff_iff,kh];simp),rfl⟩
end SST
namespace SST
section
variable{c:ByteArray->ByteArray->Int}{ok:ByteArray->Prop}
theorem sB(v:Value)(xs:List ByteArray)(T:au)(a b:Nat)(R:ao)(h:OS 9 1 bL v xs T)(W:a<=b)(Y:b<=xs.length)(hl:xs.length<=1000000000)(K:gJ c ok R)(G:∀x∈xs,ok x)(D:SO (aM c)):
  Spec prog 412 [v,.int .i64 a,.int .i64 b] R [T] λu H'=>∃T',H'=[T']/\u=.tuple #[]/\∃ys,OS 9 1 bL v ys T'/\RP a b xs ys/\SR (aM c) ys a b:=by
 have iv:=h.ay
 refine Spec.body func412 rfl results412 ntmps412 rfl ?_
 refine .sr<|.mo rfl ?_
 refine .ia (a+1) .add ?_
 refine .az rfl<|.block ?_
 refine .loop (X:=Nat×List ByteArray×au) (λy=>(a+1<=y.1/\(y.1<=b\/y.1=a+1))/\OS 9 1 bL v y.2.1 y.2.2/\RP a b xs y.2.1/\SR (aM c) y.2.1 a y.1) (λy=>[(0,v),(1,iN a),(2,iN b),(6,iN y.1)]) (λy=>[y.2.2]) (λy=>b-y.1) (a+1,xs,T) ⟨⟨by simp only;omega,.inr rfl⟩,h,.refl _,λi j o l F=>by simp only at F;omega⟩ kE.c.c.c.c rH ?_
 rintro⟨i,ys,I⟩ ⟨⟨L,M⟩,A,z,B⟩
 simp only at L M A z B⊢
 have a1:=z.length
 refine .seq<|.sr<|.mo rfl<|.mo rfl<|.q .lss<|.zn ?_
 refine .cond rfl (λo=>?_) λo=>?_
 have a0:i<b:=by simp at o;omega
 refine .kn<|.seq<|.block<|.sr<|.mo rfl<|.az rfl<|.block ?_
 refine .loop (X:=Nat×List ByteArray×au) (λy=>(a<=y.1/\y.1<=i)/\OS 9 1 bL v y.2.1 y.2.2/\RP a b xs y.2.1/\kp (aM c) y.2.1 a y.1 (i+1)) (λy=>[(0,v),(1,iN a),(2,iN b),(6,iN i),(7,iN y.1)]) (λy=>[y.2.2]) (λy=>y.1) (i,ys,I) ⟨⟨by simp only;omega,adV _⟩,A,z,B.ins⟩ kE.c.c.c.c.c rH ?_
 rintro⟨j,p,E⟩ ⟨⟨N,O⟩,e,m,s⟩
 simp only at N O e m s⊢
 have a2:=m.length
 refine .seq<|.seq ?_
 refine .cM 13 mixed (by kernel_rfl) ?_
 conv=>arg 6;dsimp only[List.take]
 refine .mo rfl<|.mo rfl<|.q .gtr<|.mo rfl ?_
 refine .split (t:=19) rfl (λd=>?_) (λd=>?_)
 have C:a<j:=by have:=bp d;omega
 obtain⟨x,f⟩:∃x,p[j]? =some x:=⟨_,bd (by omega)⟩
 obtain⟨y,g⟩:∃x,p[j-1]? =some x:=⟨_,bd (by omega)⟩
 have a3:=G x (m.perm.mem_iff.1 (bD f))
 have a4:=G y (m.perm.mem_iff.1 (bD g))
 refine .gT d<|.mo rfl<|.gT d<|.mo rfl<|.gT d ?_
 refine .aU j e f (λa5=>?_)
 refine .gT d<|.lo rfl<|.gT d<|.mo rfl<|.gT d<|.mo rfl<|.gT d ?_
 refine .ia (j-1) .sub ?_
 refine .gT d ?_
 refine .aU (j-1) e g (λa6=>?_)
 refine .gT d<|.lo rfl<|.nil<|.gT d ?_
 refine .aH (jo K x y _) (λu n=>?_)
 subst n
 refine .q (.bA d) ?_
 refine .zn ?_
 refine .cond rfl (λl=>?_) λl=>?_
 refine .kn<|.seq<|.block<|.cq [15,17] mixed ?_
 refine .tO 0 rfl .move<|.tO 1 rfl .move<|.tK 2 rfl .move<|.tK 3 rfl .move ?_
 refine .take 4 rfl (.i64 ((j-1:Nat):Int) .sub ⟨by omega,by omega,by omega⟩) (by kernel_rfl) ?_
 refine .tO 5 rfl .move<|.tO 6 rfl .move ?_
 refine .eF 7 rfl (.i64 ((j-1:Nat):Int) .sub ⟨by omega,by omega,by omega⟩) (by kernel_rfl) ?_
 refine RA.aU 8 rfl (j-1) e g rfl rfl rfl (by kernel_rfl) (λa7=>?_)
 refine .tO 9 rfl (.bo rfl)<|.tO 10 rfl .move<|.tO 11 rfl .move ?_
 refine RA.aU 12 rfl (j) e f rfl rfl rfl (by kernel_rfl) (λa8=>?_)
 refine .tO 13 rfl (.bo rfl) ?_
 refine RA.aU 14 rfl (j) e f rfl rfl rfl (by kernel_rfl) (λa9=>?_)
 refine .sT 15 rfl ?_
 refine .dC (j) e f y (λV S=>?_)
 refine .nil (Next.mod rfl ?_)
 refine RA.aU 16 rfl (j-1) e g rfl rfl rfl (by kernel_rfl) (λb0=>?_)
 refine .sT 17 rfl ?_
 obtain⟨zz,U⟩:∃u,(p.set (j) y)[j-1]? =some u:=⟨_,bd (by rw[adX];exact(adW.1 g).1)⟩
 refine .dC (j-1) S U x (λJ H=>?_)
 rw[<-dW f g]at H
 refine .nil (Next.mod rfl ?_)
 refine RA.nil (by kernel_rfl) ?_
 refine bz<|aG<|.region<|.mo rfl ?_
 refine .ia (j-1) .sub ?_
 refine .ag rfl<|.nil ?_
 ·have Q:aM c x y=true:=l
  exact br (j-1,bY p j (j-1),J) ⟨⟨by simp only;omega,by simp only;omega⟩,H,m.step (by omega) (by omega) (by omega) (by omega) (by omega),s.step D (by omega) (by omega) C f g Q⟩ (by simp only;omega) kE.c.c.c.c.c rH
 refine .exit<|bk<|bw<|bq<|bz<|aG<|.region<|.mo rfl ?_
 refine .ia (i+1) .add ?_
 refine .ag rfl<|.nil ?_
 ·refine br (i+1,p,E) ⟨⟨by simp only;omega,.inl (by simp only;omega)⟩,e,m,s.done D (by omega) (by omega) ?_⟩ (by simp only;omega) kE.c.c.c.c rH
  first
   |exact .inr ⟨C,λu w n r=>by
     rw[g]at n;rw[f]at r;cases n;cases r;exact l⟩
   |exact .inl (by have:=ba d;omega)
 refine .gF d<|.gF d<|.gF d<|.gF d<|.gF d<|.gF d<|.gF d<|.gF d<|.gF d<|.nil<|.gF d<|.q (.bg d) ?_
 refine .zn<|.bB<|.exit<|bk<|bw<|bq<|bz<|aG<|.region<|.mo rfl ?_
 refine .ia (i+1) .add ?_
 refine .ag rfl<|.nil ?_
 ·refine br (i+1,p,E) ⟨⟨by simp only;omega,.inl (by simp only;omega)⟩,e,m,s.done D (by omega) (by omega) ?_⟩ (by simp only;omega) kE.c.c.c.c rH
  first
   |exact .inr ⟨C,λu w n r=>by
     rw[g]at n;rw[f]at r;cases n;cases r;exact l⟩
   |exact .inl (by have:=ba d;omega)
 refine .exit<|bk<|bw<|bq<|dc _ .none rH ?_
 ·have Z:b<=i:=by simp at o;omega
  exact⟨_,rfl,rfl,ys,A,z,λj k o l F=>B j k o l (by omega)⟩
theorem pJ(v:Value)(xs:List ByteArray)(T:au)(lo hi b:Nat)(R:ao)(h:OS 9 1 bL v xs T)(a6:lo<=hi)(hb:b+hi<=xs.length)(hl:xs.length<=1000000000)(hf:gJ c ok R)(Y:∀x∈xs,ok x)(E:SO (aM c)):
    Spec prog 468 [v,.int .i64 lo,.int .i64 hi,.int .i64 b] R [T] λu H'=>∃T',H'=[T']/\u=.tuple #[]/\∃ys,OS 9 1 bL v ys T'/\RP b (b+hi) xs ys/\
      (jw (λx y=>aM c y x) (xs.drop b) hi lo lo->iH (λx y=>aM c y x) (ys.drop b) hi lo):=by
  have iv:=h.ay
  have a0:=E.rev
  refine Spec.body func468 rfl results468 ntmps468 rfl ?_
  refine .sr<|.mo rfl<|.az rfl<|.block ?_
  refine .loop (X:=Nat×List ByteArray×au) (λy=>(lo<=y.1/\y.1<=hi)/\OS 9 1 bL v y.2.1 y.2.2/\RP b (b+hi) xs y.2.1/\(jw (λx y=>aM c y x) (xs.drop b) hi lo lo->jw (λx y=>aM c y x) (y.2.1.drop b) hi lo y.1)) (λy=>[(0,v),(2,iN hi),(3,iN b),(8,iN y.1)]) (λy=>[y.2.2]) (λy=>hi-y.1) (lo,xs,T) ⟨⟨adV _,a6⟩,h,.refl _,λh=>h⟩ kE.c.c.c.c rH ?_
  rintro⟨r,ys,T1⟩ ⟨⟨a2,a8⟩,l,A,O⟩
  simp only at a2 a8 l A O⊢
  have b6:=A.length
  have b5:(ys.drop b).length=ys.length-b:=ad7
  refine .block<|.sr<|.mo rfl ?_
  refine .ia (2*r) .mul ?_
  refine .ia (2*r+1) .add ?_
  refine .ag rfl<|.zs<|.sr<|.mo rfl<|.mo rfl<|.q .geq<|.zn ?_
  refine .cond rfl (λK=>?_) λK=>?_
  have b3:hi<=2*r+1:=by have:=bp K;omega
  refine .exit (bk (iP (bw (bq ?_))))
  refine dc _ .none rH ?_
  ·refine⟨_,rfl,rfl,ys,l,A,λM=>(O M).stop λa s B g u w d N=>?_⟩
   first
     |(simp only[bx]at g;omega)
     |(rw[gy]at d N
       rw[p]at d;cases d
       have L:(!aM c F x)=true:=G
       exact a0.fJ _ _ _ (Q a w s B g N) (by simpa using L))
  have H:2*r+1<hi:=by have:=ba K;omega
  obtain⟨F,p⟩:∃y,ys[b+r]? =some y:=⟨_,bd (by omega)⟩
  obtain⟨m,k⟩:∃y,ys[b+(2*r+1)]? =some y:=⟨_,bd (by omega)⟩
  have b7:=Y F (A.perm.mem_iff.1 (bD p))
  have I:=Y m (A.perm.mem_iff.1 (bD k))
  refine .kn<|.seq ?_
  refine bF.cut (X:=Nat×ByteArray) (λz=>0<z.1/\z.1<hi/\bx z.1=r/\ys[b+z.1]? =some z.2/\ok z.2/\∀a u,0<a->a<hi->bx a=r->ys[b+a]? =some u->aM c z.2 u=false) (λz=>[(0,v),(2,iN hi),(3,iN b),(8,iN r),(9,iN z.1)]) (λz=>[T1]) ?_ ?_
  refine .seq ?_
  refine .cM 18 mixed (by kernel_rfl) ?_
  conv=>arg 6;dsimp only[List.take]
  refine .mo rfl ?_
  refine .ia (2*r+2) .add ?_
  refine .mo rfl<|.q .lss<|.mo rfl ?_
  refine .split (t:=21) rfl (λe=>?_) (λe=>?_)
  have V:2*r+2<hi:=by have:=bp e;omega
  obtain⟨J,o⟩:∃y,ys[b+(2*r+2)]? =some y:=⟨_,bd (by omega)⟩
  have Z:=Y J (A.perm.mem_iff.1 (bD o))
  refine .gT e<|.mo rfl<|.gT e<|.mo rfl<|.gT e<|.mo rfl<|.gT e ?_
  refine .ia (b+(2*r+1)) .add ?_
  refine .gT e ?_
  refine .aU (b+(2*r+1)) l k (λb8=>?_)
  refine .gT e<|.lo rfl<|.gT e<|.mo rfl<|.gT e<|.mo rfl<|.gT e<|.mo rfl<|.gT e ?_
  refine .ia (b+(2*r+1)) .add ?_
  refine .gT e ?_
  refine .ia (b+(2*r+2)) .add ?_
  refine .gT e ?_
  refine .aU (b+(2*r+2)) l o (λb9=>?_)
  refine .gT e<|.lo rfl<|.nil<|.gT e ?_
  refine .aH (jo hf m J _) (λu d=>?_)
  subst d
  refine .q (.bA e) ?_
  refine .zn ?_
  refine .cond rfl (λC=>?_) λC=>?_
  have W:∀a u,0<a->a<hi->bx a=r->ys[b+a]? =some u->aM c J u=false:=λa u s B g d=>by
    have:a=2*r+1\/a=2*r+2:=by simp only[bx]at g;omega
    rcases this with rfl|rfl
    ·rw[k]at d;cases d;exact E.kP C
    ·rw[o]at d;cases d;exact E.eK _
  refine .region<|.mo rfl ?_
  refine .ia (2*r+2) .add ?_
  refine .ag rfl<|.nil ?_
  ·first
      |exact aN (2*r+2,J) ⟨by simp only;omega,V,by simp only[bx];omega,o,Z,W⟩ kE.c.c.c.c.c rH
      |exact aN (2*r+1,m) ⟨by simp only;omega,H,by simp only[bx];omega,k,I,n⟩ kE.c.c.c.c.c rH
      |(have n:∀a u,0<a->a<hi->bx a=r->ys[b+a]? =some u->aM c m u=false:=λa u s B g d=>by
           have:a=2*r+1\/a=2*r+2:=by simp only[bx]at g;omega
           rcases this with rfl|rfl
           ·rw[k]at d;cases d;exact E.eK _
           ·rw[o]at d;cases d;exact C
        exact aN (2*r+1,m) ⟨by simp only;omega,H,by simp only[bx];omega,k,I,n⟩ kE.c.c.c.c.c rH)
  refine .skip ?_
  ·first
      |exact aN (2*r+2,J) ⟨by simp only;omega,V,by simp only[bx];omega,o,Z,W⟩ kE.c.c.c.c.c rH
      |exact aN (2*r+1,m) ⟨by simp only;omega,H,by simp only[bx];omega,k,I,n⟩ kE.c.c.c.c.c rH
      |(have n:∀a u,0<a->a<hi->bx a=r->ys[b+a]? =some u->aM c m u=false:=λa u s B g d=>by
           have:a=2*r+1\/a=2*r+2:=by simp only[bx]at g;omega
           rcases this with rfl|rfl
           ·rw[k]at d;cases d;exact E.eK _
           ·rw[o]at d;cases d;exact C
        exact aN (2*r+1,m) ⟨by simp only;omega,H,by simp only[bx];omega,k,I,n⟩ kE.c.c.c.c.c rH)
  have n:∀a u,0<a->a<hi->bx a=r->ys[b+a]? =some u->aM c m u=false:=λa u s B g d=>by
    have:a=2*r+1:=by have:=ba e;simp only[bx]at g;omega
    subst this
    rw[k]at d;cases d;exact E.eK _
  refine .gF e<|.gF e<|.gF e<|.gF e<|.gF e<|.gF e<|.gF e<|.gF e<|.gF e<|.gF e<|.gF e<|.gF e<|.gF e<|.nil<|.gF e<|.q (.bg e) ?_
  refine .zn<|.bB<|.skip ?_
  ·first
      |exact aN (2*r+2,J) ⟨by simp only;omega,V,by simp only[bx];omega,o,Z,W⟩ kE.c.c.c.c.c rH
      |exact aN (2*r+1,m) ⟨by simp only;omega,H,by simp only[bx];omega,k,I,n⟩ kE.c.c.c.c.c rH
      |(have n:∀a u,0<a->a<hi->bx a=r->ys[b+a]? =some u->aM c m u=false:=λa u s B g d=>by
           have:a=2*r+1\/a=2*r+2:=by simp only[bx]at g;omega
           rcases this with rfl|rfl
           ·rw[k]at d;cases d;exact E.eK _
           ·rw[o]at d;cases d;exact C
        exact aN (2*r+1,m) ⟨by simp only;omega,H,by simp only[bx];omega,k,I,n⟩ kE.c.c.c.c.c rH)
  intro y hy
  obtain⟨j,x⟩:=y
  obtain⟨S,a1,U,D,b1,Q⟩:=hy
  simp only at S a1 U D b1 Q⊢
  have b4:r<j:=U▸eP S
  refine aG<|.seq<|.seq ?_
  refine .cM 12 mixed (by kernel_rfl) ?_
  conv=>arg 6;dsimp only[List.take]
  refine .mo rfl<|.mo rfl<|.mo rfl ?_
  refine .ia (b+r) .add ?_
  refine .aU (b+r) l p (λc0=>?_)
  refine .lo rfl<|.mo rfl<|.mo rfl<|.mo rfl ?_
  refine .ia (b+j) .add ?_
  refine .aU (b+j) l D (λc1=>?_)
  refine .lo rfl<|.nil ?_
  refine .aH (jo hf F x _) (λu d=>?_)
  subst d
  refine .q .not<|.zn ?_
  refine .cond rfl (λG=>?_) λG=>?_
  refine .ret (aR (bi (cK (bi (aO _ .none rH ?_)))))
  ·refine⟨_,rfl,rfl,ys,l,A,λM=>(O M).stop λa s B g u w d N=>?_⟩
   first
     |(simp only[bx]at g;omega)
     |(rw[gy]at d N
       rw[p]at d;cases d
       have L:(!aM c F x)=true:=G
       exact a0.fJ _ _ _ (Q a w s B g N) (by simpa using L))
  refine .kn<|.seq<|.cq [21,23] mixed ?_
  refine .tO 0 rfl .move<|.tO 1 rfl .move<|.tO 2 rfl .move ?_
  refine .eF 3 rfl (.i64 ((b+r:Nat):Int) .add ⟨by omega,by omega,by omega⟩) (by kernel_rfl) ?_
  refine .tK 4 rfl .move<|.tK 5 rfl .move<|.tK 6 rfl .move ?_
  refine .take 7 rfl (.i64 ((b+j:Nat):Int) .add ⟨by omega,by omega,by omega⟩) (by kernel_rfl) ?_
  refine .tO 8 rfl .move<|.tO 9 rfl .move<|.tO 10 rfl .move ?_
  refine .eF 11 rfl (.i64 ((b+j:Nat):Int) .add ⟨by omega,by omega,by omega⟩) (by kernel_rfl) ?_
  refine RA.aU 12 rfl (b+j) l D rfl rfl rfl (by kernel_rfl) (λc2=>?_)
  refine .tO 13 rfl (.bo rfl)<|.tO 14 rfl .move<|.tO 15 rfl .move<|.tO 16 rfl .move ?_
  refine .eF 17 rfl (.i64 ((b+r:Nat):Int) .add ⟨by omega,by omega,by omega⟩) (by kernel_rfl) ?_
  refine RA.aU 18 rfl (b+r) l p rfl rfl rfl (by kernel_rfl) (λc3=>?_)
  refine .tO 19 rfl (.bo rfl) ?_
  refine RA.aU 20 rfl (b+r) l p rfl rfl rfl (by kernel_rfl) (λc4=>?_)
  refine .sT 21 rfl ?_
  refine .dC (b+r) l p x (λb2 a9=>?_)
  refine .nil (Next.mod rfl ?_)
  refine RA.aU 22 rfl (b+j) l D rfl rfl rfl (by kernel_rfl) (λc5=>?_)
  refine .sT 23 rfl ?_
  obtain⟨zz,b0⟩:∃u,(ys.set (b+r) x)[b+j]? =some u:=⟨_,bd (by rw[adX];exact(adW.1 D).1)⟩
  refine .dC (b+j) a9 b0 F (λa4 a3=>?_)
  rw[<-dW p D]at a3
  refine .nil (Next.mod rfl ?_)
  refine RA.nil (by kernel_rfl) ?_
  refine aG<|.region<|.mo rfl<|.ag rfl<|.nil<|bz ?_
  ·have a7:aM c F x=true:=by
      have L:(!aM c F x)=false:=G
      simpa using L
   have a5:=qc (xs:=ys) (f:=b) (i:=r) (j:=j) (by omega) (by omega)
   exact br (j,bY ys (b+r) (b+j),a4) ⟨⟨by simp only;omega,by simp only;omega⟩,a3,A.step (by omega) (by omega) (by omega) (by omega) (by omega),λM=>by
     simp only
     rw[a5]
     exact(O M).step a0 a2 S a1 (by omega) U (by rw[gy];exact D) (by rw[gy];exact p) a7 λa z K C G h4=>Q a z K C G (by rw[<-gy];exact h4)⟩ (by simp only;omega) kE.c.c.c.c rH
end
end SST
namespace SST
section
variable{c:ByteArray->ByteArray->Int}{ok:ByteArray->Prop}
theorem sy(v:Value)(xs:List ByteArray)(T:au)(a b:Nat)(R:ao)(h:OS 9 1 bL v xs T)(a7:a<=b)(hb:b<=xs.length)(hl:xs.length<=1000000000)(L:gJ c ok R)(M:∀x∈xs,ok x)(F:SO (aM c)):
  Spec prog 413 [v,.int .i64 a,.int .i64 b] R [T] λu H'=>∃T',H'=[T']/\u=.tuple #[]/\∃ys,OS 9 1 bL v ys T'/\RP a b xs ys/\SR (aM c) ys a b:=by
 have iv:=h.ay
 have a5:=F.rev
 obtain⟨n,hn⟩:∃n,b=a+n:=⟨b-a,by omega⟩
 subst hn
 refine Spec.body func413 rfl results413 ntmps413 rfl ?_
 refine .sr<|.mo rfl<|.ag rfl<|.z<|.ag rfl<|.z<|.mo rfl<|.mo rfl ?_
 refine .ia (n) .sub ?_
 refine .ag rfl<|.zs<|.sr<|.mo rfl ?_
 refine .q (.i64 ((n:Int)-1) .sub ⟨rfl,by omega,by omega⟩) ?_
 refine .q (.i64 (((n-1)/2:Nat):Int) .quo ⟨tT,by omega,by omega⟩) ?_
 refine .az rfl<|.block ?_
 refine .loop (X:=Nat×Int×List ByteArray×au) (λy=>(y.2.1=(y.1:Int)-1/\y.1<=n+1)/\OS 9 1 bL v y.2.2.1 y.2.2.2/\RP a (a+n) xs y.2.2.1/\iH (λx y=>aM c y x) (y.2.2.1.drop a) n y.1) (λy=>[(0,v),(6,iN a),(7,.int .i64 ((0:Nat):Int)),(8,iN n),(9,.int .i64 y.2.1)]) (λy=>[y.2.2.2]) (λy=>y.1) ((n-1)/2+1,(((n-1)/2:Nat):Int),xs,T) ⟨⟨by simp only;omega,by simp only;omega⟩,h,.refl _,λk U hk hp=>by simp only[bx]at hp;omega⟩ kE.c.c.c.c.c rH ?_
 rintro⟨m,z,ys,G⟩ ⟨⟨hz,hm⟩,B,r,A⟩
 simp only at hz hm B r A⊢
 have a8:=r.length
 refine .seq<|.sr<|.mo rfl<|.q .geq<|.zn ?_
 refine .cond rfl (λo=>?_) λo=>?_
 have a2:0<=z:=bp o
 obtain⟨k,rfl⟩:∃k,m=k+1:=⟨m-1,by omega⟩
 obtain rfl:z=(k:Int):=by omega
 refine .kn<|.seq<|.block<|.region<|.mo rfl<|.mo rfl<|.mo rfl<|.mo rfl ?_
 refine .aT (pJ (c:=c) (ok:=ok) v ys G k n a _ B (by omega) (by omega) (by omega) L (λx d=>M x (r.perm.mem_iff.1 d)) F) (λu H E=>?_)
 obtain⟨rfl,g,e,l,p⟩:=E
 refine .nil<|bz<|aG<|.region<|.mo rfl ?_
 refine .q (.i64 ((k:Int)-1) .sub ⟨rfl,by omega,by omega⟩) ?_
 refine .ag rfl<|.nil ?_
 ·exact br (k,(k:Int)-1,g,H) ⟨⟨rfl,by simp only;omega⟩,e,r.trans l,p A.hole⟩ (by simp only;omega) kE.c.c.c.c.c rH
 have D:m=0:=by have:=ba o;omega
 subst D
 refine .exit<|bk<|bw<|bq<|aG<|.sr<|.mo rfl ?_
 refine .q (.i64 ((n:Int)-1) .sub ⟨rfl,by omega,by omega⟩) ?_
 refine .az rfl<|.block ?_
 refine .loop (X:=Nat×Int×List ByteArray×au) (λy=>(y.2.1=(y.1:Int)-1/\y.1<=n)/\OS 9 1 bL v y.2.2.1 y.2.2.2/\RP a (a+n) xs y.2.2.1/\iH (λx y=>aM c y x) (y.2.2.1.drop a) y.1 0/\OX (aM c) y.2.2.1 a (a+n) a (a+y.1)) (λy=>[(0,v),(6,iN a),(7,.int .i64 ((0:Nat):Int)),(8,iN n),(10,.int .i64 y.2.1)]) (λy=>[y.2.2.2]) (λy=>y.1) (n,(n:Int)-1,ys,G) ⟨⟨rfl,adV _⟩,B,r,A,OX.start⟩ kE.c.c.c.c.c rH ?_
 rintro⟨m,O,g,H⟩ ⟨⟨a3,a0⟩,e,l,p,C⟩
 simp only at a3 a0 e l p C⊢
 have a9:=l.length
 refine .seq<|.sr<|.mo rfl<|.q .geq<|.zn ?_
 refine .cond rfl (λs=>?_) λs=>?_
 have a2:0<=O:=bp s
 obtain⟨k,rfl⟩:∃k,m=k+1:=⟨m-1,by omega⟩
 obtain rfl:O=(k:Int):=by omega
 obtain⟨x,d⟩:∃x,g[a]? =some x:=⟨_,bd (by omega)⟩
 obtain⟨y,t⟩:∃x,g[a+k]? =some x:=⟨_,bd (by omega)⟩
 refine .kn<|.seq<|.block<|.seq<|.cq [17,19] mixed ?_
 refine .tO 0 rfl .move<|.tO 1 rfl .move<|.tK 2 rfl .move<|.tK 3 rfl .move<|.tK 4 rfl .move ?_
 refine .take 5 rfl (.i64 ((a+k:Nat):Int) .add ⟨by omega,by omega,by omega⟩) (by kernel_rfl) ?_
 refine .tO 6 rfl .move<|.tO 7 rfl .move<|.tO 8 rfl .move ?_
 refine .eF 9 rfl (.i64 ((a+k:Nat):Int) .add ⟨by omega,by omega,by omega⟩) (by kernel_rfl) ?_
 refine RA.aU 10 rfl (a+k) e t rfl rfl rfl (by kernel_rfl) (λb0=>?_)
 refine .tO 11 rfl (.bo rfl)<|.tO 12 rfl .move<|.tO 13 rfl .move ?_
 refine RA.aU 14 rfl (a) e d rfl rfl rfl (by kernel_rfl) (λb1=>?_)
 refine .tO 15 rfl (.bo rfl) ?_
 refine RA.aU 16 rfl (a) e d rfl rfl rfl (by kernel_rfl) (λb2=>?_)
 refine .sT 17 rfl ?_
 refine .dC (a) e d y (λa6 a1=>?_)
 refine .nil (Next.mod rfl ?_)
 refine RA.aU 18 rfl (a+k) e t rfl rfl rfl (by kernel_rfl) (λb3=>?_)
 refine .sT 19 rfl ?_
 obtain⟨zz,a4⟩:∃u,(g.set (a) y)[a+k]? =some u:=⟨_,bd (by rw[adX];exact(adW.1 t).1)⟩
 refine .dC (a+k) a1 a4 x (λS N=>?_)
 rw[<-dW d t]at N
 refine .nil (Next.mod rfl ?_)
 refine RA.nil (by kernel_rfl) ?_
 refine aG<|.region<|.mo rfl<|.mo rfl<|.mo rfl<|.mo rfl ?_
 have K:=qc (xs:=g) (f:=a) (i:=0) (j:=k) (by omega) (by omega)
 have I:=l.step (i:=a) (j:=a+k) (by omega) (by omega) (by omega) (by omega) (by omega)
 have Z:=OX.last (m:=a+k) (x:=x) C (by omega) (by omega) (by omega) d (λj w o V hw=>iH.top a5 p (by rw[ad7];omega) (x:=x) (by rw[gy];exact d) (j-a) w (by omega) (by rw[gy,show a+(j-a)=j by omega];exact hw))
 refine .aT (pJ (c:=c) (ok:=ok) v (bY g a (a+k)) S 0 k a _ N (by omega) (by rw[kl];omega) (by rw[kl];omega) L (λx d=>M x (I.perm.mem_iff.1 d)) F) (λu Q E=>?_)
 obtain⟨rfl,ws,Y,J,W⟩:=E
 refine .nil<|bz<|aG<|.region<|.mo rfl ?_
 refine .q (.i64 ((k:Int)-1) .sub ⟨rfl,by omega,by omega⟩) ?_
 refine .ag rfl<|.nil ?_
 ·exact br (k,(k:Int)-1,ws,Q) ⟨⟨rfl,by simp only;omega⟩,Y,I.trans (J.mono (adV a) (by omega) (by rw[kl];omega)),W (p.wJ λj U hj=>by
   rw[Nat.add_zero]at K
   rw[K,eg (by rw[ad7];omega) (by rw[ad7];omega),adY (by omega),adY (by omega)]),Z.rp J (adV _) (by omega)⟩ (by simp only;omega) kE.c.c.c.c.c rH
 refine .exit<|bk<|bw<|bq<|dc _ .none rH ?_
 ·have D:m=0:=by have:=ba s;omega
  subst D
  exact⟨_,rfl,rfl,g,e,l,C.jq λi j o s V=>by omega⟩
theorem tB(v:Value)(xs:List ByteArray)(T:au)(a b:Nat)(R:ao)(h:OS 9 1 bL v xs T)(A:a<b)(B:b<=xs.length)(C:xs.length<=1000000000):
  Spec prog 416 [v,.int .i64 a,.int .i64 b] R [T] λu H'=>∃T',H'=[T']/\u=.tuple #[]/\∃ys,OS 9 1 bL v ys T'/\RP a b xs ys:=by
 have F:=h.ay
 refine Spec.body func416 rfl results416 ntmps416 rfl ?_
 refine .sr<|.mo rfl<|.ag rfl<|.z<|.mo rfl ?_
 refine .ia (b-1) .sub ?_
 refine .az rfl<|.block ?_
 refine .loop (X:=Nat×Nat×List ByteArray×au) (λy=>(a<=y.1/\y.1<=y.2.1+1/\y.2.1<b)/\OS 9 1 bL v y.2.2.1 y.2.2.2/\RP a b xs y.2.2.1) (λy=>[(0,v),(6,iN y.1),(7,iN y.2.1)]) (λy=>[y.2.2.2]) (λy=>b-y.1) (a,b-1,xs,T) ⟨⟨adV _,by simp only;omega,by simp only;omega⟩,h,.refl _⟩ kE.c.c.c rH ?_
 rintro⟨i,j,ys,t⟩ ⟨⟨n,o,p⟩,d,e⟩
 simp only at n o p d e⊢
 have D:=e.length
 refine .seq<|.sr<|.mo rfl<|.mo rfl<|.q .lss<|.zn ?_
 refine .cond rfl (λk=>?_) λk=>?_
 have E:i<j:=fg k
 obtain⟨x,f⟩:∃x,ys[i]? =some x:=⟨_,bd (by omega)⟩
 obtain⟨y,g⟩:∃x,ys[j]? =some x:=⟨_,bd (by omega)⟩
 refine .kn<|.block<|.seq<|.cq [13,15] mixed ?_
 refine .tO 0 rfl .move<|.tO 1 rfl .move<|.tK 2 rfl .move<|.tK 3 rfl .move<|.tO 4 rfl .move<|.tO 5 rfl .move ?_
 refine RA.aU 6 rfl (j) d g rfl rfl rfl (by kernel_rfl) (λG=>?_)
 refine .tO 7 rfl (.bo rfl)<|.tO 8 rfl .move<|.tO 9 rfl .move ?_
 refine RA.aU 10 rfl (i) d f rfl rfl rfl (by kernel_rfl) (λH=>?_)
 refine .tO 11 rfl (.bo rfl) ?_
 refine RA.aU 12 rfl (i) d f rfl rfl rfl (by kernel_rfl) (λI=>?_)
 refine .sT 13 rfl ?_
 refine .dC (i) d f y (λw r=>?_)
 refine .nil (Next.mod rfl ?_)
 refine RA.aU 14 rfl (j) d g rfl rfl rfl (by kernel_rfl) (λJ=>?_)
 refine .sT 15 rfl ?_
 obtain⟨K,s⟩:∃u,(ys.set (i) y)[j]? =some u:=⟨_,bd (by rw[adX];exact(adW.1 g).1)⟩
 refine .dC (j) r s x (λm l=>?_)
 rw[<-dW f g]at l
 refine .nil (Next.mod rfl ?_)
 refine RA.nil (by kernel_rfl) ?_
 refine aG<|.sr<|.mo rfl ?_
 refine .ia (i+1) .add ?_
 refine .az rfl<|.region<|.mo rfl ?_
 refine .ia (j-1) .sub ?_
 refine .ag rfl<|.nil<|bz ?_
 ·exact br (i+1,j-1,bY ys i j,m) ⟨⟨by simp only;omega,by simp only;omega,by simp only;omega⟩,l,e.step (by omega) (by omega) (by omega) (by omega) (by omega)⟩ (by simp only;omega) kE.c.c.c rH
 refine .exit<|bk<|bw<|bq<|dc _ .none rH ?_
 ·exact⟨_,rfl,rfl,ys,d,e⟩
theorem rM(v:Value)(xs:List ByteArray)(T:au)(a b:Nat)(R:ao)(h:OS 9 1 bL v xs T)(Q:a<=b)(S:b<=xs.length)(V:xs.length<=1000000000):
  Spec prog 414 [v,.int .i64 a,.int .i64 b] R [T] λu H'=>∃T',H'=[T']/\u=.tuple #[]/\∃ys,OS 9 1 bL v ys T'/\RP a b xs ys:=by
 have iv:=h.ay
 obtain⟨n,I⟩:∃n,b=a+n:=⟨b-a,by omega⟩
 subst I
 refine Spec.body func414 rfl results414 ntmps414 rfl ?_
 refine .sr<|.mo rfl<|.mo rfl ?_
 refine .ia (n) .sub ?_
 refine .ag rfl<|.z<|.mo rfl<|.q .geq<|.zn ?_
 refine .cond rfl (λs=>?_) λs=>?_
 have a0:8<=n:=by have:=bp s;omega
 obtain⟨q,C⟩:∃q,q=n/4:=⟨_,rfl⟩
 refine .sr<|.mo rfl<|.q .fv ?_
 refine .p4 (λe=>?_)
 refine .ca rfl rfl<|.z<|.mo rfl ?_
 refine .aH (xv n (by omega) (by omega) _) (λu r=>?_)
 obtain⟨f,rfl,Y,Z⟩:=r
 refine .ag rfl<|.z<|.mo rfl<|.mo rfl ?_
 refine .q (.i64 ((q:Nat):Int) .quo ⟨by rw[C,ad5 (by omega)];omega,by omega,by omega⟩) ?_
 refine .ia (q*2) .mul ?_
 refine .ia (a+q*2) .add ?_
 refine .ia (a+q*2-1) .sub ?_
 refine .az rfl<|.block ?_
 refine .loop (X:=Nat×Int×List ByteArray×au) (λy=>(a+q*2-1<=y.1/\y.1<=a+q*2+2)/\OS 9 1 bL v y.2.2.1 y.2.2.2/\RP a (a+n) xs y.2.2.1) (λy=>[(0,v),(1,iN a),(6,iN n),(7,pT e),(8,.int .u64 (f:Nat)),(9,iN y.1)]) (λy=>[bl e [.int .u64 y.2.1] 565,y.2.2.2]) (λy=>a+q*2+2-y.1) (a+q*2-1,_,xs,T) ⟨⟨adV _,by simp only;omega⟩,h,.refl _⟩ kE.c.c.c.c.c.c rH ?_
 rintro⟨i,z,ys,E⟩ ⟨⟨G,H⟩,d,g⟩
 simp only at G H d g⊢
 have W:=g.length
 refine .seq<|.sr<|.mo rfl<|.mo rfl<|.mo rfl ?_
 refine .q (.i64 ((q:Nat):Int) .quo ⟨by rw[C,ad5 (by omega)];omega,by omega,by omega⟩) ?_
 refine .ia (q*2) .mul ?_
 refine .ia (a+q*2) .add ?_
 refine .ia (a+q*2+1) .add ?_
 refine .q .leq<|.zn ?_
 refine .cond rfl (λt=>?_) λt=>?_
 have U:i<=a+q*2+1:=by have:=bp t;omega
 refine .kn<|.seq<|.block<|.sr ?_
 refine .aT (xY e z _) (λu N r=>?_)
 obtain⟨l,rfl,rfl⟩:=r
 refine .mo rfl ?_
 refine .q (aI.cast (v':=.int .u64 ((f-1:Nat):Int)) .sub (by rw[na (by omega) (by omega)];congr 1;omega)) ?_
 have A:=ux (z:=l) (q:=((f-1:Nat):Int)) (by omega) (by omega)
 obtain⟨o,B⟩:∃o:Nat,IntKind.u64.wrap (BitVec.ofInt IntKind.u64.bits l&&&BitVec.ofInt IntKind.u64.bits ((f-1:Nat):Int)).toNat=(o:Int):=⟨_,(Int.toNat_of_nonneg A.1).symm⟩
 refine .q (aI.cast (v':=.int .u64 ((o:Nat):Int)) .rJ (by rw[B])) ?_
 rw[B]at A
 refine .q (aI.cast (v':=.int .i64 ((o:Nat):Int)) .fv (by rw[lj (by omega) (by omega)])) ?_
 refine .ag rfl<|.zs ?_
 refine bF.cut (X:=Nat) (λp=>p<n) (λp=>[(0,v),(1,iN a),(6,iN n),(7,pT e),(8,.int .u64 (f:Nat)),(9,iN i),(10,iN p)]) (λ_=>[bl e [.int .u64 l] 565,E]) ?_ ?_
 refine .sr<|.mo rfl<|.mo rfl<|.q .geq<|.zn ?_
 refine .cond rfl (λm=>?_) λm=>?_
 have J:n<=o:=by have:=bp m;omega
 refine .region<|.mo rfl<|.mo rfl ?_
 refine .ia (o-n) .sub ?_
 refine .ag rfl<|.nil ?_
 ·first
   |exact aN (o-n) (by omega) kE.c.c.c.c.c.c.c rH
   |exact aN o (by omega) kE.c.c.c.c.c.c.c rH
 have J:o<n:=by have:=ba m;omega
 refine .skip ?_
 ·first
   |exact aN (o-n) (by omega) kE.c.c.c.c.c.c.c rH
   |exact aN o (by omega) kE.c.c.c.c.c.c.c rH
 intro y L
 have a1:y<n:=L
 obtain⟨p,rfl⟩:∃p,p=y:=⟨_,rfl⟩
 obtain⟨x,k⟩:∃x,ys[i]? =some x:=⟨_,bd (by omega)⟩
 obtain⟨w,j⟩:∃x,ys[a+p]? =some x:=⟨_,bd (by omega)⟩
 refine aG<|.cq [17,19] mixed ?_
 refine .tO 0 rfl .move<|.tO 1 rfl .move<|.tK 2 rfl .move<|.tK 3 rfl .move<|.tK 4 rfl .move ?_
 refine .take 5 rfl (.i64 ((a+p:Nat):Int) .add ⟨by omega,by omega,by omega⟩) (by kernel_rfl) ?_
 refine .tO 6 rfl .move<|.tO 7 rfl .move<|.tO 8 rfl .move ?_
 refine .eF 9 rfl (.i64 ((a+p:Nat):Int) .add ⟨by omega,by omega,by omega⟩) (by kernel_rfl) ?_
 refine RA.aU 10 rfl (a+p) d j rfl rfl rfl (by kernel_rfl) (λa2=>?_)
 refine .tO 11 rfl (.bo rfl)<|.tO 12 rfl .move<|.tO 13 rfl .move ?_
 refine RA.aU 14 rfl (i) d k rfl rfl rfl (by kernel_rfl) (λa3=>?_)
 refine .tO 15 rfl (.bo rfl) ?_
 refine RA.aU 16 rfl (i) d k rfl rfl rfl (by kernel_rfl) (λa4=>?_)
 refine .sT 17 rfl ?_
 refine .dC (i) d k w (λO K=>?_)
 refine .nil (Next.mod rfl ?_)
 refine RA.aU 18 rfl (a+p) d j rfl rfl rfl (by kernel_rfl) (λa5=>?_)
 refine .sT 19 rfl ?_
 obtain⟨zz,M⟩:∃u,(ys.set (i) w)[a+p]? =some u:=⟨_,bd (by rw[adX];exact(adW.1 j).1)⟩
 refine .dC (a+p) K M x (λF D=>?_)
 rw[<-dW k j]at D
 refine .nil (Next.mod rfl ?_)
 refine RA.nil (by kernel_rfl) ?_
 refine bz<|aG<|.region<|.mo rfl ?_
 refine .ia (i+1) .add ?_
 refine .ag rfl<|.nil ?_
 ·exact br (i+1,l,bY ys i (a+p),F) ⟨⟨by simp only;omega,by simp only;omega⟩,D,g.step (by omega) (by omega) (by omega) (by omega) (by omega)⟩ (by simp only;omega) kE.c.c.c.c.c.c rH
 refine .exit<|bk<|bw<|bq<|dc _ .none (bG [1]) ?_
 ·exact⟨_,rfl,rfl,ys,d,g⟩
 refine .skip<|dc _ .none rH ?_
 ·exact⟨_,rfl,rfl,xs,h,.refl _⟩
end
end SST
namespace SST
section
variable{c:ByteArray->ByteArray->Int}{ok:ByteArray->Prop}
theorem td(v:Value)(xs:List ByteArray)(T:au)(a b:Nat)(R:ao)(h:OS 9 1 bL v xs T)(b1:a<b)(hb:b<=xs.length)(hl:xs.length<=1000000000)(hf:gJ c ok R)(S:∀x∈xs,ok x)(so:SO (aM c))(c0:LB (aM c) xs a b):
  Spec prog 417 [v,.int .i64 a,.int .i64 b] R [T] λu H'=>∃T',H'=[T']/\∃ys m,u=.bool m/\OS 9 1 bL v ys T'/\RP a b xs ys/\(m=true->SR (aM c) ys a b):=by
 have iv:=h.ay
 refine Spec.body func417 rfl results417 ntmps417 rfl ?_
 refine .sr<|.ag rfl<|.z<|.mo rfl ?_
 refine .ia (a+1) .add ?_
 refine .ag rfl<|.zs<|.sr<|.az rfl<|.block ?_
 refine .loop (X:=Nat×Nat×List ByteArray×au) (λy=>(y.1<=5/\a+1<=y.2.1/\y.2.1<=b)/\OS 9 1 bL v y.2.2.1 y.2.2.2/\RP a b xs y.2.2.1/\SR (aM c) y.2.2.1 a y.2.1) (λy=>[(0,v),(1,iN a),(2,iN b),(7,iN y.2.1),(8,iN y.1)]) (λy=>[y.2.2.2]) (λy=>5-y.1) (0,a+1,xs,T) ⟨⟨by omega,adV _,b1⟩,h,.refl _,λi j O Q K=>by simp only at K;omega⟩ kE.c.c.c.c.c rH ?_
 rintro⟨n,i,ys,T1⟩ ⟨⟨hn,G,H⟩,B,L,r⟩
 simp only at hn G H B L r⊢
 have c4:=L.length
 refine .seq<|.sr<|.mo rfl<|.q .lss<|.zn ?_
 refine .cond rfl (λO=>?_) λO=>?_
 have c7:n<5:=fg O
 refine .kn<|.seq<|.block<|.seq ?_
 refine bF.cut (X:=Nat) (λi=>(a+1<=i/\i<=b)/\SR (aM c) ys a i) (λi=>[(0,v),(1,iN a),(2,iN b),(7,iN i),(8,iN n)]) (λ_=>[T1]) ?_ ?_
 refine .block ?_
 refine .loop (X:=Nat) (λi=>(a+1<=i/\i<=b)/\SR (aM c) ys a i) (λi=>[(0,v),(1,iN a),(2,iN b),(7,iN i),(8,iN n)]) (λ_=>[T1]) (λi=>b-i) i ⟨⟨G,H⟩,r⟩ kE.c.c.c.c.c rH ?_
 clear G H r
 rintro i ⟨⟨G,H⟩,r⟩
 refine .seq<|.seq ?_
 refine .cM 13 mixed (by kernel_rfl) ?_
 conv=>arg 6;dsimp only[List.take]
 refine .mo rfl<|.mo rfl<|.q .lss<|.mo rfl ?_
 refine .split (t:=20) rfl (λe=>?_) (λe=>?_)
 have b9:i<b:=by have:=bp e;omega
 obtain⟨x,F⟩:∃x,ys[i]? =some x:=⟨_,bd (by omega)⟩
 obtain⟨y,A⟩:∃x,ys[i-1]? =some x:=⟨_,bd (by omega)⟩
 have d0:=S x (L.perm.mem_iff.1 (bD F))
 have d1:=S y (L.perm.mem_iff.1 (bD A))
 refine .gT e<|.mo rfl<|.gT e<|.mo rfl<|.gT e ?_
 refine .aU i B F (λd8=>?_)
 refine .gT e<|.lo rfl<|.gT e<|.mo rfl<|.gT e<|.mo rfl<|.gT e ?_
 refine .ia (i-1) .sub ?_
 refine .gT e ?_
 refine .aU (i-1) B A (λd9=>?_)
 refine .gT e<|.lo rfl<|.nil<|.gT e ?_
 refine .aH (jo hf x y _) (λu E=>?_)
 subst E
 refine .gT e<|.q .not<|.q (.bA e) ?_
 refine .zn ?_
 refine .cond rfl (λQ=>?_) λQ=>?_
 refine .kn<|.block<|.region<|.mo rfl ?_
 refine .ia (i+1) .add ?_
 refine .ag rfl<|.nil<|bz ?_
 ·have c1:aM c x y=false:=by
   have b4:(!aM c x y)=true:=Q
   simpa using b4
  exact br (i+1) ⟨⟨by omega,by omega⟩,r.snoc so (by omega) (by omega) λu w E Y=>by
   rw[A]at E;rw[F]at Y;cases E;cases Y;exact c1⟩ (by omega) kE.c.c.c.c.c rH
 refine .exit<|bk<|bw<|bq ?_
 exact aN i ⟨⟨G,H⟩,r⟩ kE.c.c.c.c.c rH
 refine .gF e<|.gF e<|.gF e<|.gF e<|.gF e<|.gF e<|.gF e<|.gF e<|.gF e<|.nil<|.gF e<|.gF e<|.q (.bg e) ?_
 refine .zn<|.bB<|.exit<|bk<|bw<|bq ?_
 exact aN i ⟨⟨G,H⟩,r⟩ kE.c.c.c.c.c rH
 intro x F
 obtain⟨d,b2⟩:∃d,d=x:=⟨_,rfl⟩
 rw[<-b2]at F⊢
 clear b2 x G H r
 obtain⟨⟨G,H⟩,r⟩:=F
 refine aG<|.seq<|.sr<|.mo rfl<|.mo rfl<|.q .cG<|.zn ?_
 refine .cond rfl (λK=>?_) λK=>?_
 refine .sr<|.az rfl ?_
 refine .ret (aR (bi (aR (cK (bi (aR (aO _ (.one (.tmp rfl)) rH ?_)))))))
 ·have b8:d=b:=by
   have b5:((d:Int)=b):=by simpa using K
   omega
  exact⟨_,rfl,ys,true,rfl,B,L,λ_=>b8▸r⟩
 have b9:d<b:=by
  have b5:¬((d:Int)=b):=by simpa using K
  omega
 obtain⟨x,F⟩:∃x,ys[d]? =some x:=⟨_,bd (by omega)⟩
 obtain⟨y,A⟩:∃x,ys[d-1]? =some x:=⟨_,bd (by omega)⟩
 refine .kn<|.seq<|.sr<|.mo rfl<|.mo rfl ?_
 refine .ia (b-a) .sub ?_
 refine .q .lss<|.zn ?_
 refine .cond rfl (λh4=>?_) λh4=>?_
 refine .sr<|.az rfl ?_
 refine .ret (aR (bi (aR (cK (bi (aR (aO _ (.one (.tmp rfl)) rH ?_)))))))
 ·exact⟨_,rfl,ys,false,rfl,B,L,λh=>by cases h⟩
 refine .kn<|.seq<|.cq [15,17] mixed ?_
 refine .tO 0 rfl .move<|.tO 1 rfl .move<|.tK 2 rfl .move<|.tK 3 rfl .move ?_
 refine .take 4 rfl (.i64 ((d-1:Nat):Int) .sub ⟨by omega,by omega,by omega⟩) (by kernel_rfl) ?_
 refine .tO 5 rfl .move<|.tO 6 rfl .move ?_
 refine .eF 7 rfl (.i64 ((d-1:Nat):Int) .sub ⟨by omega,by omega,by omega⟩) (by kernel_rfl) ?_
 refine RA.aU 8 rfl (d-1) B A rfl rfl rfl (by kernel_rfl) (λe0=>?_)
 refine .tO 9 rfl (.bo rfl)<|.tO 10 rfl .move<|.tO 11 rfl .move ?_
 refine RA.aU 12 rfl (d) B F rfl rfl rfl (by kernel_rfl) (λe1=>?_)
 refine .tO 13 rfl (.bo rfl) ?_
 refine RA.aU 14 rfl (d) B F rfl rfl rfl (by kernel_rfl) (λe2=>?_)
 refine .sT 15 rfl ?_
 refine .dC (d) B F y (λa7 W=>?_)
 refine .nil (Next.mod rfl ?_)
 refine RA.aU 16 rfl (d-1) B A rfl rfl rfl (by kernel_rfl) (λe3=>?_)
 refine .sT 17 rfl ?_
 obtain⟨zz,Z⟩:∃u,(ys.set (d) y)[d-1]? =some u:=⟨_,bd (by rw[adX];exact(adW.1 A).1)⟩
 refine .dC (d-1) W Z x (λJ D=>?_)
 rw[<-dW F A]at D
 refine .nil (Next.mod rfl ?_)
 refine RA.nil (by kernel_rfl) ?_
 have a1:=L.step (i:=d) (j:=d-1) (by omega) (by omega) (by omega) (by omega) (by omega)
 have b6:=r.yC (by omega)
 clear r
 refine aG<|.seq ?_
 refine bF.cut (X:=List ByteArray×au) (λz=>OS 9 1 bL v z.1 z.2/\RP a b xs z.1/\SR (aM c) z.1 a d) (λ_=>[(0,v),(1,iN a),(2,iN b),(7,iN d),(8,iN n)]) (λz=>[z.2]) ?_ ?_
 refine .sr<|.mo rfl<|.mo rfl ?_
 refine .ia (d-a) .sub ?_
 refine .q .geq<|.zn ?_
 refine .cond rfl (λh5=>?_) λh5=>?_
 refine .sr<|.mo rfl ?_
 refine .ia (d-1) .sub ?_
 refine .az rfl<|.block ?_
 refine .loop (X:=Nat×List ByteArray×au) (λz=>(a<=z.1/\z.1<=d-1)/\OS 9 1 bL v z.2.1 z.2.2/\RP a b xs z.2.1/\kp (aM c) z.2.1 a z.1 d) (λz=>[(0,v),(1,iN a),(2,iN b),(7,iN d),(8,iN n),(9,iN z.1)]) (λz=>[z.2.2]) (λz=>z.1) (d-1,bY ys d (d-1),J) ⟨⟨by simp only;omega,adV _⟩,D,a1,b6⟩ kE.c.c.c.c.c.c rH ?_
 rintro⟨q,o,I⟩ ⟨⟨a5,a6⟩,f,l,a0⟩
 simp only at a5 a6 f l a0⊢
 have c5:=l.length
 refine .seq<|.sr<|.mo rfl<|.q .geq<|.zn ?_
 refine .cond rfl (λh6=>?_) λh6=>?_
 have c8:1<=q:=by have:=bp h6;omega
 obtain⟨s,g⟩:∃x,o[q]? =some x:=⟨_,bd (by omega)⟩
 obtain⟨t,k⟩:∃x,o[q-1]? =some x:=⟨_,bd (by omega)⟩
 have c2:=S s (l.perm.mem_iff.1 (bD g))
 have c3:=S t (l.perm.mem_iff.1 (bD k))
 refine .kn<|.seq<|.block<|.seq<|.seq ?_
 refine .cM 9 mixed (by kernel_rfl) ?_
 conv=>arg 6;dsimp only[List.take]
 refine .mo rfl<|.mo rfl ?_
 refine .aU q f g (λe4=>?_)
 refine .lo rfl<|.mo rfl<|.mo rfl ?_
 refine .ia (q-1) .sub ?_
 refine .aU (q-1) f k (λe5=>?_)
 refine .lo rfl<|.nil ?_
 refine .aH (jo hf s t _) (λu E=>?_)
 subst E
 refine .q .not<|.zn ?_
 refine .cond rfl (λh7=>?_) λh7=>?_
 have a2:SR (aM c) o a d:=a0.done so (by omega) (by omega) (by
  have a3:(!aM c s t)=true:=h7
  rcases aea a q with hh|hh
  ·exact .inr ⟨hh,λu w E Y=>by rw[k]at E;rw[g]at Y;cases E;cases Y;simpa using a3⟩
  ·exact .inl (by omega))
 refine .exit (bk (iP (bk (bw (bq ?_)))))
 ·first
   |exact aN (o,I) ⟨f,l,a2⟩ kE.c.c.c.c.c rH
   |exact aN (bY ys d (d-1),J) ⟨D,a1,λp q O Q K=>by have:=ba h5;omega⟩ kE.c.c.c.c.c rH
 have a4:aM c s t=true:=by
  have a3:(!aM c s t)=false:=h7
  simpa using a3
 have b7:a<q:=by
  rcases aea a q with hh|hh
  ·exact hh
  ·have ea:q=a:=by omega
   subst ea
   have:=(c0.rp l) (by omega) q (adV _) b1 t s k g
   rw[this]at a4;cases a4
 refine .kn<|.cq [15,17] mixed ?_
 refine .tO 0 rfl .move<|.tO 1 rfl .move<|.tK 2 rfl .move<|.tK 3 rfl .move ?_
 refine .take 4 rfl (.i64 ((q-1:Nat):Int) .sub ⟨by omega,by omega,by omega⟩) (by kernel_rfl) ?_
 refine .tO 5 rfl .move<|.tO 6 rfl .move ?_
 refine .eF 7 rfl (.i64 ((q-1:Nat):Int) .sub ⟨by omega,by omega,by omega⟩) (by kernel_rfl) ?_
 refine RA.aU 8 rfl (q-1) f k rfl rfl rfl (by kernel_rfl) (λe6=>?_)
 refine .tO 9 rfl (.bo rfl)<|.tO 10 rfl .move<|.tO 11 rfl .move ?_
 refine RA.aU 12 rfl (q) f g rfl rfl rfl (by kernel_rfl) (λe7=>?_)
 refine .tO 13 rfl (.bo rfl) ?_
 refine RA.aU 14 rfl (q) f g rfl rfl rfl (by kernel_rfl) (λe8=>?_)
 refine .sT 15 rfl ?_
 refine .dC (q) f g t (λa7 W=>?_)
 refine .nil (Next.mod rfl ?_)
 refine RA.aU 16 rfl (q-1) f k rfl rfl rfl (by kernel_rfl) (λe9=>?_)
 refine .sT 17 rfl ?_
 obtain⟨zz,Z⟩:∃u,(o.set (q) t)[q-1]? =some u:=⟨_,bd (by rw[adX];exact(adW.1 k).1)⟩
 refine .dC (q-1) W Z s (λJ D=>?_)
 rw[<-dW g k]at D
 refine .nil (Next.mod rfl ?_)
 refine RA.nil (by kernel_rfl) ?_
 refine bz<|aG<|.region<|.mo rfl ?_
 refine .ia (q-1) .sub ?_
 refine .ag rfl<|.nil ?_
 ·exact br (q-1,bY o q (q-1),J) ⟨⟨by simp only;omega,by simp only;omega⟩,D,l.step (by omega) (by omega) (by omega) (by omega) (by omega),a0.step so (by omega) (by omega) b7 g k a4⟩ (by simp only;omega) kE.c.c.c.c.c.c rH
 have a2:SR (aM c) o a d:=a0.done so (by omega) (by omega) (.inl (by have:=ba h6;omega))
 refine .exit<|bk<|bw<|bq ?_
 ·first
   |exact aN (o,I) ⟨f,l,a2⟩ kE.c.c.c.c.c rH
   |exact aN (bY ys d (d-1),J) ⟨D,a1,λp q O Q K=>by have:=ba h5;omega⟩ kE.c.c.c.c.c rH
 refine .skip ?_
 ·first
   |exact aN (o,I) ⟨f,l,a2⟩ kE.c.c.c.c.c rH
   |exact aN (bY ys d (d-1),J) ⟨D,a1,λp q O Q K=>by have:=ba h5;omega⟩ kE.c.c.c.c.c rH
 intro y A
 obtain⟨o,I⟩:=y
 obtain⟨f,l,U⟩:=A
 simp only at f l U⊢
 refine aG ?_
 refine bF.cut (X:=List ByteArray×au) (λz=>OS 9 1 bL v z.1 z.2/\RP a b xs z.1/\SR (aM c) z.1 a d) (λ_=>[(0,v),(1,iN a),(2,iN b),(7,iN d),(8,iN n)]) (λz=>[z.2]) ?_ ?_
 refine .sr<|.mo rfl<|.mo rfl ?_
 refine .ia (b-d) .sub ?_
 refine .q .geq<|.zn ?_
 refine .cond rfl (λh8=>?_) λh8=>?_
 refine .sr<|.mo rfl ?_
 refine .ia (d+1) .add ?_
 refine .az rfl<|.block ?_
 refine .loop (X:=Nat×List ByteArray×au) (λz=>(d+1<=z.1/\z.1<=b)/\OS 9 1 bL v z.2.1 z.2.2/\RP a b xs z.2.1/\SR (aM c) z.2.1 a d) (λz=>[(0,v),(1,iN a),(2,iN b),(7,iN d),(8,iN n),(10,iN z.1)]) (λz=>[z.2.2]) (λz=>b-z.1) (d+1,o,I) ⟨⟨adV _,by simp only;omega⟩,f,l,U⟩ kE.c.c.c.c.c.c rH ?_
 rintro⟨q,N,T4⟩ ⟨⟨a5,a6⟩,C,M,V⟩
 simp only at a5 a6 C M V⊢
 have c6:=M.length
 refine .seq<|.sr<|.mo rfl<|.mo rfl<|.q .lss<|.zn ?_
 refine .cond rfl (λh9=>?_) λh9=>?_
 have c9:q<b:=fg h9
 obtain⟨s,g⟩:∃x,N[q]? =some x:=⟨_,bd (by omega)⟩
 obtain⟨t,k⟩:∃x,N[q-1]? =some x:=⟨_,bd (by omega)⟩
 have c2:=S s (M.perm.mem_iff.1 (bD g))
 have c3:=S t (M.perm.mem_iff.1 (bD k))
 refine .kn<|.seq<|.block<|.seq<|.seq ?_
 refine .cM 9 mixed (by kernel_rfl) ?_
 conv=>arg 6;dsimp only[List.take]
 refine .mo rfl<|.mo rfl ?_
 refine .aU q C g (λd2=>?_)
 refine .lo rfl<|.mo rfl<|.mo rfl ?_
 refine .ia (q-1) .sub ?_
 refine .aU (q-1) C k (λd3=>?_)
 refine .lo rfl<|.nil ?_
 refine .aH (jo hf s t _) (λu E=>?_)
 subst E
 refine .q .not<|.zn ?_
 refine .cond rfl (λb3=>?_) λb3=>?_
 refine .exit (bk (iP (bk (bw (bq ?_)))))
 ·first
   |exact aN (N,T4) ⟨C,M,V⟩ kE.c.c.c.c.c rH
   |exact aN (o,I) ⟨f,l,U⟩ kE.c.c.c.c.c rH
 refine .kn<|.cq [15,17] mixed ?_
 refine .tO 0 rfl .move<|.tO 1 rfl .move<|.tK 2 rfl .move<|.tK 3 rfl .move ?_
 refine .take 4 rfl (.i64 ((q-1:Nat):Int) .sub ⟨by omega,by omega,by omega⟩) (by kernel_rfl) ?_
 refine .tO 5 rfl .move<|.tO 6 rfl .move ?_
 refine .eF 7 rfl (.i64 ((q-1:Nat):Int) .sub ⟨by omega,by omega,by omega⟩) (by kernel_rfl) ?_
 refine RA.aU 8 rfl (q-1) C k rfl rfl rfl (by kernel_rfl) (λd4=>?_)
 refine .tO 9 rfl (.bo rfl)<|.tO 10 rfl .move<|.tO 11 rfl .move ?_
 refine RA.aU 12 rfl (q) C g rfl rfl rfl (by kernel_rfl) (λd5=>?_)
 refine .tO 13 rfl (.bo rfl) ?_
 refine RA.aU 14 rfl (q) C g rfl rfl rfl (by kernel_rfl) (λd6=>?_)
 refine .sT 15 rfl ?_
 refine .dC (q) C g t (λa7 W=>?_)
 refine .nil (Next.mod rfl ?_)
 refine RA.aU 16 rfl (q-1) C k rfl rfl rfl (by kernel_rfl) (λd7=>?_)
 refine .sT 17 rfl ?_
 obtain⟨zz,Z⟩:∃u,(N.set (q) t)[q-1]? =some u:=⟨_,bd (by rw[adX];exact(adW.1 k).1)⟩
 refine .dC (q-1) W Z s (λJ D=>?_)
 rw[<-dW g k]at D
 refine .nil (Next.mod rfl ?_)
 refine RA.nil (by kernel_rfl) ?_
 refine bz<|aG<|.region<|.mo rfl ?_
 refine .ia (q+1) .add ?_
 refine .ag rfl<|.nil ?_
 ·exact br (q+1,bY N q (q-1),J) ⟨⟨by simp only;omega,by simp only;omega⟩,D,M.step (by omega) (by omega) (by omega) (by omega) (by omega),V.yD (by omega) (by omega) (by omega) (by omega)⟩ (by simp only;omega) kE.c.c.c.c.c.c rH
 refine .exit<|bk<|bw<|bq ?_
 ·first
   |exact aN (N,T4) ⟨C,M,V⟩ kE.c.c.c.c.c rH
   |exact aN (o,I) ⟨f,l,U⟩ kE.c.c.c.c.c rH
 refine .skip ?_
 ·first
   |exact aN (N,T4) ⟨C,M,V⟩ kE.c.c.c.c.c rH
   |exact aN (o,I) ⟨f,l,U⟩ kE.c.c.c.c.c rH
 intro y A
 obtain⟨us,T5⟩:=y
 obtain⟨a8,a9,b0⟩:=A
 simp only at a8 a9 b0⊢
 refine bz<|aG<|.region<|.mo rfl ?_
 refine .ia (n+1) .add ?_
 refine .ag rfl<|.nil ?_
 ·exact br (n+1,d,us,T5) ⟨⟨by simp only;omega,G,H⟩,a8,a9,b0⟩ (by simp only;omega) kE.c.c.c.c.c rH
 refine .exit<|bk<|bw<|bq<|aG<|.sr<|.az rfl ?_
 refine .ret (aO _ (.one (.tmp rfl)) rH ?_)
 ·exact⟨_,rfl,ys,false,rfl,B,L,λh=>by cases h⟩
end
end SST
namespace SST
section
variable{c:ByteArray->ByteArray->Int}{ok:ByteArray->Prop}
theorem mS(v:Value)(xs:List ByteArray)(a b lo hi d:Nat)(s:Int)(R:ao)(h:RS R 1 bL v xs)(e:lo<=a/\a<hi)(f:lo<=b/\b<hi)(n:hi<=xs.length)(l:gJ c ok R)(g:∀x∈xs,ok x):
  Spec prog 495 [v,.int .i64 a,.int .i64 b,pT d] R [bl d [.int .i64 s] 3] λu H'=>∃T',H'=[T']/\∃(s':Int) (p q:Nat),u=.tuple [.int .i64 p,.int .i64 q].toArray/\T'=(bl d [.int .i64 s'] 3)/\(lo<=p/\p<hi)/\(lo<=q/\q<hi):=by
 have o:=h.ay
 obtain⟨x,i⟩:∃x,xs[b]? =some x:=⟨_,bd (by omega)⟩
 obtain⟨y,j⟩:∃x,xs[a]? =some x:=⟨_,bd (by omega)⟩
 have r:=g x (bD i)
 have t:=g y (bD j)
 refine Spec.body func495 rfl results495 ntmps495 rfl ?_
 refine .sr<|.ag rfl<|.ag rfl<|.zs<|.seq ?_
 refine .cM 8 mixed (by kernel_rfl) ?_
 conv=>arg 6;dsimp only[List.take]
 refine .mo rfl<|.mo rfl ?_
 refine .cB b h i (λw=>?_)
 refine .lo rfl<|.mo rfl<|.mo rfl ?_
 refine .cB a h j (λA=>?_)
 refine .lo rfl<|.nil ?_
 refine .aH (jo l x y _) (λu m=>?_)
 subst m
 refine .zn ?_
 refine .cond rfl (λk=>?_) λk=>?_
 refine .sr<|.mo rfl<|.nc rfl<|.lo rfl<|.q .add ?_
 refine .nc rfl<|.ca rfl rfl<|.z<|.mo rfl<|.mo rfl<|.ag rfl<|.az rfl ?_
 refine .ret (aR (aO _ (.two (.tmp rfl) (.tmp rfl)) rH ?_))
 ·exact⟨_,rfl,_,b,a,rfl,rfl,f,e⟩
 refine .kn<|.sr<|.mo rfl<|.mo rfl<|.ag rfl<|.az rfl ?_
 refine .ret (aO _ (.two (.tmp rfl) (.tmp rfl)) rH ?_)
 ·exact⟨_,rfl,_,a,b,rfl,rfl,e,f⟩
theorem ph(v:Value)(xs:List ByteArray)(a b d lo hi e:Nat)(s:Int)(R:ao)(h:RS R 1 bL v xs)(k:lo<=a/\a<hi)(l:lo<=b/\b<hi)(m:lo<=d/\d<hi)(i:hi<=xs.length)(g:gJ c ok R)(j:∀x∈xs,ok x):
  Spec prog 470 [v,.int .i64 a,.int .i64 b,.int .i64 d,pT e] R [bl e [.int .i64 s] 3] λu H'=>∃T',H'=[T']/\∃(s':Int) (p:Nat),u=.int .i64 p/\T'=(bl e [.int .i64 s'] 3)/\(lo<=p/\p<hi):=by
 have K:=h.ay
 refine Spec.body func470 rfl results470 ntmps470 rfl ?_
 refine .sr<|.ag rfl<|.z<|.mo rfl<|.mo rfl<|.mo rfl<|.mo rfl ?_
 refine .aT (mS v xs a b lo hi e s _ h k l i g j) (λu F f=>?_)
 obtain⟨C,w,A,rfl,rfl,n,r⟩:=f
 refine .mo rfl<|.q .extract<|.q .extract<|.ag rfl<|.ag rfl<|.z<|.mo rfl<|.mo rfl<|.mo rfl<|.mo rfl ?_
 refine .aT (mS v xs A d lo hi e C _ h r m i g j) (λu G f=>?_)
 obtain⟨D,y,M,rfl,rfl,o,J⟩:=f
 refine .mo rfl<|.q .extract<|.q .extract<|.ag rfl<|.ag rfl<|.z<|.mo rfl<|.mo rfl<|.mo rfl<|.mo rfl ?_
 refine .aT (mS v xs w y lo hi e D _ h n o i g j) (λu H f=>?_)
 obtain⟨E,L,B,rfl,rfl,I,t⟩:=f
 refine .mo rfl<|.q .extract<|.q .extract<|.ag rfl<|.ag rfl<|.z<|.mo rfl<|.az rfl ?_
 refine .ret (aO _ (.one (.tmp rfl)) rH ?_)
 ·exact⟨_,rfl,E,B,rfl,rfl,t⟩
theorem mP(v:Value)(xs:List ByteArray)(a lo hi b:Nat)(s:Int)(R:ao)(h:RS R 1 bL v xs)(m:lo+1<=a/\a+1<hi)(e:hi<=xs.length)(n:xs.length<=1000000000)(d:gJ c ok R)(f:∀x∈xs,ok x):
  Spec prog 469 [v,.int .i64 a,pT b] R [bl b [.int .i64 s] 3] λu H'=>∃T',H'=[T']/\∃(s':Int) (p:Nat),u=.int .i64 p/\T'=(bl b [.int .i64 s'] 3)/\(lo<=p/\p<hi):=by
 have o:=h.ay
 refine Spec.body func469 rfl results469 ntmps469 rfl ?_
 refine .sr<|.ag rfl<|.z<|.mo rfl<|.mo rfl ?_
 refine .ia (a-1) .sub ?_
 refine .mo rfl<|.mo rfl ?_
 refine .ia (a+1) .add ?_
 refine .mo rfl ?_
 refine .aT (ph v xs (a-1) a (a+1) lo hi b s _ h (by omega) (by omega) (by omega) e d f) (λu l i=>?_)
 obtain⟨k,j,rfl,rfl,g⟩:=i
 refine .az rfl ?_
 refine .ret (aO _ (.one (.tmp rfl)) rH ?_)
 ·exact⟨_,rfl,k,j,rfl,rfl,g⟩
theorem choose_spec(v:Value)(xs:List ByteArray)(a b:Nat)(R:ao)(h:RS R 1 bL v xs)(W:a<b)(g:b<=xs.length)(r:xs.length<=1000000000)(l:gJ c ok R)(m:∀x∈xs,ok x):
  Spec prog 415 [v,.int .i64 a,.int .i64 b] R [] λu H'=>(∃(p:Nat) (t:Int),u=.tuple [.int .i64 p,.int .i64 t].toArray/\a<=p/\p<b)/\H'=[]:=by
 have iv:=h.ay
 obtain⟨n,T⟩:∃n,b=a+n:=⟨b-a,by omega⟩
 subst T
 obtain⟨q,w⟩:∃q,q=n/4:=⟨_,rfl⟩
 refine Spec.body func415 rfl results415 ntmps415 rfl ?_
 refine .sr<|.ag rfl<|.ag rfl<|.z<|.mo rfl<|.mo rfl ?_
 refine .ia (n) .sub ?_
 refine .ag rfl<|.z ?_
 refine .p4 (λe=>?_)
 refine .z<|.mo rfl<|.mo rfl ?_
 refine .q (.i64 ((q:Nat):Int) .quo ⟨by rw[w,ad5 (by omega)];omega,by omega,by omega⟩) ?_
 refine .ia (q) .mul ?_
 refine .ia (a+q) .add ?_
 refine .ag rfl<|.z<|.mo rfl<|.mo rfl ?_
 refine .q (.i64 ((q:Nat):Int) .quo ⟨by rw[w,ad5 (by omega)];omega,by omega,by omega⟩) ?_
 refine .ia (q*2) .mul ?_
 refine .ia (a+q*2) .add ?_
 refine .ag rfl<|.z<|.mo rfl<|.mo rfl ?_
 refine .q (.i64 ((q:Nat):Int) .quo ⟨by rw[w,ad5 (by omega)];omega,by omega,by omega⟩) ?_
 refine .ia (q*3) .mul ?_
 refine .ia (a+q*3) .add ?_
 refine .ag rfl<|.zs ?_
 refine bF.cut (X:=Nat×Int) (λz=>a<=z.1/\z.1<a+n) (λz=>[(9,pT e),(11,iN z.1)]) (λz=>[bl e [.int .i64 z.2] 3]) ?_ ?_
 refine .sr<|.mo rfl<|.q .geq<|.zn ?_
 refine .cond rfl (λA=>?_) λA=>?_
 have Z:8<=n:=by have:=bp A;omega
 refine .seq ?_
 refine bF.cut (X:=Nat×Nat×Nat×Int) (λz=>(a<=z.1/\z.1<a+n)/\(a<=z.2.1/\z.2.1<a+n)/\(a<=z.2.2.1/\z.2.2.1<a+n)) (λz=>[(0,v),(9,pT e),(10,iN z.1),(11,iN z.2.1),(12,iN z.2.2.1)]) (λz=>[bl e [.int .i64 z.2.2.2] 3]) ?_ ?_
 refine .sr<|.mo rfl<|.q .geq<|.zn ?_
 refine .cond rfl (λB=>?_) λB=>?_
 have Y:50<=n:=by have:=bp B;omega
 refine .sr<|.mo rfl<|.mo rfl ?_
 refine .aT (mP v xs (a+q) a (a+n) e 0 _ h (by omega) g r l m) (λu o f=>?_)
 obtain⟨U,J,rfl,rfl,F⟩:=f
 refine .ag rfl<|.z<|.mo rfl<|.mo rfl ?_
 refine .aT (mP v xs (a+q*2) a (a+n) e U _ h (by omega) g r l m) (λu o f=>?_)
 obtain⟨V,K,rfl,rfl,G⟩:=f
 refine .az rfl<|.region<|.mo rfl<|.mo rfl ?_
 refine .aT (mP v xs (a+q*3) a (a+n) e V _ h (by omega) g r l m) (λu o f=>?_)
 obtain⟨N,L,rfl,rfl,H⟩:=f
 refine .ag rfl<|.nil ?_
 ·first
   |exact aN (J,K,L,N) ⟨F,G,H⟩ kE.c.c.c.c.c rH
   |exact aN (a+q,a+q*2,a+q*3,0) ⟨by simp only;omega,by simp only;omega,by simp only;omega⟩ kE.c.c.c.c.c rH
 refine .skip ?_
 ·first
   |exact aN (J,K,L,N) ⟨F,G,H⟩ kE.c.c.c.c.c rH
   |exact aN (a+q,a+q*2,a+q*3,0) ⟨by simp only;omega,by simp only;omega,by simp only;omega⟩ kE.c.c.c.c.c rH
 intro y d
 obtain⟨i,j,k,s⟩:=y
 obtain⟨C,D,E⟩:=d
 simp only at C D E⊢
 refine aG<|.region<|.mo rfl<|.mo rfl<|.mo rfl<|.mo rfl ?_
 refine .aT (ph v xs i j k a (a+n) e s _ h C D E g l m) (λu o f=>?_)
 obtain⟨O,M,rfl,rfl,I⟩:=f
 refine .ag rfl<|.nil ?_
 ·first
   |exact aN (M,O) I kE.c.c rH
   |exact aN (a+q*2,0) (by simp only;omega) kE.c.c rH
 refine .skip ?_
 ·first
   |exact aN (M,O) I kE.c.c rH
   |exact aN (a+q*2,0) (by simp only;omega) kE.c.c rH
 intro y d
 obtain⟨p,s⟩:=y
 simp only at d⊢
 refine aG<|.sr<|.lo rfl<|.zn<|.block<|.sr<|.q .cG<|.az rfl ?_
 refine .cond rfl (λQ=>?_) λQ=>?_
 refine .sr<|.mo rfl<|.ag rfl<|.az rfl ?_
 refine .ret (bi (aO _ (.two (.tmp rfl) (.tmp rfl)) (.none _) ?_))
 ·exact⟨⟨p,_,rfl,d.1,d.2⟩,rfl⟩
 refine .sr<|.q .cG<|.az rfl ?_
 refine .cond rfl (λS=>?_) λS=>?_
 refine .sr<|.mo rfl<|.ag rfl<|.az rfl ?_
 refine .ret (bi (aO _ (.two (.tmp rfl) (.tmp rfl)) (.none _) ?_))
 ·exact⟨⟨p,_,rfl,d.1,d.2⟩,rfl⟩
 refine .sr<|.mo rfl<|.ag rfl<|.az rfl ?_
 refine .ret (bi (aO _ (.two (.tmp rfl) (.tmp rfl)) (.none _) ?_))
 ·exact⟨⟨p,_,rfl,d.1,d.2⟩,rfl⟩
end
end SST
namespace SST
section
variable{c:ByteArray->ByteArray->Int}{ok:ByteArray->Prop}
theorem sY(v:Value)(xs:List ByteArray)(T:au)(a b m:Nat)(p:ByteArray)(R:ao)(h:OS 9 1 bL v xs T)(a9:a<b)(hm:a<=m/\m<b)(B:xs[m]? =some p)(hb:b<=xs.length)(hl:xs.length<=1000000000)(hf:gJ c ok R)(Z:∀x∈xs,ok x)(so:SO (aM c))
  (b5:∀(k:Nat) (x:ByteArray),a<=k->k<b->xs[k]? =some x->aM c x p=false):
  Spec prog 419 [v,.int .i64 a,.int .i64 b,.int .i64 m] R [T] λu H'=>∃T',H'=[T']/\∃ys mid,u=iN mid/\OS 9 1 bL v ys T'/\RP a b xs ys/\pY (aM c) ys a mid b p:=by
 have iv:=h.ay
 obtain⟨x0,D⟩:∃x,xs[a]? =some x:=⟨_,bd (by omega)⟩
 have c7:=Z p (bD B)
 refine Spec.body func419 rfl results419 ntmps419 rfl ?_
 refine .sr<|.ag rfl<|.zs<|.cq [13,15] mixed ?_
 refine .tO 0 rfl .move<|.tO 1 rfl .move<|.tK 2 rfl .move<|.tK 3 rfl .move<|.tO 4 rfl .move<|.tO 5 rfl .move ?_
 refine RA.aU 6 rfl (m) h B rfl rfl rfl (by kernel_rfl) (λd0=>?_)
 refine .tO 7 rfl (.bo rfl)<|.tO 8 rfl .move<|.tO 9 rfl .move ?_
 refine RA.aU 10 rfl (a) h D rfl rfl rfl (by kernel_rfl) (λd1=>?_)
 refine .tO 11 rfl (.bo rfl) ?_
 refine RA.aU 12 rfl (a) h D rfl rfl rfl (by kernel_rfl) (λd2=>?_)
 refine .sT 13 rfl ?_
 refine .dC (a) h D p (λa7 a0=>?_)
 refine .nil (Next.mod rfl ?_)
 refine RA.aU 14 rfl (m) h B rfl rfl rfl (by kernel_rfl) (λd3=>?_)
 refine .sT 15 rfl ?_
 obtain⟨zz,a1⟩:∃u,(xs.set (a) p)[m]? =some u:=⟨_,bd (by rw[adX];exact(adW.1 B).1)⟩
 refine .dC (m) a0 a1 x0 (λU H=>?_)
 rw[<-dW D B]at H
 refine .nil (Next.mod rfl ?_)
 refine RA.nil (by kernel_rfl) ?_
 have a8:RP a b xs (bY xs a m):=(RP.refl xs).step (by omega) (by omega) (by omega) (by omega) (by omega)
 have b0:(bY xs a m)[a]? =some p:=by
  rw[eg (by omega) (by omega)]
  by_cases Y:a=m
  ·rw[ad6 Y,D, <-B, <-Y,D]
  ·rw[adY Y,ad6 rfl,B]
 refine aG<|.sr<|.mo rfl ?_
 refine .ia (a+1) .add ?_
 refine .mo rfl ?_
 refine .ia (b-1) .sub ?_
 refine .ag rfl<|.ag rfl<|.zs<|.block ?_
 refine .loop (X:=Nat×Nat×List ByteArray×au) (λy=>OS 9 1 bL v y.2.2.1 y.2.2.2/\RP a b xs y.2.2.1/\PQ (λx=> !aM c p x) y.2.2.1 a y.1 y.2.1 b p) (λy=>[(0,v),(1,iN a),(9,iN y.1),(10,iN y.2.1)]) (λy=>[y.2.2.2]) (λy=>y.2.1+1-y.1) (a+1,b-1,bY xs a m,U) ⟨H,a8,.start a9 b0⟩ kE.c.c.c.c rH ?_
 rintro⟨i,j,ys,L⟩ ⟨s,A,C⟩
 simp only at s A C⊢
 have c6:=A.length
 have c0:=C.i0
 have c2:=C.ij
 have c4:=C.jb
 have a6:=C.at_
 refine .block<|.seq ?_
 refine bF.cut (X:=Nat) (λn=>i<=n/\PQ (λx=> !aM c p x) ys a n j b p/\∀x,n<=j->ys[n]? =some x->(!aM c p x)=false) (λn=>[(0,v),(1,iN a),(9,.int .i64 (n:Nat)),(10,iN j)]) (λ_=>[L]) ?_ ?_
 refine .block ?_
 refine .loop (X:=Nat) (λn=>i<=n/\PQ (λx=> !aM c p x) ys a n j b p) (λn=>[(0,v),(1,iN a),(9,.int .i64 (n:Nat)),(10,iN j)]) (λ_=>[L]) (λn=>j+1-n) i ⟨adV _,C⟩ kE.c.c.c.c rH ?_
 rintro w ⟨Q,F⟩
 refine .seq<|.seq ?_
 refine .cM 12 mixed (by kernel_rfl) ?_
 conv=>arg 6;dsimp only[List.take]
 refine .mo rfl<|.mo rfl<|.q .leq<|.mo rfl ?_
 refine .split (t:=32) rfl (λd=>?_) (λd=>?_)
 have b3:w<=j:=by have:=bp d;omega
 obtain⟨x2,I⟩:∃x,ys[w]? =some x:=⟨_,bd (by omega)⟩
 have c8:=Z x2 (A.perm.mem_iff.1 (bD I))
 refine .gT d<|.mo rfl<|.gT d<|.mo rfl<|.gT d ?_
 refine .aU a s a6 (λd4=>?_)
 refine .gT d<|.lo rfl<|.gT d<|.mo rfl<|.gT d<|.mo rfl<|.gT d ?_
 refine .aU w s I (λd5=>?_)
 refine .gT d<|.lo rfl<|.nil<|.gT d ?_
 refine .aH (jo hf p x2 _) (λu hu=>?_)
 subst hu
 refine .gT d<|.q .not<|.q (.bA d) ?_
 refine .zn ?_
 refine .cond rfl (λM=>?_) λM=>?_
 refine .kn<|.block<|.region<|.mo rfl ?_
 refine .ia (w+1) .add ?_
 refine .ag rfl<|.nil<|bz ?_
 ·exact br (w+1) ⟨by omega,F.inc b3 I M⟩ (by omega) kE.c.c.c.c rH
 refine .exit<|bk<|bw<|bq ?_
 first
  |exact aN w ⟨Q,F,λx f l=>by rw[I]at l;cases l;exact M⟩ kE.c.c.c.c rH
  |exact aN w ⟨Q,F,λx f l=>by have:=ba d;omega⟩ kE.c.c.c.c rH
 refine .gF d<|.gF d<|.gF d<|.gF d<|.gF d<|.gF d<|.gF d<|.gF d<|.nil<|.gF d<|.gF d<|.q (.bg d) ?_
 refine .zn<|.bB<|.exit<|bk<|bw<|bq ?_
 first
  |exact aN w ⟨Q,F,λx f l=>by rw[I]at l;cases l;exact M⟩ kE.c.c.c.c rH
  |exact aN w ⟨Q,F,λx f l=>by have:=ba d;omega⟩ kE.c.c.c.c rH
 intro x f
 obtain⟨g,a3⟩:∃g,g=x:=⟨_,rfl⟩
 rw[<-a3]at f⊢
 clear a3 x
 obtain⟨c1,a2,b8⟩:=f
 refine aG<|.seq ?_
 refine bF.cut (X:=Nat) (λo=>o<=j/\PQ (λx=> !aM c p x) ys a g o b p/\∀x,g<=o->ys[o]? =some x->(!aM c p x)=true) (λo=>[(0,v),(1,iN a),(9,iN g),(10,.int .i64 (o:Nat))]) (λ_=>[L]) ?_ ?_
 refine .block ?_
 refine .loop (X:=Nat) (λo=>o<=j/\PQ (λx=> !aM c p x) ys a g o b p) (λo=>[(0,v),(1,iN a),(9,iN g),(10,.int .i64 (o:Nat))]) (λ_=>[L]) (λo=>o) j ⟨adV _,a2⟩ kE.c.c.c.c rH ?_
 rintro z ⟨S,G⟩
 have b2:=a2.i0
 refine .seq<|.seq ?_
 refine .cM 12 mixed (by kernel_rfl) ?_
 conv=>arg 6;dsimp only[List.take]
 refine .mo rfl<|.mo rfl<|.q .leq<|.mo rfl ?_
 refine .split (t:=49) rfl (λe=>?_) (λe=>?_)
 have b4:g<=z:=by have:=bp e;omega
 obtain⟨K,J⟩:∃x,ys[z]? =some x:=⟨_,bd (by omega)⟩
 have c9:=Z K (A.perm.mem_iff.1 (bD J))
 refine .gT e<|.mo rfl<|.gT e<|.mo rfl<|.gT e ?_
 refine .aU a s a6 (λd6=>?_)
 refine .gT e<|.lo rfl<|.gT e<|.mo rfl<|.gT e<|.mo rfl<|.gT e ?_
 refine .aU z s J (λd7=>?_)
 refine .gT e<|.lo rfl<|.nil<|.gT e ?_
 refine .aH (jo hf p K _) (λu hu=>?_)
 subst hu
 refine .q (.bA e) ?_
 refine .zn ?_
 refine .cond rfl (λN=>?_) λN=>?_
 refine .kn<|.block<|.region<|.mo rfl ?_
 refine .ia (z-1) .sub ?_
 refine .ag rfl<|.nil<|bz ?_
 ·have b6:aM c p K=true:=N
  exact br (z-1) ⟨by omega,G.dec b4 J (by rw[b6];rfl)⟩ (by omega) kE.c.c.c.c rH
 refine .exit<|bk<|bw<|bq ?_
 first
  |exact aN z ⟨S,G,λx f l=>by have W:aM c p K=false:=N;rw[J]at l;cases l;rw[W];rfl⟩ kE.c.c.c.c rH
  |exact aN z ⟨S,G,λx f l=>by have:=ba e;omega⟩ kE.c.c.c.c rH
 refine .gF e<|.gF e<|.gF e<|.gF e<|.gF e<|.gF e<|.gF e<|.gF e<|.nil<|.gF e<|.q (.bg e) ?_
 refine .zn<|.bB<|.exit<|bk<|bw<|bq ?_
 first
  |exact aN z ⟨S,G,λx f l=>by have W:aM c p K=false:=N;rw[J]at l;cases l;rw[W];rfl⟩ kE.c.c.c.c rH
  |exact aN z ⟨S,G,λx f l=>by have:=ba e;omega⟩ kE.c.c.c.c rH
 intro x f
 obtain⟨r,a4⟩:∃r,r=x:=⟨_,rfl⟩
 rw[<-a4]at f⊢
 clear a4 x
 obtain⟨c5,O,b9⟩:=f
 have b2:=O.i0
 have c3:=O.ij
 refine aG<|.seq<|.sr<|.mo rfl<|.mo rfl<|.q .gtr<|.zn ?_
 refine .cond rfl (λV=>?_) λV=>?_
 refine .exit (bk (iP (bw (bq ?_))))
 refine aG<|.sr<|.mo rfl<|.az rfl ?_
 refine .ret (aO _ (.one (.tmp rfl)) rH ?_)
 ·have b1:r<g:=fg V
  exact⟨_,rfl,ys,g,rfl,s,A,O.wq so b1 (A.all (p:=λx=>aM c x p=false) b5)⟩
 have a5:g<=r:=by have:=ba V;omega
 obtain⟨x,f⟩:∃x,ys[g]? =some x:=⟨_,bd (by omega)⟩
 obtain⟨y,E⟩:∃x,ys[r]? =some x:=⟨_,bd (by omega)⟩
 have b7:=O.sw a5 (by omega) f E (b8 x (by omega) f) (b9 y a5 E)
 refine .kn<|.seq<|.cq [13,15] mixed ?_
 refine .tO 0 rfl .move<|.tO 1 rfl .move<|.tK 2 rfl .move<|.tK 3 rfl .move<|.tO 4 rfl .move<|.tO 5 rfl .move ?_
 refine RA.aU 6 rfl (r) s E rfl rfl rfl (by kernel_rfl) (λd8=>?_)
 refine .tO 7 rfl (.bo rfl)<|.tO 8 rfl .move<|.tO 9 rfl .move ?_
 refine RA.aU 10 rfl (g) s f rfl rfl rfl (by kernel_rfl) (λd9=>?_)
 refine .tO 11 rfl (.bo rfl) ?_
 refine RA.aU 12 rfl (g) s f rfl rfl rfl (by kernel_rfl) (λe0=>?_)
 refine .sT 13 rfl ?_
 refine .dC (g) s f y (λa7 a0=>?_)
 refine .nil (Next.mod rfl ?_)
 refine RA.aU 14 rfl (r) s E rfl rfl rfl (by kernel_rfl) (λe1=>?_)
 refine .sT 15 rfl ?_
 obtain⟨zz,a1⟩:∃u,(ys.set (g) y)[r]? =some u:=⟨_,bd (by rw[adX];exact(adW.1 E).1)⟩
 refine .dC (r) a0 a1 x (λU H=>?_)
 rw[<-dW f E]at H
 refine .nil (Next.mod rfl ?_)
 refine RA.nil (by kernel_rfl) ?_
 refine aG<|.sr<|.mo rfl ?_
 refine .ia (g+1) .add ?_
 refine .az rfl<|.region<|.mo rfl ?_
 refine .ia (r-1) .sub ?_
 refine .ag rfl<|.nil<|bz ?_
 ·exact br (g+1,r-1,bY ys g r,U) ⟨H,A.step (by omega) (by omega) (by omega) (by omega) (by omega),b7.2⟩ (by simp only;omega) kE.c.c.c.c rH
theorem pA(v:Value)(xs:List ByteArray)(T:au)(a b m:Nat)(p:ByteArray)(R:ao)(h:OS 9 1 bL v xs T)(d8:a<b)(hm:a<=m/\m<b)(Q:xs[m]? =some p)(hb:b<=xs.length)(hl:xs.length<=1000000000)(hf:gJ c ok R)(a9:∀x∈xs,ok x)(so:SO (aM c)):
  Spec prog 420 [v,.int .i64 a,.int .i64 b,.int .i64 m] R [T] λu H'=>∃T',H'=[T']/\∃ys mid z,u=.tuple [iN mid,.bool z].toArray/\OS 9 1 bL v ys T'/\RP a b xs ys/\Part (aM c) ys a mid b p:=by
 have iv:=h.ay
 obtain⟨x0,a2⟩:∃x,xs[a]? =some x:=⟨_,bd (by omega)⟩
 have g8:=a9 p (bD Q)
 refine Spec.body func420 rfl results420 ntmps420 rfl ?_
 refine .sr<|.ag rfl<|.ag rfl<|.zs<|.cq [13,15] mixed ?_
 refine .tO 0 rfl .move<|.tO 1 rfl .move<|.tK 2 rfl .move<|.tK 3 rfl .move<|.tO 4 rfl .move<|.tO 5 rfl .move ?_
 refine RA.aU 6 rfl (m) h Q rfl rfl rfl (by kernel_rfl) (λj7=>?_)
 refine .tO 7 rfl (.bo rfl)<|.tO 8 rfl .move<|.tO 9 rfl .move ?_
 refine RA.aU 10 rfl (a) h a2 rfl rfl rfl (by kernel_rfl) (λj8=>?_)
 refine .tO 11 rfl (.bo rfl) ?_
 refine RA.aU 12 rfl (a) h a2 rfl rfl rfl (by kernel_rfl) (λk0=>?_)
 refine .sT 13 rfl ?_
 refine .dC (a) h a2 p (λb4 G=>?_)
 refine .nil (Next.mod rfl ?_)
 refine RA.aU 14 rfl (m) h Q rfl rfl rfl (by kernel_rfl) (λk1=>?_)
 refine .sT 15 rfl ?_
 obtain⟨zz,H⟩:∃u,(xs.set (a) p)[m]? =some u:=⟨_,bd (by rw[adX];exact(adW.1 Q).1)⟩
 refine .dC (m) G H x0 (λN B=>?_)
 rw[<-dW a2 Q]at B
 refine .nil (Next.mod rfl ?_)
 refine RA.nil (by kernel_rfl) ?_
 have a0:RP a b xs (bY xs a m):=(RP.refl xs).step (by omega) (by omega) (by omega) (by omega) (by omega)
 have M:(bY xs a m)[a]? =some p:=by
  rw[eg (by omega) (by omega)]
  by_cases hk:a=m
  ·rw[ad6 hk,a2, <-Q, <-hk,a2]
  ·rw[adY hk,ad6 rfl,Q]
 obtain⟨A,d3⟩:∃A,A=bY xs a m:=⟨_,rfl⟩
 rw[<-d3]at B a0 M
 obtain⟨V,d7⟩:∃V,V=N:=⟨_,rfl⟩
 rw[<-d7]at B⊢
 have g6:=a0.length
 have C:=B
 clear B
 have d6:PQ (λx=>aM c x p) A a (a+1) (b-1) b p:=.start d8 M
 clear d3
 refine aG<|.sr<|.mo rfl ?_
 refine .ia (a+1) .add ?_
 refine .mo rfl ?_
 refine .ia (b-1) .sub ?_
 refine .ag rfl<|.ag rfl<|.zs ?_
 refine bF.cut (X:=Nat) (λl=>PQ (λx=>aM c x p) A a l (b-1) b p/\∀x,l<=b-1->A[l]? =some x->aM c x p=false) (λl=>[(0,v),(1,iN a),(10,.int .i64 (l:Nat)),(11,.int .i64 ((b-1:Nat):Int))]) (λ_=>[V]) ?_ ?_
 refine .block ?_
 refine .loop (X:=Nat) (λl=>PQ (λx=>aM c x p) A a l (b-1) b p) (λl=>[(0,v),(1,iN a),(10,.int .i64 (l:Nat)),(11,.int .i64 ((b-1:Nat):Int))]) (λ_=>[V]) (λl=>b-l) (a+1) d6 kE.c.c.c.c rH ?_
 rintro I a5
 refine .seq<|.seq ?_
 refine .cM 12 mixed (by kernel_rfl) ?_
 conv=>arg 6;dsimp only[List.take]
 refine .mo rfl<|.mo rfl<|.q .leq<|.mo rfl ?_
 refine .split (t:=33) rfl (λo=>?_) (λo=>?_)
 have e2:I<=b-1:=by have:=bp o;omega
 obtain⟨x2,b0⟩:∃x,A[I]? =some x:=⟨_,bd (by omega)⟩
 have g9:=a9 x2 (a0.perm.mem_iff.1 (bD b0))
 refine .gT o<|.mo rfl<|.gT o<|.mo rfl<|.gT o ?_
 refine .aU I C b0 (λk4=>?_)
 refine .gT o<|.lo rfl<|.gT o<|.mo rfl<|.gT o<|.mo rfl<|.gT o ?_
 refine .aU a C M (λk5=>?_)
 refine .gT o<|.lo rfl<|.nil<|.gT o ?_
 refine .aH (jo hf x2 p _) (λu S=>?_)
 subst S
 refine .q (.bA o) ?_
 refine .zn ?_
 refine .cond rfl (λh1=>?_) λh1=>?_
 refine .kn<|.block<|.region<|.mo rfl ?_
 refine .ia (I+1) .add ?_
 refine .ag rfl<|.nil<|bz ?_
 ·exact br (I+1) (a5.inc e2 b0 h1) (by omega) kE.c.c.c.c rH
 refine .exit<|bk<|bw<|bq ?_
 first
  |exact aN I ⟨a5,λx d e=>by rw[b0]at e;cases e;exact h1⟩ kE.c.c.c.c rH
  |exact aN I ⟨a5,λx d e=>by have:=ba o;omega⟩ kE.c.c.c.c rH
 refine .gF o<|.gF o<|.gF o<|.gF o<|.gF o<|.gF o<|.gF o<|.gF o<|.nil<|.gF o<|.q (.bg o) ?_
 refine .zn<|.bB<|.exit<|bk<|bw<|bq ?_
 first
  |exact aN I ⟨a5,λx d e=>by rw[b0]at e;cases e;exact h1⟩ kE.c.c.c.c rH
  |exact aN I ⟨a5,λx d e=>by have:=ba o;omega⟩ kE.c.c.c.c rH
 intro x d
 obtain⟨s,c5⟩:∃s,s=x:=⟨_,rfl⟩
 rw[<-c5]at d⊢
 clear c5 x
 obtain⟨c3,f0⟩:=d
 refine aG<|.seq ?_
 refine bF.cut (X:=Nat) (λf=>f<=b-1/\PQ (λx=>aM c x p) A a s f b p/\∀x,s<=f->A[f]? =some x->aM c x p=true) (λf=>[(0,v),(1,iN a),(10,iN s),(11,.int .i64 (f:Nat))]) (λ_=>[V]) ?_ ?_
 refine .block ?_
 refine .loop (X:=Nat) (λf=>f<=b-1/\PQ (λx=>aM c x p) A a s f b p) (λf=>[(0,v),(1,iN a),(10,iN s),(11,.int .i64 (f:Nat))]) (λ_=>[V]) (λf=>f) (b-1) ⟨adV _,c3⟩ kE.c.c.c.c rH ?_
 rintro J ⟨b7,a6⟩
 have e0:=c3.i0
 refine .seq<|.seq ?_
 refine .cM 12 mixed (by kernel_rfl) ?_
 conv=>arg 6;dsimp only[List.take]
 refine .mo rfl<|.mo rfl<|.q .leq<|.mo rfl ?_
 refine .split (t:=49) rfl (λk=>?_) (λk=>?_)
 have e3:s<=J:=by have:=bp k;omega
 obtain⟨x4,b1⟩:∃x,A[J]? =some x:=⟨_,bd (by omega)⟩
 have h0:=a9 x4 (a0.perm.mem_iff.1 (bD b1))
 refine .gT k<|.mo rfl<|.gT k<|.mo rfl<|.gT k ?_
 refine .aU J C b1 (λk6=>?_)
 refine .gT k<|.lo rfl<|.gT k<|.mo rfl<|.gT k<|.mo rfl<|.gT k ?_
 refine .aU a C M (λk7=>?_)
 refine .gT k<|.lo rfl<|.nil<|.gT k ?_
 refine .aH (jo hf x4 p _) (λu S=>?_)
 subst S
 refine .gT k<|.q .not<|.q (.bA k) ?_
 refine .zn ?_
 refine .cond rfl (λh2=>?_) λh2=>?_
 refine .kn<|.block<|.region<|.mo rfl ?_
 refine .ia (J-1) .sub ?_
 refine .ag rfl<|.nil<|bz ?_
 ·have e6:aM c x4 p=false:=by
   have d4:(!aM c x4 p)=true:=h2
   simpa using d4
  exact br (J-1) ⟨by omega,a6.dec e3 b1 e6⟩ (by omega) kE.c.c.c.c rH
 refine .exit<|bk<|bw<|bq ?_
 first
  |exact aN J ⟨b7,a6,λx d e=>by
    have O:(!aM c x4 p)=false:=h2
    rw[b1]at e;cases e
    simpa using O⟩ kE.c.c.c.c rH
  |exact aN J ⟨b7,a6,λx d e=>by have:=ba k;omega⟩ kE.c.c.c.c rH
 refine .gF k<|.gF k<|.gF k<|.gF k<|.gF k<|.gF k<|.gF k<|.gF k<|.nil<|.gF k<|.gF k<|.q (.bg k) ?_
 refine .zn<|.bB<|.exit<|bk<|bw<|bq ?_
 first
  |exact aN J ⟨b7,a6,λx d e=>by
    have O:(!aM c x4 p)=false:=h2
    rw[b1]at e;cases e
    simpa using O⟩ kE.c.c.c.c rH
  |exact aN J ⟨b7,a6,λx d e=>by have:=ba k;omega⟩ kE.c.c.c.c rH
 intro x d
 obtain⟨r,c6⟩:∃r,r=x:=⟨_,rfl⟩
 rw[<-c6]at d⊢
 clear c6 x
 obtain⟨g3,b5,f1⟩:=d
 have e0:=b5.i0
 have f7:=b5.ij
 refine aG<|.seq<|.sr<|.mo rfl<|.mo rfl<|.q .gtr<|.zn ?_
 refine .cond rfl (λh3=>?_) λh3=>?_
 have d9:r<s:=fg h3
 obtain⟨y,F⟩:∃x,A[r]? =some x:=⟨_,bd (by omega)⟩
 refine .seq<|.cq [13,15] mixed ?_
 refine .tO 0 rfl .move<|.tO 1 rfl .move<|.tK 2 rfl .move<|.tK 3 rfl .move<|.tO 4 rfl .move<|.tO 5 rfl .move ?_
 refine RA.aU 6 rfl (a) C M rfl rfl rfl (by kernel_rfl) (λk8=>?_)
 refine .tO 7 rfl (.bo rfl)<|.tO 8 rfl .move<|.tO 9 rfl .move ?_
 refine RA.aU 10 rfl (r) C F rfl rfl rfl (by kernel_rfl) (λk9=>?_)
 refine .tO 11 rfl (.bo rfl) ?_
 refine RA.aU 12 rfl (r) C F rfl rfl rfl (by kernel_rfl) (λl0=>?_)
 refine .sT 13 rfl ?_
 refine .dC (r) C F p (λb4 G=>?_)
 refine .nil (Next.mod rfl ?_)
 refine RA.aU 14 rfl (a) C M rfl rfl rfl (by kernel_rfl) (λl1=>?_)
 refine .sT 15 rfl ?_
 obtain⟨zz,H⟩:∃u,(A.set (r) p)[a]? =some u:=⟨_,bd (by rw[adX];exact(adW.1 M).1)⟩
 refine .dC (a) G H y (λN B=>?_)
 rw[<-dW F M]at B
 refine .nil (Next.mod rfl ?_)
 refine RA.nil (by kernel_rfl) ?_
 refine aG<|.sr<|.mo rfl<|.ag rfl<|.az rfl ?_
 refine .ret (aR (aO _ (.two (.tmp rfl) (.tmp rfl)) rH ?_))
 ·exact⟨_,rfl,bY A r a,r,true,rfl,B,a0.step (by omega) (by omega) (by omega) (by omega) (by omega),b5.fin d9 (by omega)⟩
 have c9:s<=r:=by have:=ba h3;omega
 obtain⟨x,d⟩:∃x,A[s]? =some x:=⟨_,bd (by omega)⟩
 obtain⟨y,F⟩:∃x,A[r]? =some x:=⟨_,bd (by omega)⟩
 have e8:=b5.sw c9 (by omega) d F (f0 x (by omega) d) (f1 y c9 F)
 refine .kn<|.seq<|.cq [13,15] mixed ?_
 refine .tO 0 rfl .move<|.tO 1 rfl .move<|.tK 2 rfl .move<|.tK 3 rfl .move<|.tO 4 rfl .move<|.tO 5 rfl .move ?_
 refine RA.aU 6 rfl (r) C F rfl rfl rfl (by kernel_rfl) (λl2=>?_)
 refine .tO 7 rfl (.bo rfl)<|.tO 8 rfl .move<|.tO 9 rfl .move ?_
 refine RA.aU 10 rfl (s) C d rfl rfl rfl (by kernel_rfl) (λl3=>?_)
 refine .tO 11 rfl (.bo rfl) ?_
 refine RA.aU 12 rfl (s) C d rfl rfl rfl (by kernel_rfl) (λl4=>?_)
 refine .sT 13 rfl ?_
 refine .dC (s) C d y (λb4 G=>?_)
 refine .nil (Next.mod rfl ?_)
 refine RA.aU 14 rfl (r) C F rfl rfl rfl (by kernel_rfl) (λl5=>?_)
 refine .sT 15 rfl ?_
 obtain⟨zz,H⟩:∃u,(A.set (s) y)[r]? =some u:=⟨_,bd (by rw[adX];exact(adW.1 F).1)⟩
 refine .dC (r) G H x (λN B=>?_)
 rw[<-dW d F]at B
 refine .nil (Next.mod rfl ?_)
 refine RA.nil (by kernel_rfl) ?_
 refine aG<|.sr<|.mo rfl ?_
 refine .ia (s+1) .add ?_
 refine .ag rfl<|.z<|.mo rfl ?_
 refine .ia (r-1) .sub ?_
 refine .ag rfl<|.zs ?_
 refine bF.cut (X:=Nat×Nat×List ByteArray×au) (λy=>OS 9 1 bL v y.2.2.1 y.2.2.2/\RP a b xs y.2.2.1/\PQ (λx=>aM c x p) y.2.2.1 a y.1 y.2.1 b p/\y.2.1<y.1) (λy=>[(0,v),(1,iN a),(10,iN y.1),(11,iN y.2.1)]) (λy=>[y.2.2.2]) ?_ ?_
 refine .block ?_
 refine .loop (X:=Nat×Nat×List ByteArray×au) (λy=>OS 9 1 bL v y.2.2.1 y.2.2.2/\RP a b xs y.2.2.1/\PQ (λx=>aM c x p) y.2.2.1 a y.1 y.2.1 b p) (λy=>[(0,v),(1,iN a),(10,iN y.1),(11,iN y.2.1)]) (λy=>[y.2.2.2]) (λy=>y.2.1+1-y.1) (s+1,r-1,bY A s r,N) ⟨B,a0.step (by omega) (by omega) (by omega) (by omega) (by omega),e8.2⟩ kE.c.c.c.c rH ?_
 rintro⟨i,j,ys,T1⟩ ⟨E,a1,Y⟩
 simp only at E a1 Y⊢
 have g5:=a1.length
 have f4:=Y.i0
 have f6:=Y.ij
 have g1:=Y.jb
 have d2:=Y.at_
 refine .block<|.seq ?_
 refine bF.cut (X:=Nat) (λl=>i<=l/\PQ (λx=>aM c x p) ys a l j b p/\∀x,l<=j->ys[l]? =some x->aM c x p=false) (λl=>[(0,v),(1,iN a),(10,.int .i64 (l:Nat)),(11,iN j)]) (λ_=>[T1]) ?_ ?_
 refine .block ?_
 refine .loop (X:=Nat) (λl=>i<=l/\PQ (λx=>aM c x p) ys a l j b p) (λl=>[(0,v),(1,iN a),(10,.int .i64 (l:Nat)),(11,iN j)]) (λ_=>[T1]) (λl=>j+1-l) i ⟨adV _,Y⟩ kE.c.c.c.c rH ?_
 rintro K ⟨b8,a7⟩
 refine .seq<|.seq ?_
 refine .cM 12 mixed (by kernel_rfl) ?_
 conv=>arg 6;dsimp only[List.take]
 refine .mo rfl<|.mo rfl<|.q .leq<|.mo rfl ?_
 refine .split (t:=102) rfl (λn=>?_) (λn=>?_)
 have e4:K<=j:=by have:=bp n;omega
 obtain⟨x6,b2⟩:∃x,ys[K]? =some x:=⟨_,bd (by omega)⟩
 have h7:=a9 x6 (a1.perm.mem_iff.1 (bD b2))
 refine .gT n<|.mo rfl<|.gT n<|.mo rfl<|.gT n ?_
 refine .aU K E b2 (λh9=>?_)
 refine .gT n<|.lo rfl<|.gT n<|.mo rfl<|.gT n<|.mo rfl<|.gT n ?_
 refine .aU a E d2 (λi1=>?_)
 refine .gT n<|.lo rfl<|.nil<|.gT n ?_
 refine .aH (jo hf x6 p _) (λu S=>?_)
 subst S
 refine .q (.bA n) ?_
 refine .zn ?_
 refine .cond rfl (λh4=>?_) λh4=>?_
 refine .kn<|.block<|.region<|.mo rfl ?_
 refine .ia (K+1) .add ?_
 refine .ag rfl<|.nil<|bz ?_
 ·exact br (K+1) ⟨by omega,a7.inc e4 b2 h4⟩ (by omega) kE.c.c.c.c rH
 refine .exit<|bk<|bw<|bq ?_
 first
  |exact aN K ⟨b8,a7,λx d e=>by rw[b2]at e;cases e;exact h4⟩ kE.c.c.c.c rH
  |exact aN K ⟨b8,a7,λx d e=>by have:=ba n;omega⟩ kE.c.c.c.c rH
 refine .gF n<|.gF n<|.gF n<|.gF n<|.gF n<|.gF n<|.gF n<|.gF n<|.nil<|.gF n<|.q (.bg n) ?_
 refine .zn<|.bB<|.exit<|bk<|bw<|bq ?_
 first
  |exact aN K ⟨b8,a7,λx d e=>by rw[b2]at e;cases e;exact h4⟩ kE.c.c.c.c rH
  |exact aN K ⟨b8,a7,λx d e=>by have:=ba n;omega⟩ kE.c.c.c.c rH
 intro x d
 obtain⟨w,c8⟩:∃w,w=x:=⟨_,rfl⟩
 rw[<-c8]at d⊢
 clear c8 x
 obtain⟨g0,c4,f2⟩:=d
 refine aG<|.seq ?_
 refine bF.cut (X:=Nat) (λf=>f<=j/\PQ (λx=>aM c x p) ys a w f b p/\∀x,w<=f->ys[f]? =some x->aM c x p=true) (λf=>[(0,v),(1,iN a),(10,iN w),(11,.int .i64 (f:Nat))]) (λ_=>[T1]) ?_ ?_
 refine .block ?_
 refine .loop (X:=Nat) (λf=>f<=j/\PQ (λx=>aM c x p) ys a w f b p) (λf=>[(0,v),(1,iN a),(10,iN w),(11,.int .i64 (f:Nat))]) (λ_=>[T1]) (λf=>f) j ⟨adV _,c4⟩ kE.c.c.c.c rH ?_
 rintro L ⟨b9,a8⟩
 have e1:=c4.i0
 refine .seq<|.seq ?_
 refine .cM 12 mixed (by kernel_rfl) ?_
 conv=>arg 6;dsimp only[List.take]
 refine .mo rfl<|.mo rfl<|.q .leq<|.mo rfl ?_
 refine .split (t:=118) rfl (λg=>?_) (λg=>?_)
 have e5:w<=L:=by have:=bp g;omega
 obtain⟨x7,b3⟩:∃x,ys[L]? =some x:=⟨_,bd (by omega)⟩
 have h8:=a9 x7 (a1.perm.mem_iff.1 (bD b3))
 refine .gT g<|.mo rfl<|.gT g<|.mo rfl<|.gT g ?_
 refine .aU L E b3 (λi4=>?_)
 refine .gT g<|.lo rfl<|.gT g<|.mo rfl<|.gT g<|.mo rfl<|.gT g ?_
 refine .aU a E d2 (λi5=>?_)
 refine .gT g<|.lo rfl<|.nil<|.gT g ?_
 refine .aH (jo hf x7 p _) (λu S=>?_)
 subst S
 refine .gT g<|.q .not<|.q (.bA g) ?_
 refine .zn ?_
 refine .cond rfl (λh5=>?_) λh5=>?_
 refine .kn<|.block<|.region<|.mo rfl ?_
 refine .ia (L-1) .sub ?_
 refine .ag rfl<|.nil<|bz ?_
 ·have e7:aM c x7 p=false:=by
   have d5:(!aM c x7 p)=true:=h5
   simpa using d5
  exact br (L-1) ⟨by omega,a8.dec e5 b3 e7⟩ (by omega) kE.c.c.c.c rH
 refine .exit<|bk<|bw<|bq ?_
 first
  |exact aN L ⟨b9,a8,λx d e=>by
    have O:(!aM c x7 p)=false:=h5
    rw[b3]at e;cases e
    simpa using O⟩ kE.c.c.c.c rH
  |exact aN L ⟨b9,a8,λx d e=>by have:=ba g;omega⟩ kE.c.c.c.c rH
 refine .gF g<|.gF g<|.gF g<|.gF g<|.gF g<|.gF g<|.gF g<|.gF g<|.nil<|.gF g<|.gF g<|.q (.bg g) ?_
 refine .zn<|.bB<|.exit<|bk<|bw<|bq ?_
 first
  |exact aN L ⟨b9,a8,λx d e=>by
    have O:(!aM c x7 p)=false:=h5
    rw[b3]at e;cases e
    simpa using O⟩ kE.c.c.c.c rH
  |exact aN L ⟨b9,a8,λx d e=>by have:=ba g;omega⟩ kE.c.c.c.c rH
 intro x d
 obtain⟨D,d1⟩:∃D,D=x:=⟨_,rfl⟩
 rw[<-d1]at d⊢
 clear d1 x
 obtain⟨g4,b6,f3⟩:=d
 have e1:=b6.i0
 have f8:=b6.ij
 refine aG<|.seq<|.sr<|.mo rfl<|.mo rfl<|.q .gtr<|.zn ?_
 refine .cond rfl (λh6=>?_) λh6=>?_
 refine .exit (bk (iP (bw (bq ?_))))
 exact aN (w,D,ys,T1) ⟨E,a1,b6,by have:=bp h6;simp only;omega⟩ kE.c.c.c.c rH
 have d0:w<=D:=by have:=ba h6;omega
 obtain⟨x8,a3⟩:∃x,ys[w]? =some x:=⟨_,bd (by omega)⟩
 obtain⟨y8,a4⟩:∃x,ys[D]? =some x:=⟨_,bd (by omega)⟩
 have e9:=b6.sw d0 (by omega) a3 a4 (f2 x8 (by omega) a3) (f3 y8 d0 a4)
 refine .kn<|.seq<|.cq [13,15] mixed ?_
 refine .tO 0 rfl .move<|.tO 1 rfl .move<|.tK 2 rfl .move<|.tK 3 rfl .move<|.tO 4 rfl .move<|.tO 5 rfl .move ?_
 refine RA.aU 6 rfl (D) E a4 rfl rfl rfl (by kernel_rfl) (λi6=>?_)
 refine .tO 7 rfl (.bo rfl)<|.tO 8 rfl .move<|.tO 9 rfl .move ?_
 refine RA.aU 10 rfl (w) E a3 rfl rfl rfl (by kernel_rfl) (λi7=>?_)
 refine .tO 11 rfl (.bo rfl) ?_
 refine RA.aU 12 rfl (w) E a3 rfl rfl rfl (by kernel_rfl) (λi8=>?_)
 refine .sT 13 rfl ?_
 refine .dC (w) E a3 y8 (λb4 G=>?_)
 refine .nil (Next.mod rfl ?_)
 refine RA.aU 14 rfl (D) E a4 rfl rfl rfl (by kernel_rfl) (λj0=>?_)
 refine .sT 15 rfl ?_
 obtain⟨zz,H⟩:∃u,(ys.set (w) y8)[D]? =some u:=⟨_,bd (by rw[adX];exact(adW.1 a4).1)⟩
 refine .dC (D) G H x8 (λN B=>?_)
 rw[<-dW a3 a4]at B
 refine .nil (Next.mod rfl ?_)
 refine RA.nil (by kernel_rfl) ?_
 refine aG<|.sr<|.mo rfl ?_
 refine .ia (w+1) .add ?_
 refine .az rfl<|.region<|.mo rfl ?_
 refine .ia (D-1) .sub ?_
 refine .ag rfl<|.nil<|bz ?_
 ·exact br (w+1,D-1,bY ys w D,N) ⟨B,a1.step (by omega) (by omega) (by omega) (by omega) (by omega),e9.2⟩ (by simp only;omega) kE.c.c.c.c rH
 intro x d
 obtain⟨i9,U,zs,T9⟩:=x
 obtain⟨W,c2,Z,c7⟩:=d
 simp only at W c2 Z c7⊢
 have g7:=c2.length
 have f9:=Z.ij
 have f5:=Z.i0
 have g2:=Z.jb
 have c0:=Z.at_
 obtain⟨y9,c1⟩:∃x,zs[U]? =some x:=⟨_,bd (by omega)⟩
 refine aG<|.seq<|.cq [13,15] mixed ?_
 refine .tO 0 rfl .move<|.tO 1 rfl .move<|.tK 2 rfl .move<|.tK 3 rfl .move<|.tO 4 rfl .move<|.tO 5 rfl .move ?_
 refine RA.aU 6 rfl (a) W c0 rfl rfl rfl (by kernel_rfl) (λj1=>?_)
 refine .tO 7 rfl (.bo rfl)<|.tO 8 rfl .move<|.tO 9 rfl .move ?_
 refine RA.aU 10 rfl (U) W c1 rfl rfl rfl (by kernel_rfl) (λj4=>?_)
 refine .tO 11 rfl (.bo rfl) ?_
 refine RA.aU 12 rfl (U) W c1 rfl rfl rfl (by kernel_rfl) (λj5=>?_)
 refine .sT 13 rfl ?_
 refine .dC (U) W c1 p (λb4 G=>?_)
 refine .nil (Next.mod rfl ?_)
 refine RA.aU 14 rfl (a) W c0 rfl rfl rfl (by kernel_rfl) (λj6=>?_)
 refine .sT 15 rfl ?_
 obtain⟨zz,H⟩:∃u,(zs.set (U) p)[a]? =some u:=⟨_,bd (by rw[adX];exact(adW.1 c0).1)⟩
 refine .dC (a) G H y9 (λN B=>?_)
 rw[<-dW c1 c0]at B
 refine .nil (Next.mod rfl ?_)
 refine RA.nil (by kernel_rfl) ?_
 refine aG<|.sr<|.mo rfl<|.ag rfl<|.az rfl ?_
 refine .ret (aO _ (.two (.tmp rfl) (.tmp rfl)) rH ?_)
 ·exact⟨_,rfl,bY zs U a,U,false,rfl,B,c2.step (by omega) (by omega) (by omega) (by omega) (by omega),Z.fin c7 (by omega)⟩
end
end SST
namespace SST
section
variable{c:ByteArray->ByteArray->Int}{ok:ByteArray->Prop}
def oN(c:ByteArray->ByteArray->Int)(ok:ByteArray->Prop)(n:Nat):Prop:=∀(v:Value) (xs:List ByteArray) (T:au) (a b lim:Nat) (R:ao),OS 9 1 bL v xs T->a<=b->b<=xs.length->xs.length<=1000000000->lim<=1000000000->gJ c ok R->(∀x∈xs,ok x)->LB (aM c) xs a b->b-a<n->
  Spec prog 314 [v,.int .i64 a,.int .i64 b,.int .i64 lim] R [T] λu H'=>∃T',H'=[T']/\u=.tuple #[]/\∃ys,OS 9 1 bL v ys T'/\RP a b xs ys/\SR (aM c) ys a b
theorem tg(n:Nat)(ih:oN c ok n)(C:SO (aM c))(v:Value)(xs:List ByteArray)(T:au)(G E c7:Nat)(R:ao)(h:OS 9 1 bL v xs T)(d6:G<=E)(hb:E<=xs.length)(hl:xs.length<=1000000000)(e0:c7<=1000000000)(N:gJ c ok R)(e2:∀x∈xs,ok x)(d8:LB (aM c) xs G E)(hn:E-G<n+1):
  Spec prog 314 [v,.int .i64 G,.int .i64 E,.int .i64 c7] R [T] λu H'=>∃T',H'=[T']/\u=.tuple #[]/\∃ys,OS 9 1 bL v ys T'/\RP G E xs ys/\SR (aM c) ys G E:=by
 have iv:=h.ay
 refine Spec.body func314 rfl results314 ntmps314 rfl ?_
 refine .sr<|.ag rfl<|.z<|.az rfl<|.block ?_
 refine .loop (X:=Nat×Nat×Nat×Bool×Bool×List ByteArray×au) (λy=>(G<=y.1/\y.1<=y.2.1/\y.2.1<=E/\y.2.2.1<=1000000000)/\OS 9 1 bL v y.2.2.2.2.2.1 y.2.2.2.2.2.2/\RP G E xs y.2.2.2.2.2.1/\OX (aM c) y.2.2.2.2.2.1 G E y.1 y.2.1) (λy=>[(0,v),(1,iN y.1),(2,iN y.2.1),(3,iN y.2.2.1),(8,.bool y.2.2.2.1),(9,.bool y.2.2.2.2.1)]) (λy=>[y.2.2.2.2.2.2]) (λy=>y.2.1-y.1) (G,E,c7,true,true,xs,T) ⟨⟨adV _,d6,adV _,e0⟩,h,.refl _,.start⟩ kE.c.c.c.c.c.c rH ?_
 rintro⟨a,b,l,wb,wp,ys,T1⟩ ⟨⟨e,c1,f,d7⟩,b1,S,Y⟩
 simp only at e c1 f d7 b1 S Y⊢
 have e8:=S.length
 have b8:∀x∈ys,ok x:=λx V=>e2 x (S.perm.mem_iff.1 V)
 have d1:=Y.lb (d8.rp S) e f
 refine .block<|.sr<|.mo rfl<|.mo rfl ?_
 refine .ia (b-a) .sub ?_
 refine .ag rfl<|.zs<|.sr<|.mo rfl<|.q .leq<|.zn ?_
 refine .cond rfl (λh1=>?_) λh1=>?_
 refine .sr<|.mo rfl<|.mo rfl<|.mo rfl ?_
 refine .aT (sB v ys T1 a b _ b1 c1 (by omega) (by omega) N b8 C) (λu Z i=>?_)
 obtain⟨rfl,M,H,A,c0⟩:=i
 refine .zn ?_
 refine .ret (aR (bi (cK (bi (aO _ .none rH ?_)))))
 ·first
   |exact⟨_,rfl,rfl,M,H,S.trans (A.mono e f (by omega)),(Y.rp A e f).jq c0⟩
   |exact⟨_,rfl,rfl,ms,a2,S.trans ((B.trans W).mono e f (by omega)),(Y.rp (B.trans W) e f).jq (c4 (by assumption))⟩
 have f2:12<b-a:=by have:=ba h1;omega
 refine .kn<|.seq<|.sr<|.mo rfl<|.q .cG<|.zn ?_
 refine .cond rfl (λh2=>?_) λh2=>?_
 refine .sr<|.mo rfl<|.mo rfl<|.mo rfl ?_
 refine .aT (sy v ys T1 a b _ b1 c1 (by omega) (by omega) N b8 C) (λu Z i=>?_)
 obtain⟨rfl,M,H,A,c0⟩:=i
 refine .zn ?_
 refine .ret (aR (bi (cK (bi (aO _ .none rH ?_)))))
 ·first
   |exact⟨_,rfl,rfl,M,H,S.trans (A.mono e f (by omega)),(Y.rp A e f).jq c0⟩
   |exact⟨_,rfl,rfl,ms,a2,S.trans ((B.trans W).mono e f (by omega)),(Y.rp (B.trans W) e f).jq (c4 (by assumption))⟩
 have e7:0<l:=by
  have e6:¬((l:Int)=0):=by simpa using h2
  omega
 refine .kn<|.seq ?_
 refine bF.cut (X:=Nat×List ByteArray×au) (λz=>z.1<=1000000000/\OS 9 1 bL v z.2.1 z.2.2/\RP a b ys z.2.1) (λz=>[(0,v),(1,iN a),(2,iN b),(3,iN z.1),(8,.bool wb),(9,.bool wp),(10,.int .i64 ((b-a:Nat):Int))]) (λz=>[z.2.2]) ?_ ?_
 refine .sr<|.mo rfl<|.q .not<|.zn ?_
 refine .cond rfl (λh3=>?_) λh3=>?_
 refine .sr<|.mo rfl<|.mo rfl<|.mo rfl ?_
 refine .aT (rM v ys T1 a b _ b1 c1 (by omega) (by omega)) (λu Z i=>?_)
 obtain⟨rfl,M,H,A⟩:=i
 refine .zn<|.region<|.mo rfl ?_
 refine .ia (l-1) .sub ?_
 refine .ag rfl<|.nil ?_
 ·first
   |exact aN (l-1,M,Z) ⟨by simp only;omega,H,A⟩ kE.c.c.c.c.c.c.c rH
   |exact aN (l,ys,T1) ⟨by simp only;omega,b1,.refl _⟩ kE.c.c.c.c.c.c.c rH
 refine .skip ?_
 ·first
   |exact aN (l-1,M,Z) ⟨by simp only;omega,H,A⟩ kE.c.c.c.c.c.c.c rH
   |exact aN (l,ys,T1) ⟨by simp only;omega,b1,.refl _⟩ kE.c.c.c.c.c.c.c rH
 intro y hy
 obtain⟨m,M,Z⟩:=y
 obtain⟨r,H,A⟩:=hy
 simp only at r H A⊢
 have e9:=A.length
 have e3:∀x∈M,ok x:=λx V=>b8 x (A.perm.mem_iff.1 V)
 refine aG<|.sr<|.mo rfl<|.mo rfl<|.mo rfl ?_
 refine .aH (choose_spec v M a b _ (H.rs λp hp=>.inr (by simpa using hp)) (by omega) (by omega) (by omega) (N.mono λb o hb=>.inl hb) e3) (λu i=>?_)
 obtain⟨pv,d0,rfl,d2,d3⟩:=i
 refine .mo rfl<|.q .extract<|.q .extract<|.ag rfl<|.ag rfl<|.zs ?_
 refine bF.cut (X:=Nat×Int×List ByteArray×au) (λz=>(a<=z.1/\z.1<b)/\OS 9 1 bL v z.2.2.1 z.2.2.2/\RP a b ys z.2.2.1) (λz=>[(0,v),(1,iN a),(2,iN b),(3,iN m),(8,.bool wb),(9,.bool wp),(10,.int .i64 ((b-a:Nat):Int)),(11,iN z.1),(12,.int .i64 z.2.1)]) (λz=>[z.2.2.2]) ?_ ?_
 refine .sr<|.mo rfl<|.q .cG<|.zn ?_
 refine .cond rfl (λh4=>?_) λh4=>?_
 refine .sr<|.mo rfl<|.mo rfl<|.mo rfl ?_
 refine .aT (tB v M Z a b _ H (by omega) (by omega) (by omega)) (λu T3 i=>?_)
 obtain⟨rfl,ws,c8,c9⟩:=i
 refine .z<|.mo rfl ?_
 refine .ia (b-1) .sub ?_
 refine .mo rfl<|.mo rfl ?_
 refine .ia (pv-a) .sub ?_
 refine .ia ((b-1)-(pv-a)) .sub ?_
 refine .az rfl<|.region<|.ag rfl<|.nil ?_
 ·first
   |exact aN ((b-1)-(pv-a),1,ws,T3) ⟨by simp only;omega,c8,A.trans c9⟩ kE.c.c.c.c.c.c.c.c.c rH
   |exact aN (pv,d0,M,Z) ⟨⟨d2,d3⟩,H,A⟩ kE.c.c.c.c.c.c.c.c.c rH
 refine .skip ?_
 ·first
   |exact aN ((b-1)-(pv-a),1,ws,T3) ⟨by simp only;omega,c8,A.trans c9⟩ kE.c.c.c.c.c.c.c.c.c rH
   |exact aN (pv,d0,M,Z) ⟨⟨d2,d3⟩,H,A⟩ kE.c.c.c.c.c.c.c.c.c rH
 intro y hy
 obtain⟨q,f3,us,T4⟩:=y
 obtain⟨⟨c2,c3⟩,b2,B⟩:=hy
 simp only at c2 c3 b2 B⊢
 have f0:=B.length
 have e4:∀x∈us,ok x:=λx V=>b8 x (B.perm.mem_iff.1 V)
 refine aG<|.seq ?_
 refine bF.cut (X:=List ByteArray×au) (λz=>OS 9 1 bL v z.1 z.2/\RP a b ys z.1) (λz=>[(0,v),(1,iN a),(2,iN b),(3,iN m),(8,.bool wb),(9,.bool wp),(10,.int .i64 ((b-a:Nat):Int)),(11,iN q)]) (λz=>[z.2]) ?_ ?_
 refine .sr<|.mo rfl<|.mo rfl ?_
 refine .split (t:=62) rfl (λb5=>?_) (λb5=>?_)
 refine .gT b5<|.mo rfl<|.q (.bA b5) ?_
 refine .mo rfl ?_
 refine .split (t:=65) rfl (λa1=>?_) (λa1=>?_)
 refine .gT a1<|.mo rfl<|.gT a1<|.q .cG<|.q (.bA a1) ?_
 refine .zn ?_
 refine .cond rfl (λh5=>?_) λh5=>?_
 refine .sr<|.mo rfl<|.mo rfl<|.mo rfl ?_
 refine .aT (td v us T4 a b _ b2 (by omega) (by omega) (by omega) N e4 C (d1.rp B)) (λu T5 i=>?_)
 obtain⟨ms,mb,rfl,a2,W,c4⟩:=i
 refine .zn ?_
 refine .cond rfl (λh6=>?_) λh6=>?_
 refine .ret (wR (aR (bi (cK (bi (aO _ .none rH ?_))))))
 ·first
   |exact⟨_,rfl,rfl,M,H,S.trans (A.mono e f (by omega)),(Y.rp A e f).jq c0⟩
   |exact⟨_,rfl,rfl,ms,a2,S.trans ((B.trans W).mono e f (by omega)),(Y.rp (B.trans W) e f).jq (c4 (by assumption))⟩
 refine .skip ?_
 ·first
   |exact aN (ms,T5) ⟨a2,B.trans W⟩ kE.c.c.c.c.c.c.c.c rH
   |exact aN (us,T4) ⟨b2,B⟩ kE.c.c.c.c.c.c.c.c rH
 refine .skip ?_
 ·first
   |exact aN (ms,T5) ⟨a2,B.trans W⟩ kE.c.c.c.c.c.c.c.c rH
   |exact aN (us,T4) ⟨b2,B⟩ kE.c.c.c.c.c.c.c.c rH
 refine .gF a1<|.gF a1<|.q (.bg a1) ?_
 refine .zn<|.bB<|.skip ?_
 ·first
   |exact aN (ms,T5) ⟨a2,B.trans W⟩ kE.c.c.c.c.c.c.c.c rH
   |exact aN (us,T4) ⟨b2,B⟩ kE.c.c.c.c.c.c.c.c rH
 refine .gF b5<|.q (.bg b5) ?_
 refine .mo rfl<|.gX<|.gX<|.q .cd<|.zn<|.bB<|.skip ?_
 ·first
   |exact aN (ms,T5) ⟨a2,B.trans W⟩ kE.c.c.c.c.c.c.c.c rH
   |exact aN (us,T4) ⟨b2,B⟩ kE.c.c.c.c.c.c.c.c rH
 intro y hy
 obtain⟨a9,T6⟩:=y
 obtain⟨b3,b4⟩:=hy
 simp only at b3 b4⊢
 have f1:=b4.length
 have a8:∀x∈a9,ok x:=λx V=>b8 x (b4.perm.mem_iff.1 V)
 have a3:RP G E xs a9:=S.trans (b4.mono e f (by omega))
 have a5:=Y.rp b4 e f
 have c5:=d1.rp b4
 obtain⟨p,hp⟩:∃x,a9[q]? =some x:=⟨_,bd (by omega)⟩
 have f4:=a8 p (bD hp)
 refine aG<|.seq<|.seq ?_
 refine .cM 12 mixed (by kernel_rfl) ?_
 conv=>arg 6;dsimp only[List.take]
 refine .mo rfl<|.q .gtr<|.mo rfl ?_
 refine .split (t:=75) rfl (λj=>?_) (λj=>?_)
 have d5:0<a:=by have:=bp j;omega
 obtain⟨w,hw⟩:∃x,a9[a-1]? =some x:=⟨_,bd (by omega)⟩
 have f5:=a8 w (bD hw)
 refine .gT j<|.mo rfl<|.gT j<|.mo rfl<|.gT j ?_
 refine .ia (a-1) .sub ?_
 refine .gT j ?_
 refine .aU (a-1) b3 hw (λf6=>?_)
 refine .gT j<|.lo rfl<|.gT j<|.mo rfl<|.gT j<|.mo rfl<|.gT j ?_
 refine .aU q b3 hp (λf7=>?_)
 refine .gT j<|.lo rfl<|.nil<|.gT j ?_
 refine .aH (jo N w p _) (λu i=>?_)
 subst i
 refine .gT j<|.q .not<|.q (.bA j) ?_
 refine .zn ?_
 refine .cond rfl (λh7=>?_) λh7=>?_
 have e1:aM c w p=false:=by
  have d4:(!aM c w p)=true:=h7
  simpa using d4
 refine .sr<|.mo rfl<|.mo rfl<|.mo rfl<|.mo rfl ?_
 refine .aT (sY v a9 T6 a b q p _ b3 (by omega) ⟨c2,c3⟩ hp (by omega) (by omega) N a8 C (c5.xu C d5 hw e1)) (λu O i=>?_)
 obtain⟨D,g,rfl,Q,k,s⟩:=i
 have a7:=s.lo
 have a6:=s.hi
 refine .ag rfl<|.z<|.mo rfl<|.az rfl<|.exit<|bk<|bq ?_
 ·first
   |exact br (g+1,b,m,_,_,L,F) ⟨⟨by simp only;omega,by simp only;omega,by simp only;omega,r⟩,I,J,K⟩ (by simp only;omega) ((((((kE.d rfl).d rfl).d rfl).d rfl).d rfl).d rfl) rH
   |exact br (a,g,m,_,_,L,F) ⟨⟨e,a7,by simp only;omega,r⟩,I,J,K⟩ (by simp only;omega) ((((((kE.d rfl).d rfl).d rfl).d rfl).d rfl).d rfl) rH
   |exact br (g,b,m,_,_,D,O) ⟨⟨by simp only;omega,a6,f,r⟩,Q,a3.trans (k.mono e f (by omega)),(a5.rp k e f).eqs C s⟩ (by simp only;omega) ((((((kE.d rfl).d rfl).d rfl).d rfl).d rfl).d rfl) rH
 refine .kn<|.sr<|.mo rfl<|.mo rfl<|.mo rfl<|.mo rfl ?_
 refine .aT (pA v a9 T6 a b q p _ b3 (by omega) ⟨c2,c3⟩ hp (by omega) (by omega) N a8 C) (λu O i=>?_)
 obtain⟨D,g,e5,rfl,Q,k,s⟩:=i
 have a7:=s.lo
 have a6:=s.hi
 have d9:=k.length
 have b9:∀x∈D,ok x:=λx V=>a8 x (k.perm.mem_iff.1 V)
 have b7:=a5.rp k e f
 have b6:RP G E xs D:=a3.trans (k.mono e f (by omega))
 have c6:=c5.rp k
 refine .mo rfl<|.q .extract<|.q .extract<|.ag rfl<|.ag rfl<|.z<|.mo rfl<|.ag rfl<|.z<|.mo rfl<|.mo rfl ?_
 refine .ia (g-a) .sub ?_
 refine .mo rfl<|.mo rfl ?_
 refine .ia (b-g) .sub ?_
 refine .ag rfl<|.ag rfl<|.z<|.mo rfl ?_
 refine .q (.i64 (((b-a)/8:Nat):Int) .quo ⟨by rw[ad5 (by omega)];omega,by omega,by omega⟩) ?_
 refine .ag rfl<|.z<|.mo rfl<|.mo rfl<|.q .lss<|.zn ?_
 refine .cond rfl (λh8=>?_) λh8=>?_
 refine .sr<|.mo rfl<|.mo rfl<|.q .geq<|.ag rfl<|.z<|.mo rfl<|.mo rfl<|.mo rfl<|.mo rfl ?_
 refine .aT (ih v D O a g m _ Q (by omega) (by omega) (by omega) r N b9 (c6.less (by omega)) (by omega)) (λu F i=>?_)
 obtain⟨rfl,L,I,U,a4⟩:=i
 have K:=b7.left C s U a4 e f (by omega)
 have J:=b6.trans (U.mono e (by omega) (by omega))
 refine .zn<|.region<|.mo rfl ?_
 refine .ia (g+1) .add ?_
 refine .ag rfl<|.nil<|bz ?_
 ·first
   |exact br (g+1,b,m,_,_,L,F) ⟨⟨by simp only;omega,by simp only;omega,by simp only;omega,r⟩,I,J,K⟩ (by simp only;omega) ((((((kE.d rfl).d rfl).d rfl).d rfl).d rfl).d rfl) rH
   |exact br (a,g,m,_,_,L,F) ⟨⟨e,a7,by simp only;omega,r⟩,I,J,K⟩ (by simp only;omega) ((((((kE.d rfl).d rfl).d rfl).d rfl).d rfl).d rfl) rH
   |exact br (g,b,m,_,_,D,O) ⟨⟨by simp only;omega,a6,f,r⟩,Q,a3.trans (k.mono e f (by omega)),(a5.rp k e f).eqs C s⟩ (by simp only;omega) ((((((kE.d rfl).d rfl).d rfl).d rfl).d rfl).d rfl) rH
 refine .sr<|.mo rfl<|.mo rfl<|.q .geq<|.ag rfl<|.z<|.mo rfl<|.mo rfl ?_
 refine .ia (g+1) .add ?_
 refine .mo rfl<|.mo rfl ?_
 refine .aT (ih v D O (g+1) b m _ Q (by omega) (by omega) (by omega) r N b9 s.lb (by omega)) (λu F i=>?_)
 obtain⟨rfl,L,I,U,a4⟩:=i
 have K:=b7.right C s U a4 e f (by omega)
 have J:=b6.trans (U.mono (by omega) f (by omega))
 refine .zn<|.region<|.mo rfl<|.ag rfl<|.nil<|bz ?_
 ·first
   |exact br (g+1,b,m,_,_,L,F) ⟨⟨by simp only;omega,by simp only;omega,by simp only;omega,r⟩,I,J,K⟩ (by simp only;omega) ((((((kE.d rfl).d rfl).d rfl).d rfl).d rfl).d rfl) rH
   |exact br (a,g,m,_,_,L,F) ⟨⟨e,a7,by simp only;omega,r⟩,I,J,K⟩ (by simp only;omega) ((((((kE.d rfl).d rfl).d rfl).d rfl).d rfl).d rfl) rH
   |exact br (g,b,m,_,_,D,O) ⟨⟨by simp only;omega,a6,f,r⟩,Q,a3.trans (k.mono e f (by omega)),(a5.rp k e f).eqs C s⟩ (by simp only;omega) ((((((kE.d rfl).d rfl).d rfl).d rfl).d rfl).d rfl) rH
 refine .gF j<|.gF j<|.gF j<|.gF j<|.gF j<|.gF j<|.gF j<|.gF j<|.gF j<|.nil<|.gF j<|.gF j<|.q (.bg j) ?_
 refine .zn<|.bB<|.kn<|.sr<|.mo rfl<|.mo rfl<|.mo rfl<|.mo rfl ?_
 refine .aT (pA v a9 T6 a b q p _ b3 (by omega) ⟨c2,c3⟩ hp (by omega) (by omega) N a8 C) (λu O i=>?_)
 obtain⟨D,g,e5,rfl,Q,k,s⟩:=i
 have a7:=s.lo
 have a6:=s.hi
 have d9:=k.length
 have b9:∀x∈D,ok x:=λx V=>a8 x (k.perm.mem_iff.1 V)
 have b7:=a5.rp k e f
 have b6:RP G E xs D:=a3.trans (k.mono e f (by omega))
 have c6:=c5.rp k
 refine .mo rfl<|.q .extract<|.q .extract<|.ag rfl<|.ag rfl<|.z<|.mo rfl<|.ag rfl<|.z<|.mo rfl<|.mo rfl ?_
 refine .ia (g-a) .sub ?_
 refine .mo rfl<|.mo rfl ?_
 refine .ia (b-g) .sub ?_
 refine .ag rfl<|.ag rfl<|.z<|.mo rfl ?_
 refine .q (.i64 (((b-a)/8:Nat):Int) .quo ⟨by rw[ad5 (by omega)];omega,by omega,by omega⟩) ?_
 refine .ag rfl<|.z<|.mo rfl<|.mo rfl<|.q .lss<|.zn ?_
 refine .cond rfl (λh8=>?_) λh8=>?_
 refine .sr<|.mo rfl<|.mo rfl<|.q .geq<|.ag rfl<|.z<|.mo rfl<|.mo rfl<|.mo rfl<|.mo rfl ?_
 refine .aT (ih v D O a g m _ Q (by omega) (by omega) (by omega) r N b9 (c6.less (by omega)) (by omega)) (λu F i=>?_)
 obtain⟨rfl,L,I,U,a4⟩:=i
 have K:=b7.left C s U a4 e f (by omega)
 have J:=b6.trans (U.mono e (by omega) (by omega))
 refine .zn<|.region<|.mo rfl ?_
 refine .ia (g+1) .add ?_
 refine .ag rfl<|.nil<|bz ?_
 ·first
   |exact br (g+1,b,m,_,_,L,F) ⟨⟨by simp only;omega,by simp only;omega,by simp only;omega,r⟩,I,J,K⟩ (by simp only;omega) ((((((kE.d rfl).d rfl).d rfl).d rfl).d rfl).d rfl) rH
   |exact br (a,g,m,_,_,L,F) ⟨⟨e,a7,by simp only;omega,r⟩,I,J,K⟩ (by simp only;omega) ((((((kE.d rfl).d rfl).d rfl).d rfl).d rfl).d rfl) rH
   |exact br (g,b,m,_,_,D,O) ⟨⟨by simp only;omega,a6,f,r⟩,Q,a3.trans (k.mono e f (by omega)),(a5.rp k e f).eqs C s⟩ (by simp only;omega) ((((((kE.d rfl).d rfl).d rfl).d rfl).d rfl).d rfl) rH
 refine .sr<|.mo rfl<|.mo rfl<|.q .geq<|.ag rfl<|.z<|.mo rfl<|.mo rfl ?_
 refine .ia (g+1) .add ?_
 refine .mo rfl<|.mo rfl ?_
 refine .aT (ih v D O (g+1) b m _ Q (by omega) (by omega) (by omega) r N b9 s.lb (by omega)) (λu F i=>?_)
 obtain⟨rfl,L,I,U,a4⟩:=i
 have K:=b7.right C s U a4 e f (by omega)
 have J:=b6.trans (U.mono (by omega) f (by omega))
 refine .zn<|.region<|.mo rfl<|.ag rfl<|.nil<|bz ?_
 ·first
   |exact br (g+1,b,m,_,_,L,F) ⟨⟨by simp only;omega,by simp only;omega,by simp only;omega,r⟩,I,J,K⟩ (by simp only;omega) ((((((kE.d rfl).d rfl).d rfl).d rfl).d rfl).d rfl) rH
   |exact br (a,g,m,_,_,L,F) ⟨⟨e,a7,by simp only;omega,r⟩,I,J,K⟩ (by simp only;omega) ((((((kE.d rfl).d rfl).d rfl).d rfl).d rfl).d rfl) rH
   |exact br (g,b,m,_,_,D,O) ⟨⟨by simp only;omega,a6,f,r⟩,Q,a3.trans (k.mono e f (by omega)),(a5.rp k e f).eqs C s⟩ (by simp only;omega) ((((((kE.d rfl).d rfl).d rfl).d rfl).d rfl).d rfl) rH
theorem tf(p:SO (aM c))(n:Nat):oN c ok n:=by
 induction n with
 |zero=>exact λv e T a b d R _ _ _ _ _ _ _ _ q=>by omega
 |succ n ih=>exact λv e T a b d R f g h i j k l m o=>tg n ih p v e T a b d R f g h i j k l m o
end
end SST
namespace SST
section
variable{c:ByteArray->ByteArray->Int}{ok:ByteArray->Prop}
theorem hE(v:Value)(xs:List ByteArray)(T:au)(R:ao)(h:OS 9 1 bL v xs T)(j:xs.length<=1000000000)(i:gJ c ok R)(k:∀x∈xs,ok x)(l:SO (aM c)):
  Spec prog 236 [v] R [T] λu H'=>∃T',H'=[T']/\u=.tuple #[]/\∃ys,OS 9 1 bL v ys T'/\ys.Perm xs/\SR (aM c) ys 0 ys.length:=by
 have p:=h.ay
 have g:Lib.bitLen xs.length<=1000000000:=by
  have o:=bitLen_le 64 xs.length
  have n:Lib.bitLen xs.length=Lib.bitLenAux 64 xs.length:=rfl
  omega
 refine Spec.body func236 rfl results236 ntmps236 rfl ?_
 refine .sr<|.mo rfl<|.q (.kD h) ?_
 refine .az rfl<|.region<|.mo rfl<|.mo rfl<|.mo rfl ?_
 refine .q (aI.cast (v':=.int .u64 ((xs.length:Nat):Int)) .fv (by rw[na (by omega) (by omega)])) ?_
 refine .aH (sM xs.length (by omega) _) (λu a=>?_)
 subst a
 refine .aT (tf l (xs.length+1) v xs T 0 xs.length (Lib.bitLen xs.length) _ h (Nat.zero_le _) (adV _) j g i k (λd=>absurd d (by omega)) (by omega)) (λu m a=>?_)
 obtain⟨rfl,ys,e,b,f⟩:=a
 refine .nil<|dc _ .none rH ?_
 ·exact⟨_,rfl,rfl,ys,e,b.perm,b.length▸f⟩
end
end SST
def gi(a b:aZ):Int:=if fb a b then-1 else if fb b a then 1 else 0
theorem Nk:aM gi=aM kK:=by
 funext a b
 unfold aM gi
 by_cases c:fb a b=true
 ·rw[ad6 c];unfold fb at c;rw[c];rfl
 ·rw[adY c]
  unfold fb at c
  have d:decide (kK a b<0)=false:=by simpa using c
  rw[d]
  split<;>rfl
theorem N4(a b:aZ)(R:ao):Spec prog 291 [.agg a.enc.toArray,.agg b.enc.toArray] R [] λv H'=>v=.int .i64 (gi a b)/\H'=[]:=by
 refine Spec.body func291 rfl results291 ntmps291 rfl ?_
 refine .sr ?_
 refine .cc rfl (λf=>?_)
 refine .cc rfl (λg=>?_)
 refine .ag rfl<|.zs<|.block<|.sr<|.q (.bj rfl)<|.q (.bj rfl) ?_
 refine .aH (tV a b _) (λv e=>?_)
 subst e
 refine .az rfl ?_
 refine .cond rfl (λc=>?_) λc=>?_
 refine .sr<|.az rfl ?_
 refine .ret (bi (aR (aW rfl ?_)))
 ·exact⟨by unfold gi;rw[ad6 c],rfl⟩
 refine .sr<|.q (.bj rfl)<|.q (.bj rfl) ?_
 refine .aH (tV b a _) (λv e=>?_)
 subst e
 refine .az rfl ?_
 refine .cond rfl (λd=>?_) λd=>?_
 refine .sr<|.az rfl ?_
 refine .ret (bi (aR (aW rfl ?_)))
 ·exact⟨by unfold gi;rw[adY (by rw[c];simp),ad6 d],rfl⟩
 refine .skip<|bz<|aG<|.sr<|.az rfl ?_
 refine .ret (aW rfl ?_)
 ·exact⟨by unfold gi;rw[adY (by rw[c];simp),adY (by rw[d];simp)],rfl⟩
abbrev o2(ys:List aZ):Prop:=ys.Pairwise λp q=>aM kK q p=false
theorem wi{α:Type} [DecidableEq α]{k:α}:∀{l:List α},l.Nodup->k∈l->l.Perm (k::l.filter λk'=>decide (k'≠k))
 |[],_,h=>by cases h
 |x::l,hn,h=>by
  have b:=List.nodup_cons.1 hn
  by_cases a:x=k
  ·subst a
   have:l.filter (λk'=>decide (k'≠x))=l:=List.filter_eq_self.2 λy f=>by
    have:y≠x:=λe=>b.1 (e▸f)
    simp[this]
   rw[ad9]
   simp only[ne_eq,not_true_eq_false,decide_false,Bool.false_eq_true,if_false]
   have c:l.filter (λk'=> !decide (k'=x))=l:=by simpa using this
   simp only[decide_not,c]
   exact .refl _
  ·have d:k∈l:=by
    rcases List.mem_cons.1 h with e|h
    ·exact absurd e.symm a
    ·exact h
   have:=(wi b.2 d).cons x
   rw[ad9,ad6 (by simp[a])]
   exact this.trans (List.Perm.swap k x _)
theorem wm{α:Type}{a b c:α->Bool}:∀L:List α,(∀x∈L,c x=(a x||b x)/\¬(a x=true/\b x=true))->(L.filter c).Perm (L.filter a++L.filter b)
 |[],_=>by simp
 |x::L,h=>by
  obtain⟨e,f⟩:=h x (by simp)
  have d:=wm L λy g=>h y (by simp[g])
  rw[ad9,ad9,ad9,e]
  cases ha:a x<;>cases hb:b x
  ·simpa using d
  ·simpa using(d.cons x).trans List.perm_middle.symm
  ·simpa using d.cons x
  ·exact absurd ⟨ha,hb⟩ f
def xS(S:dI)(f:aZ)(r:Int)(ys:List aZ):Prop:=ys.Perm (if scan S r then ol S f r else [])/\o2 ys
end Go.Proofs.YtocjmmbldeljnaaGreatDoor
