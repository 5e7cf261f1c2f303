/- What the law 'CoreErrors' uses. No condition. -/
import Derived.Test.YtkkmbiojicgobaaGreatDoorKCoreErrorsQ
import Derived.Test.YtkkmbiojicgobaaGreatDoorKCoreErrorsU
set_option linter.unusedSimpArgs false
set_option linter.unusedVariables false
namespace Go.Proofs.YtkkmbiojicgobaaGreatDoor
open Tryz
set_option linter.unusedVariables false
set_option maxRecDepth 4000
def jF:bA:=⟨⟨#[97]⟩,⟨#[]⟩,[⟨#[104,116,116,112,115,58,47,47,99]⟩],[⟨#[114,101,97,100]⟩]⟩
theorem Lj:dT [] jF=(0,[jF]):=by
 have e:jF.check=0:=by decide+kernel
 unfold dT;rw[e];simp[cw]
theorem Lk:dJ [jF] ⟨#[98,111,98]⟩ ⟨#[97]⟩ [⟨#[114,101,97,100]⟩]=0:=by decide+kernel
theorem wM(R:av):Spec prog 11 [] R [] λv H'=>v=.bool true/\H'=[]:=by
 have L:jF.fits:=⟨by decide,by decide,by simp[jF];decide,by simp[jF];decide⟩
 refine Spec.body func11 rfl results11 ntmps11 rfl ?_
 refine .sr<|.ag rfl<|.z ?_
 refine .da (wN _) (λv T d=>?_)
 obtain⟨q,rfl,G⟩:=d
 refine .ag rfl<|.zs<|.sr<|.mo rfl<|.q (.ql rfl rfl) ?_
 refine .mo rfl<|.gt rfl ?_
 refine .mo rfl<|.gt rfl ?_
 refine .ig (λx=>?_)
 refine .gt rfl ?_
 refine .ig (λy=>?_)
 refine .gt rfl ?_
 refine .q .dI ?_
 refine .gt rfl ?_
 refine .jO (wD q [] [] [] [] 0 0 T G ⟨⟨#[97]⟩,⟨#[]⟩,.slice (some ⟨x,0,none⟩) 1 1,.slice (some ⟨y,0,none⟩) 1 1⟩ jF _ ⟨rfl,rfl,RS.qw (E:=9) (fr:=(0,0)) (cs:=[.string ⟨#[104,116,116,112,115,58,47,47,99]⟩]) (.inr (by simp)) rfl (by simp[bB,jF]) (by simp[bB,jF,aw]),RS.qw (E:=9) (fr:=(0,0)) (cs:=[.string ⟨#[114,101,97,100]⟩]) (.inr (by simp)) rfl (by simp[bB,jF]) (by simp[bB,jF,aw])⟩ L (by simp[bA.eo,jF])) (λv o d=>?_)
 rw[Lj]at d
 obtain⟨rfl,H⟩:=d
 refine .gt rfl ?_
 refine .q .dL<|.q .bY<|.zn<|.bZ<|.kn<|.sr<|.mo rfl ?_
 refine .ig (λw=>?_)
 refine .jO (wH q [jF] [] [] [] 0 0 o H ⟨#[98,111,98]⟩ ⟨#[97]⟩ (by decide) (.slice (some ⟨w,0,none⟩) 1 1) [⟨#[114,101,97,100]⟩] _ (RS.qw (E:=9) (fr:=(0,0)) (cs:=[.string ⟨#[114,101,97,100]⟩]) (.inr (by simp)) rfl (by simp[bB]) (by simp[bB,aw])) (by simp) (by simp)) (λv g d=>?_)
 obtain⟨rfl,S,_,e,j⟩:=d
 rw[Lk]at e⊢
 obtain⟨l,M,N,a2,n⟩:=e rfl
 have O:l=[⟨#[114,101,97,100]⟩]:=sI M (by simp[gR]) (λs=>by rw[N];simp[aU])
 subst O
 rw[if_neg (by simp)]at n
 subst n
 obtain⟨h,f,D,W,u,Y,m,a0,J,a1⟩:=id j
 have a3:PS g (pT q) [pT h,pT f,pT D,.int .i64 0]:=PS.of (E:=74) (fr:=(0,0)) (by rw[m];simp)
 refine .q .bS<|.mo rfl ?_
 refine .split (t:=17) rfl (λa=>?_) (λa=>?_)
 refine .gT a<|.mo rfl<|.gT a ?_
 refine .aM (sm q h f _ _ _) (λv d=>?_)
 subst d
 refine .gT a ?_
 refine .da (vK f _ [] u J ⟨#[98,111,98]⟩ ⟨#[97]⟩ _ (λp Q=>.inr (by simp[m,Q])) (by simp[cT,dO])) (λv U k=>?_)
 have A:(aU ((⟨#[98,111,98]⟩,⟨#[97]⟩):cB) (cT (((⟨#[98,111,98]⟩,⟨#[97]⟩):cB)) [(⟨#[114,101,97,100]⟩:ByteArray)] [])).getD []=[⟨#[114,101,97,100]⟩]:=by simp[cT,dO,aU]
 rw[A]at k
 refine .gT a<|.q (.ec k) ?_
 refine .gT a<|.q .bS<|.q (.aY a) ?_
 refine .mo rfl ?_
 refine .split (t:=24) rfl (λb=>?_) (λb=>?_)
 refine .gT b<|.mo rfl<|.gT b ?_
 refine .bW (wY q [jF] _ [] [] 0 0 g j (by decide) (by decide) 5 _) (λv r d=>?_)
 obtain⟨rfl,_,e⟩:=d
 have B:er 5 0=0:=by decide
 rw[B]at e⊢
 obtain⟨_,I⟩:=e rfl
 obtain⟨i,C,F,X,V,Z,K,_⟩:=id I
 have a4:PS r (pT q) [pT i,pT C,pT F,.int .i64 (0+5)]:=PS.of (E:=74) (fr:=(0,0)) (by rw[K];simp)
 refine .gT b<|.q .bS<|.q (.aY b) ?_
 refine .mo rfl ?_
 refine .split (t:=29) rfl (λc=>?_) (λc=>?_)
 refine .gT c<|.mo rfl<|.gT c ?_
 refine .aM (wO q i _ _ _ _) (λv d=>?_)
 subst d
 refine .gT c<|.q .bS<|.q (.aY c) ?_
 refine .az rfl ?_
 refine .ret (aO rfl ?_)
 ·first
   |exact⟨rfl,rfl⟩
   |(exfalso;revert b;decide)
   |(exfalso;revert c;decide)
   |(exfalso;revert a;decide)
 refine .gF c<|.gF c<|.gF c<|.q (.aS c) ?_
 refine .az rfl ?_
 refine .ret (aO rfl ?_)
 ·first
   |exact⟨rfl,rfl⟩
   |(exfalso;revert b;decide)
   |(exfalso;revert c;decide)
   |(exfalso;revert a;decide)
 refine .gF b<|.gF b<|.gF b<|.q (.aS b) ?_
 refine .mo rfl<|.gX<|.gX<|.gX<|.q .bY<|.az rfl ?_
 refine .ret (aO rfl ?_)
 ·first
   |exact⟨rfl,rfl⟩
   |(exfalso;revert b;decide)
   |(exfalso;revert c;decide)
   |(exfalso;revert a;decide)
 refine .gF a<|.gF a<|.gF a<|.gF a<|.gF a<|.q (.aS a) ?_
 refine .mo rfl<|.gX<|.gX<|.gX<|.q .bY<|.mo rfl<|.gX<|.gX<|.gX<|.q .bY<|.az rfl ?_
 refine .ret (aO rfl ?_)
 ·first
   |exact⟨rfl,rfl⟩
   |(exfalso;revert b;decide)
   |(exfalso;revert c;decide)
   |(exfalso;revert a;decide)
theorem ue{H:Type}{enc:TypeId×Value->H}{W:World}{f:Nat}{cs:List Value}{x:DataW H×List MemPlace}(h:DataW.trod enc prog W 0 (λ_=>true) true f 26 cs=some x):∃v l,cs=[v]/\RS (Rw W) 1 cO v l:=by
 obtain⟨v,l,a,d,_⟩:=RS.sq (D:=λ_=>True) (sz:=1) (en:=cO) underlying26 (by kernel_rfl) (by omega) h λn cs x g=>by
  obtain⟨z,rfl,b,a⟩:=KP (t:=5) (k:=.u8) g
  have c:0<=z:=b
  have i:z<=255:=a
  refine⟨rfl,by simp[aw],z.toNat.toUInt8,?_,trivial⟩
  have e:(z.toNat.toUInt8).toNat=z.toNat:=by
   rw[Nat.toUInt8,UInt8.toNat_ofNat']
   exact Nat.mod_eq_of_lt (by omega)
  unfold cO
  rw[e,Int.toNat_of_nonneg c]
 exact⟨v,l,a,d⟩
theorem wF{H:Type}{enc:TypeId×Value->H}{W:World}{f:Nat}{cs:List Value}{x:DataW H×List MemPlace}(h:DataW.trod enc prog W 0 (λ_=>true) true f 29 cs=some x):∃(w:OV) (c:OC),cs=fW w c/\OR (Rw W) w c:=by
 obtain⟨u,a⟩:=xm underlying29 h
 have Z:prog.cellsOf 29=16:=by kernel_rfl
 rw[Z]at u
 have b:prog.cellsOf 2=1:=by kernel_rfl
 have C:prog.cellsOf 3=1:=by kernel_rfl
 have D:prog.cellsOf 9=1:=by kernel_rfl
 have v:prog.cellsOf 23=1:=by kernel_rfl
 have z:prog.cellsOf 25=4:=by kernel_rfl
 have A:prog.cellsOf 26=1:=by kernel_rfl
 have B:prog.cellsOf 27=1:=by kernel_rfl
 match cs,u with
 |[a0,a1,a2,a3,a4,a5,a6,a7,a8,a9,a10,a11,a12,a13,a14,a15],_=>
  obtain⟨n0,y0,d⟩:∃n y,DataW.trod enc prog W 0 (λ_=>true) true n 3 (([a0,a1,a2,a3,a4,a5,a6,a7,a8,a9,a10,a11,a12,a13,a14,a15].drop 0).take (prog.cellsOf 3))=some y:=a 0 _ rfl
  obtain⟨n1,y1,e⟩:∃n y,DataW.trod enc prog W 0 (λ_=>true) true n 2 (([a0,a1,a2,a3,a4,a5,a6,a7,a8,a9,a10,a11,a12,a13,a14,a15].drop 1).take (prog.cellsOf 2))=some y:=a 1 _ rfl
  obtain⟨n2,y2,l⟩:∃n y,DataW.trod enc prog W 0 (λ_=>true) true n 25 (([a0,a1,a2,a3,a4,a5,a6,a7,a8,a9,a10,a11,a12,a13,a14,a15].drop 2).take (prog.cellsOf 25))=some y:=a 2 _ rfl
  obtain⟨n3,y3,m⟩:∃n y,DataW.trod enc prog W 0 (λ_=>true) true n 9 (([a0,a1,a2,a3,a4,a5,a6,a7,a8,a9,a10,a11,a12,a13,a14,a15].drop 6).take (prog.cellsOf 9))=some y:=a 3 _ rfl
  obtain⟨n4,y4,o⟩:∃n y,DataW.trod enc prog W 0 (λ_=>true) true n 9 (([a0,a1,a2,a3,a4,a5,a6,a7,a8,a9,a10,a11,a12,a13,a14,a15].drop 7).take (prog.cellsOf 9))=some y:=a 4 _ rfl
  obtain⟨n5,y5,p⟩:∃n y,DataW.trod enc prog W 0 (λ_=>true) true n 9 (([a0,a1,a2,a3,a4,a5,a6,a7,a8,a9,a10,a11,a12,a13,a14,a15].drop 8).take (prog.cellsOf 9))=some y:=a 5 _ rfl
  obtain⟨n6,y6,q⟩:∃n y,DataW.trod enc prog W 0 (λ_=>true) true n 9 (([a0,a1,a2,a3,a4,a5,a6,a7,a8,a9,a10,a11,a12,a13,a14,a15].drop 9).take (prog.cellsOf 9))=some y:=a 6 _ rfl
  obtain⟨n7,y7,r⟩:∃n y,DataW.trod enc prog W 0 (λ_=>true) true n 23 (([a0,a1,a2,a3,a4,a5,a6,a7,a8,a9,a10,a11,a12,a13,a14,a15].drop 10).take (prog.cellsOf 23))=some y:=a 7 _ rfl
  obtain⟨n8,y8,s⟩:∃n y,DataW.trod enc prog W 0 (λ_=>true) true n 9 (([a0,a1,a2,a3,a4,a5,a6,a7,a8,a9,a10,a11,a12,a13,a14,a15].drop 11).take (prog.cellsOf 9))=some y:=a 8 _ rfl
  obtain⟨n9,y9,t⟩:∃n y,DataW.trod enc prog W 0 (λ_=>true) true n 9 (([a0,a1,a2,a3,a4,a5,a6,a7,a8,a9,a10,a11,a12,a13,a14,a15].drop 12).take (prog.cellsOf 9))=some y:=a 9 _ rfl
  obtain⟨b3,b8,g⟩:∃n y,DataW.trod enc prog W 0 (λ_=>true) true n 26 (([a0,a1,a2,a3,a4,a5,a6,a7,a8,a9,a10,a11,a12,a13,a14,a15].drop 13).take (prog.cellsOf 26))=some y:=a 10 _ rfl
  obtain⟨b4,b9,i⟩:∃n y,DataW.trod enc prog W 0 (λ_=>true) true n 26 (([a0,a1,a2,a3,a4,a5,a6,a7,a8,a9,a10,a11,a12,a13,a14,a15].drop 14).take (prog.cellsOf 26))=some y:=a 11 _ rfl
  obtain⟨b5,c0,j⟩:∃n y,DataW.trod enc prog W 0 (λ_=>true) true n 27 (([a0,a1,a2,a3,a4,a5,a6,a7,a8,a9,a10,a11,a12,a13,a14,a15].drop 15).take (prog.cellsOf 27))=some y:=a 12 _ rfl
  simp only[b,C,D,v,z,A,B,List.drop_zero,List.drop_succ_cons,List.take_succ_cons,List.take_zero]at d e l m o p q r s t g i j
  obtain⟨z0,E⟩:=r5 (k:=.i64) d
  obtain⟨z1,F⟩:=r5 (k:=.i64) e
  obtain⟨r2,b,K,X⟩:=Ab l
  obtain⟨s3,L⟩:=mS m
  obtain⟨s4,M⟩:=mS o
  obtain⟨s5,N⟩:=mS p
  obtain⟨s6,O⟩:=mS q
  obtain⟨v7,l7,Q,Y⟩:=sY r
  obtain⟨s8,S⟩:=mS s
  obtain⟨s9,T⟩:=mS t
  obtain⟨b6,b0,G,U⟩:=ue g
  obtain⟨b7,b1,I,V⟩:=ue i
  obtain⟨b2,J⟩:=r5 (k:=.u64) j
  cases E;cases F;cases K;cases L;cases M;cases N;cases O;cases Q;cases S;cases T;cases G;cases I;cases J
  exact⟨⟨r2,_,_,_⟩,⟨z0,z1,b,s3,s4,s5,s6,l7,s8,s9,b0,b1,b2⟩,rfl,X,Y,U,V⟩
end Go.Proofs.YtkkmbiojicgobaaGreatDoor
