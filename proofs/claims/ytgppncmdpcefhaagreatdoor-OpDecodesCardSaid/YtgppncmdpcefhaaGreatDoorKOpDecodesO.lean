/- What the law 'OpDecodes' uses. No condition. -/
import Derived.Test.YtgppncmdpcefhaaGreatDoorKOpDecodesB
import Derived.Test.YtgppncmdpcefhaaGreatDoorKOpDecodesF
import Derived.Test.YtgppncmdpcefhaaGreatDoorKOpDecodesH
import Derived.Test.YtgppncmdpcefhaaGreatDoorKOpDecodesN
namespace Go.Proofs.YtgppncmdpcefhaaGreatDoor
set_option linter.defProp false
def acS:=@Nat.le_refl
def acT:=@List.length_set
def acU:=@List.getElem?_eq_some_iff
def acV:=@Int.tdiv_eq_ediv_of_nonneg
def acW:=@List.length_drop
def acX:=@Nat.lt_or_ge
open Tryz
set_option linter.unusedVariables false
set_option linter.unusedSimpArgs false
set_option maxRecDepth 4000
namespace SRW
section
variable{c:aM->aM->Int}{ok:aM->Prop}{f:FuncId}{caps:List Value} [e:aL prog f]
theorem hG(v:Value)(xs:List aM)(T:ay)(a b:Nat)(R:aC)(h:OS 152 9 aM.enc v xs T)(a2:a<=b)(I:b<=xs.length)(hl:xs.length<=1000000000)(N:bR prog f caps R (λt:aM=>Value.agg t.enc.toArray) c ok)(J:∀x∈xs,ok x)(F:SO (ap c)):
  Spec prog 353 [v,.int .i64 a,.int .i64 b,.func (.func f) #[] caps.toArray] R [T] λu H'=>∃T',H'=[T']/\u=.tuple #[]/\∃ys,OS 152 9 aM.enc v ys T'/\RP a b xs ys/\SR (ap c) ys a b:=by
 have iv:=h.aF
 refine Spec.body func353 rfl results353 ntmps353 rfl ?_
 refine .sr<|.mo rfl ?_
 refine .ia (a+1) .add ?_
 refine .az rfl<|.block ?_
 refine .loop (X:=Nat×List aM×ay) (λy=>(a+1<=y.1/\(y.1<=b\/y.1=a+1))/\OS 152 9 aM.enc v y.2.1 y.2.2/\RP a b xs y.2.1/\SR (ap c) y.2.1 a y.1) (λy=>[(0,v),(1,iN a),(2,iN b),(3,.func (.func f) #[] caps.toArray),(8,iN y.1)]) (λy=>[y.2.2]) (λy=>b-y.1) (a+1,xs,T) ⟨⟨by simp only;omega,.inr rfl⟩,h,.refl _,λi j r m H=>by simp only at H;omega⟩ kE.c.c.c.c.c rH ?_
 rintro⟨i,ys,L⟩ ⟨⟨O,Q⟩,C,B,D⟩
 simp only at O Q C B D⊢
 have a5:=B.length
 refine .seq<|.sr<|.mo rfl<|.mo rfl<|.q .lss<|.zn ?_
 refine .cond rfl (λr=>?_) λr=>?_
 have a4:i<b:=by simp at r;omega
 refine .kn<|.seq<|.block<|.sr<|.mo rfl<|.az rfl<|.block ?_
 refine .loop (X:=Nat×List aM×ay) (λy=>(a<=y.1/\y.1<=i)/\OS 152 9 aM.enc v y.2.1 y.2.2/\RP a b xs y.2.1/\eP (ap c) y.2.1 a y.1 (i+1)) (λy=>[(0,v),(1,iN a),(2,iN b),(3,.func (.func f) #[] caps.toArray),(8,iN i),(9,iN y.1)]) (λy=>[y.2.2]) (λy=>y.1) (i,ys,L) ⟨⟨by simp only;omega,acS _⟩,C,B,D.ins⟩ kE.c.c.c.c.c.c rH ?_
 rintro⟨j,s,G⟩ ⟨⟨S,U⟩,e,n,A⟩
 simp only at S U e n A⊢
 have a6:=n.length
 refine .seq<|.seq ?_
 refine .bO 14 mixed (by kernel_rfl) ?_
 conv=>arg 6;dsimp only[List.take]
 refine .mo rfl<|.mo rfl<|.q .gtr<|.mo rfl ?_
 refine .split (t:=21) rfl (λd=>?_) (λd=>?_)
 have E:a<j:=by have:=bp d;omega
 obtain⟨x,g⟩:∃x,s[j]? =some x:=⟨_,aE (by omega)⟩
 obtain⟨y,l⟩:∃x,s[j-1]? =some x:=⟨_,aE (by omega)⟩
 have Z:=J x (n.perm.mem_iff.1 (aG g))
 have a0:=J y (n.perm.mem_iff.1 (aG l))
 refine .gT d<|.mo rfl<|.gT d<|.mo rfl<|.gT d<|.mo rfl<|.gT d ?_
 refine .ar j e g (λa7=>?_)
 refine .gT d<|.q (.aD rfl)<|.gT d<|.mo rfl<|.gT d<|.mo rfl<|.gT d ?_
 refine .ia (j-1) .sub ?_
 refine .gT d ?_
 refine .ar (j-1) e l (λa8=>?_)
 refine .gT d<|.q (.aD rfl)<|.nil<|.gT d ?_
 refine .bV (first:=[]) (captured:=caps) (vs:=[(λt:aM=>Value.agg t.enc.toArray) x,(λt:aM=>Value.agg t.enc.toArray) y]) (N x y Z a0 _ (λb o I=>.inl I)) (λu p=>?_)
 subst p
 refine .gT d<|.q .lss<|.q (.bX d) ?_
 refine .zn ?_
 refine .cond rfl (λm=>?_) λm=>?_
 refine .kn<|.seq<|.block<|.bN [15,17] mixed ?_
 refine .tO 0 rfl .move<|.tO 1 rfl .move<|.tK 2 rfl .move<|.tK 3 rfl .move ?_
 refine .take 4 rfl (.i64 ((j-1:Nat):Int) .sub ⟨by omega,by omega,by omega⟩) (by kernel_rfl) ?_
 refine .tO 5 rfl .move<|.tO 6 rfl .move ?_
 refine .cA 7 rfl (.i64 ((j-1:Nat):Int) .sub ⟨by omega,by omega,by omega⟩) (by kernel_rfl) ?_
 refine RA.ar 8 rfl (j-1) e l rfl rfl rfl (by kernel_rfl) (λa9=>?_)
 refine .tO 9 rfl (.aD rfl)<|.tO 10 rfl .move<|.tO 11 rfl .move ?_
 refine RA.ar 12 rfl (j) e g rfl rfl rfl (by kernel_rfl) (λb0=>?_)
 refine .tO 13 rfl (.aD rfl) ?_
 refine RA.ar 14 rfl (j) e g rfl rfl rfl (by kernel_rfl) (λb1=>?_)
 refine .sT 15 rfl ?_
 refine .bh (j) e g y (λa1 W=>?_) (e.one _ (aG l))
 refine .nil (Next.mod rfl ?_)
 refine RA.ar 16 rfl (j-1) e l rfl rfl rfl (by kernel_rfl) (λb2=>?_)
 refine .sT 17 rfl ?_
 obtain⟨zz,Y⟩:∃u,(s.set (j) y)[j-1]? =some u:=⟨_,aE (by rw[acT];exact(acU.1 l).1)⟩
 refine .bh (j-1) W Y x (λM K=>?_) (e.one _ (aG g))
 rw[<-bP g l]at K
 refine .nil (Next.mod rfl ?_)
 refine RA.nil (by kernel_rfl) ?_
 refine bg<|aI<|.region<|.mo rfl ?_
 refine .ia (j-1) .sub ?_
 refine .ag rfl<|.nil ?_
 ·have V:ap c x y=true:=m
  exact aS (j-1,bi s j (j-1),M) ⟨⟨by simp only;omega,by simp only;omega⟩,K,n.step (by omega) (by omega) (by omega) (by omega) (by omega),A.step F (by omega) (by omega) E g l V⟩ (by simp only;omega) kE.c.c.c.c.c.c rH
 refine .exit<|aT<|aW<|aU<|bg<|aI<|.region<|.mo rfl ?_
 refine .ia (i+1) .add ?_
 refine .ag rfl<|.nil ?_
 ·refine aS (i+1,s,G) ⟨⟨by simp only;omega,.inl (by simp only;omega)⟩,e,n,A.done F (by omega) (by omega) ?_⟩ (by simp only;omega) kE.c.c.c.c.c rH
  first
   |exact .inr ⟨E,λu w p z=>by
     rw[l]at p;rw[g]at z;cases p;cases z;exact m⟩
   |exact .inl (by have:=bc d;omega)
 refine .gF d<|.gF d<|.gF d<|.gF d<|.gF d<|.gF d<|.gF d<|.gF d<|.gF d<|.gF d<|.nil<|.gF d<|.gF d<|.q (.bU d) ?_
 refine .zn<|.bB<|.exit<|aT<|aW<|aU<|bg<|aI<|.region<|.mo rfl ?_
 refine .ia (i+1) .add ?_
 refine .ag rfl<|.nil ?_
 ·refine aS (i+1,s,G) ⟨⟨by simp only;omega,.inl (by simp only;omega)⟩,e,n,A.done F (by omega) (by omega) ?_⟩ (by simp only;omega) kE.c.c.c.c.c rH
  first
   |exact .inr ⟨E,λu w p z=>by
     rw[l]at p;rw[g]at z;cases p;cases z;exact m⟩
   |exact .inl (by have:=bc d;omega)
 refine .exit<|aT<|aW<|aU<|cz _ .none rH ?_
 ·have a3:b<=i:=by simp at r;omega
  exact⟨_,rfl,rfl,ys,C,B,λj k r m H=>D j k r m (by omega)⟩
theorem fA(v:Value)(xs:List aM)(T:ay)(lo k d:Nat)(R:aC)(h:OS 152 9 aM.enc v xs T)(b1:lo<=k)(V:d+k<=xs.length)(hl:xs.length<=1000000000)(hf:bR prog f caps R (λt:aM=>Value.agg t.enc.toArray) c ok)(a3:∀x∈xs,ok x)(J:SO (ap c)):
    Spec prog 421 [v,.int .i64 lo,.int .i64 k,.int .i64 d,.func (.func f) #[] caps.toArray] R [T] λu H'=>∃T',H'=[T']/\u=.tuple #[]/\∃ys,OS 152 9 aM.enc v ys T'/\RP d (d+k) xs ys/\
      (eb (λx y=>ap c y x) (xs.drop d) k lo lo->dz (λx y=>ap c y x) (ys.drop d) k lo):=by
  have iv:=h.aF
  have a4:=J.rev
  refine Spec.body func421 rfl results421 ntmps421 rfl ?_
  refine .sr<|.mo rfl<|.az rfl<|.block ?_
  refine .loop (X:=Nat×List aM×ay) (λy=>(lo<=y.1/\y.1<=k)/\OS 152 9 aM.enc v y.2.1 y.2.2/\RP d (d+k) xs y.2.1/\(eb (λx y=>ap c y x) (xs.drop d) k lo lo->eb (λx y=>ap c y x) (y.2.1.drop d) k lo y.1)) (λy=>[(0,v),(2,iN k),(3,iN d),(4,.func (.func f) #[] caps.toArray),(10,iN y.1)]) (λy=>[y.2.2]) (λy=>k-y.1) (lo,xs,T) ⟨⟨acS _,b1⟩,h,.refl _,λh=>h⟩ kE.c.c.c.c.c rH ?_
  rintro⟨r,ys,T1⟩ ⟨⟨a6,b3⟩,m,D,U⟩
  simp only at a6 b3 m D U⊢
  have c1:=D.length
  have c0:(ys.drop d).length=ys.length-d:=acW
  refine .block<|.sr<|.mo rfl ?_
  refine .ia (2*r) .mul ?_
  refine .ia (2*r+1) .add ?_
  refine .ag rfl<|.zs<|.sr<|.mo rfl<|.mo rfl<|.q .geq<|.zn ?_
  refine .cond rfl (λN=>?_) λN=>?_
  have b8:k<=2*r+1:=by have:=bp N;omega
  refine .exit (aT (du (aW (aU ?_))))
  refine cz _ .none rH ?_
  ·refine⟨_,rfl,rfl,ys,m,D,λQ=>(U Q).stop λa C E l u w g S=>?_⟩
   first
     |(simp only[aX]at l;omega)
     |(rw[cP]at g S
       rw[s]at g;cases g
       have O:(!ap c G x)=true:=L
       exact a4.dD _ _ _ (W a w C E l S) (by simpa using O))
  have M:2*r+1<k:=by have:=bc N;omega
  obtain⟨G,s⟩:∃y,ys[d+r]? =some y:=⟨_,aE (by omega)⟩
  obtain⟨p,n⟩:∃y,ys[d+(2*r+1)]? =some y:=⟨_,aE (by omega)⟩
  have b6:=a3 G (D.perm.mem_iff.1 (aG s))
  have I:=a3 p (D.perm.mem_iff.1 (aG n))
  refine .kn<|.seq ?_
  refine bk.cut (X:=Nat×aM) (λz=>0<z.1/\z.1<k/\aX z.1=r/\ys[d+z.1]? =some z.2/\ok z.2/\∀a u,0<a->a<k->aX a=r->ys[d+a]? =some u->ap c z.2 u=false) (λz=>[(0,v),(2,iN k),(3,iN d),(4,.func (.func f) #[] caps.toArray),(10,iN r),(11,iN z.1)]) (λz=>[T1]) ?_ ?_
  refine .seq ?_
  refine .bO 19 mixed (by kernel_rfl) ?_
  conv=>arg 6;dsimp only[List.take]
  refine .mo rfl ?_
  refine .ia (2*r+2) .add ?_
  refine .mo rfl<|.q .lss<|.mo rfl ?_
  refine .split (t:=23) rfl (λe=>?_) (λe=>?_)
  have a1:2*r+2<k:=by have:=bp e;omega
  obtain⟨K,B⟩:∃y,ys[d+(2*r+2)]? =some y:=⟨_,aE (by omega)⟩
  have Y:=a3 K (D.perm.mem_iff.1 (aG B))
  refine .gT e<|.mo rfl<|.gT e<|.mo rfl<|.gT e<|.mo rfl<|.gT e<|.mo rfl<|.gT e ?_
  refine .ia (d+(2*r+1)) .add ?_
  refine .gT e ?_
  refine .ar (d+(2*r+1)) m n (λc2=>?_)
  refine .gT e<|.q (.aD rfl)<|.gT e<|.mo rfl<|.gT e<|.mo rfl<|.gT e<|.mo rfl<|.gT e ?_
  refine .ia (d+(2*r+1)) .add ?_
  refine .gT e ?_
  refine .ia (d+(2*r+2)) .add ?_
  refine .gT e ?_
  refine .ar (d+(2*r+2)) m B (λc3=>?_)
  refine .gT e<|.q (.aD rfl)<|.nil<|.gT e ?_
  refine .bV (first:=[]) (captured:=caps) (vs:=[(λt:aM=>Value.agg t.enc.toArray) p,(λt:aM=>Value.agg t.enc.toArray) K]) (hf p K I Y _ (λb o V=>.inl V)) (λu g=>?_)
  subst g
  refine .gT e<|.q .lss<|.q (.bX e) ?_
  refine .zn ?_
  refine .cond rfl (λH=>?_) λH=>?_
  have a2:∀a u,0<a->a<k->aX a=r->ys[d+a]? =some u->ap c K u=false:=λa u C E l g=>by
    have:a=2*r+1\/a=2*r+2:=by simp only[aX]at l;omega
    rcases this with rfl|rfl
    ·rw[n]at g;cases g;exact J.fR H
    ·rw[B]at g;cases g;exact J.cG _
  refine .region<|.mo rfl ?_
  refine .ia (2*r+2) .add ?_
  refine .ag rfl<|.nil ?_
  ·first
      |exact ax (2*r+2,K) ⟨by simp only;omega,a1,by simp only[aX];omega,B,Y,a2⟩ kE.c.c.c.c.c.c rH
      |exact ax (2*r+1,p) ⟨by simp only;omega,M,by simp only[aX];omega,n,I,A⟩ kE.c.c.c.c.c.c rH
      |(have A:∀a u,0<a->a<k->aX a=r->ys[d+a]? =some u->ap c p u=false:=λa u C E l g=>by
           have:a=2*r+1\/a=2*r+2:=by simp only[aX]at l;omega
           rcases this with rfl|rfl
           ·rw[n]at g;cases g;exact J.cG _
           ·rw[B]at g;cases g;exact H
        exact ax (2*r+1,p) ⟨by simp only;omega,M,by simp only[aX];omega,n,I,A⟩ kE.c.c.c.c.c.c rH)
  refine .skip ?_
  ·first
      |exact ax (2*r+2,K) ⟨by simp only;omega,a1,by simp only[aX];omega,B,Y,a2⟩ kE.c.c.c.c.c.c rH
      |exact ax (2*r+1,p) ⟨by simp only;omega,M,by simp only[aX];omega,n,I,A⟩ kE.c.c.c.c.c.c rH
      |(have A:∀a u,0<a->a<k->aX a=r->ys[d+a]? =some u->ap c p u=false:=λa u C E l g=>by
           have:a=2*r+1\/a=2*r+2:=by simp only[aX]at l;omega
           rcases this with rfl|rfl
           ·rw[n]at g;cases g;exact J.cG _
           ·rw[B]at g;cases g;exact H
        exact ax (2*r+1,p) ⟨by simp only;omega,M,by simp only[aX];omega,n,I,A⟩ kE.c.c.c.c.c.c rH)
  have A:∀a u,0<a->a<k->aX a=r->ys[d+a]? =some u->ap c p u=false:=λa u C E l g=>by
    have:a=2*r+1:=by have:=bc e;simp only[aX]at l;omega
    subst this
    rw[n]at g;cases g;exact J.cG _
  refine .gF e<|.gF e<|.gF e<|.gF e<|.gF e<|.gF e<|.gF e<|.gF e<|.gF e<|.gF e<|.gF e<|.gF e<|.gF e<|.gF e<|.nil<|.gF e<|.gF e<|.q (.bU e) ?_
  refine .zn<|.bB<|.skip ?_
  ·first
      |exact ax (2*r+2,K) ⟨by simp only;omega,a1,by simp only[aX];omega,B,Y,a2⟩ kE.c.c.c.c.c.c rH
      |exact ax (2*r+1,p) ⟨by simp only;omega,M,by simp only[aX];omega,n,I,A⟩ kE.c.c.c.c.c.c rH
      |(have A:∀a u,0<a->a<k->aX a=r->ys[d+a]? =some u->ap c p u=false:=λa u C E l g=>by
           have:a=2*r+1\/a=2*r+2:=by simp only[aX]at l;omega
           rcases this with rfl|rfl
           ·rw[n]at g;cases g;exact J.cG _
           ·rw[B]at g;cases g;exact H
        exact ax (2*r+1,p) ⟨by simp only;omega,M,by simp only[aX];omega,n,I,A⟩ kE.c.c.c.c.c.c rH)
  intro y hy
  obtain⟨j,x⟩:=y
  obtain⟨Z,a5,a0,F,a8,W⟩:=hy
  simp only at Z a5 a0 F a8 W⊢
  have b9:r<j:=a0▸dO Z
  refine aI<|.seq<|.seq ?_
  refine .bO 13 mixed (by kernel_rfl) ?_
  conv=>arg 6;dsimp only[List.take]
  refine .mo rfl<|.mo rfl<|.mo rfl<|.mo rfl ?_
  refine .ia (d+r) .add ?_
  refine .ar (d+r) m s (λc4=>?_)
  refine .q (.aD rfl)<|.mo rfl<|.mo rfl<|.mo rfl ?_
  refine .ia (d+j) .add ?_
  refine .ar (d+j) m F (λc5=>?_)
  refine .q (.aD rfl)<|.nil ?_
  refine .bV (first:=[]) (captured:=caps) (vs:=[(λt:aM=>Value.agg t.enc.toArray) G,(λt:aM=>Value.agg t.enc.toArray) x]) (hf G x b6 a8 _ (λb o V=>.inl V)) (λu g=>?_)
  subst g
  refine .q .lss<|.q .not<|.zn ?_
  refine .cond rfl (λL=>?_) λL=>?_
  refine .ret (bq (bu (cH (bu (bb _ .none rH ?_)))))
  ·refine⟨_,rfl,rfl,ys,m,D,λQ=>(U Q).stop λa C E l u w g S=>?_⟩
   first
     |(simp only[aX]at l;omega)
     |(rw[cP]at g S
       rw[s]at g;cases g
       have O:(!ap c G x)=true:=L
       exact a4.dD _ _ _ (W a w C E l S) (by simpa using O))
  refine .kn<|.seq<|.bN [21,23] mixed ?_
  refine .tO 0 rfl .move<|.tO 1 rfl .move<|.tO 2 rfl .move ?_
  refine .cA 3 rfl (.i64 ((d+r:Nat):Int) .add ⟨by omega,by omega,by omega⟩) (by kernel_rfl) ?_
  refine .tK 4 rfl .move<|.tK 5 rfl .move<|.tK 6 rfl .move ?_
  refine .take 7 rfl (.i64 ((d+j:Nat):Int) .add ⟨by omega,by omega,by omega⟩) (by kernel_rfl) ?_
  refine .tO 8 rfl .move<|.tO 9 rfl .move<|.tO 10 rfl .move ?_
  refine .cA 11 rfl (.i64 ((d+j:Nat):Int) .add ⟨by omega,by omega,by omega⟩) (by kernel_rfl) ?_
  refine RA.ar 12 rfl (d+j) m F rfl rfl rfl (by kernel_rfl) (λc6=>?_)
  refine .tO 13 rfl (.aD rfl)<|.tO 14 rfl .move<|.tO 15 rfl .move<|.tO 16 rfl .move ?_
  refine .cA 17 rfl (.i64 ((d+r:Nat):Int) .add ⟨by omega,by omega,by omega⟩) (by kernel_rfl) ?_
  refine RA.ar 18 rfl (d+r) m s rfl rfl rfl (by kernel_rfl) (λc7=>?_)
  refine .tO 19 rfl (.aD rfl) ?_
  refine RA.ar 20 rfl (d+r) m s rfl rfl rfl (by kernel_rfl) (λc8=>?_)
  refine .sT 21 rfl ?_
  refine .bh (d+r) m s x (λb7 b4=>?_) (m.one _ (aG F))
  refine .nil (Next.mod rfl ?_)
  refine RA.ar 22 rfl (d+j) m F rfl rfl rfl (by kernel_rfl) (λc9=>?_)
  refine .sT 23 rfl ?_
  obtain⟨zz,b5⟩:∃u,(ys.set (d+r) x)[d+j]? =some u:=⟨_,aE (by rw[acT];exact(acU.1 F).1)⟩
  refine .bh (d+j) b4 b5 G (λa9 a7=>?_) (m.one _ (aG s))
  rw[<-bP s F]at a7
  refine .nil (Next.mod rfl ?_)
  refine RA.nil (by kernel_rfl) ?_
  refine aI<|.region<|.mo rfl<|.ag rfl<|.nil<|bg ?_
  ·have b2:ap c G x=true:=by
      have O:(!ap c G x)=false:=L
      simpa using O
   have b0:=gE (xs:=ys) (f:=d) (i:=r) (j:=j) (by omega) (by omega)
   exact aS (j,bi ys (d+r) (d+j),a9) ⟨⟨by simp only;omega,by simp only;omega⟩,a7,D.step (by omega) (by omega) (by omega) (by omega) (by omega),λQ=>by
     simp only
     rw[b0]
     exact(U Q).step a4 a6 Z a5 (by omega) a0 (by rw[cP];exact F) (by rw[cP];exact s) b2 λa z N H L h4=>W a z N H L (by rw[<-cP];exact h4)⟩ (by simp only;omega) kE.c.c.c.c.c rH
end
end SRW
namespace SRW
section
variable{c:aM->aM->Int}{ok:aM->Prop}{f:FuncId}{caps:List Value} [e:aL prog f]
theorem hF(v:Value)(xs:List aM)(T:ay)(a b:Nat)(R:aC)(h:OS 152 9 aM.enc v xs T)(a8:a<=b)(hb:b<=xs.length)(hl:xs.length<=1000000000)(M:bR prog f caps R (λt:aM=>Value.agg t.enc.toArray) c ok)(N:∀x∈xs,ok x)(G:SO (ap c)):
  Spec prog 354 [v,.int .i64 a,.int .i64 b,.func (.func f) #[] caps.toArray] R [T] λu H'=>∃T',H'=[T']/\u=.tuple #[]/\∃ys,OS 152 9 aM.enc v ys T'/\RP a b xs ys/\SR (ap c) ys a b:=by
 have iv:=h.aF
 have a6:=G.rev
 obtain⟨n,hn⟩:∃n,b=a+n:=⟨b-a,by omega⟩
 subst hn
 refine Spec.body func354 rfl results354 ntmps354 rfl ?_
 refine .sr<|.mo rfl<|.ag rfl<|.z<|.ag rfl<|.z<|.mo rfl<|.mo rfl ?_
 refine .ia (n) .sub ?_
 refine .ag rfl<|.zs<|.sr<|.mo rfl ?_
 refine .q (.i64 ((n:Int)-1) .sub ⟨rfl,by omega,by omega⟩) ?_
 refine .q (.i64 (((n-1)/2:Nat):Int) .quo ⟨kM,by omega,by omega⟩) ?_
 refine .az rfl<|.block ?_
 refine .loop (X:=Nat×Int×List aM×ay) (λy=>(y.2.1=(y.1:Int)-1/\y.1<=n+1)/\OS 152 9 aM.enc v y.2.2.1 y.2.2.2/\RP a (a+n) xs y.2.2.1/\dz (λx y=>ap c y x) (y.2.2.1.drop a) n y.1) (λy=>[(0,v),(3,.func (.func f) #[] caps.toArray),(8,iN a),(9,.int .i64 ((0:Nat):Int)),(10,iN n),(11,.int .i64 y.2.1)]) (λy=>[y.2.2.2]) (λy=>y.1) ((n-1)/2+1,(((n-1)/2:Nat):Int),xs,T) ⟨⟨by simp only;omega,by simp only;omega⟩,h,.refl _,λk V hk hp=>by simp only[aX]at hp;omega⟩ kE.c.c.c.c.c.c rH ?_
 rintro⟨m,z,ys,H⟩ ⟨⟨hz,hm⟩,C,r,B⟩
 simp only at hz hm C r B⊢
 have a9:=r.length
 refine .seq<|.sr<|.mo rfl<|.q .geq<|.zn ?_
 refine .cond rfl (λo=>?_) λo=>?_
 have a3:0<=z:=bp o
 obtain⟨k,rfl⟩:∃k,m=k+1:=⟨m-1,by omega⟩
 obtain rfl:z=(k:Int):=by omega
 refine .kn<|.seq<|.block<|.region<|.mo rfl<|.mo rfl<|.mo rfl<|.mo rfl<|.mo rfl ?_
 refine .aQ (fA (c:=c) (ok:=ok) v ys H k n a _ C (by omega) (by omega) (by omega) M (λx e=>N x (r.perm.mem_iff.1 e)) G) (λu I F=>?_)
 obtain⟨rfl,g,d,l,p⟩:=F
 refine .nil<|bg<|aI<|.region<|.mo rfl ?_
 refine .q (.i64 ((k:Int)-1) .sub ⟨rfl,by omega,by omega⟩) ?_
 refine .ag rfl<|.nil ?_
 ·exact aS (k,(k:Int)-1,g,I) ⟨⟨rfl,by simp only;omega⟩,d,r.trans l,p B.hole⟩ (by simp only;omega) kE.c.c.c.c.c.c rH
 have E:m=0:=by have:=bc o;omega
 subst E
 refine .exit<|aT<|aW<|aU<|aI<|.sr<|.mo rfl ?_
 refine .q (.i64 ((n:Int)-1) .sub ⟨rfl,by omega,by omega⟩) ?_
 refine .az rfl<|.block ?_
 refine .loop (X:=Nat×Int×List aM×ay) (λy=>(y.2.1=(y.1:Int)-1/\y.1<=n)/\OS 152 9 aM.enc v y.2.2.1 y.2.2.2/\RP a (a+n) xs y.2.2.1/\dz (λx y=>ap c y x) (y.2.2.1.drop a) y.1 0/\OX (ap c) y.2.2.1 a (a+n) a (a+y.1)) (λy=>[(0,v),(3,.func (.func f) #[] caps.toArray),(8,iN a),(9,.int .i64 ((0:Nat):Int)),(10,iN n),(12,.int .i64 y.2.1)]) (λy=>[y.2.2.2]) (λy=>y.1) (n,(n:Int)-1,ys,H) ⟨⟨rfl,acS _⟩,C,r,B,OX.start⟩ kE.c.c.c.c.c.c rH ?_
 rintro⟨m,Q,g,I⟩ ⟨⟨a4,a1⟩,d,l,p,D⟩
 simp only at a4 a1 d l p D⊢
 have b0:=l.length
 refine .seq<|.sr<|.mo rfl<|.q .geq<|.zn ?_
 refine .cond rfl (λA=>?_) λA=>?_
 have a3:0<=Q:=bp A
 obtain⟨k,rfl⟩:∃k,m=k+1:=⟨m-1,by omega⟩
 obtain rfl:Q=(k:Int):=by omega
 obtain⟨x,e⟩:∃x,g[a]? =some x:=⟨_,aE (by omega)⟩
 obtain⟨y,s⟩:∃x,g[a+k]? =some x:=⟨_,aE (by omega)⟩
 refine .kn<|.seq<|.block<|.seq<|.bN [17,19] mixed ?_
 refine .tO 0 rfl .move<|.tO 1 rfl .move<|.tK 2 rfl .move<|.tK 3 rfl .move<|.tK 4 rfl .move ?_
 refine .take 5 rfl (.i64 ((a+k:Nat):Int) .add ⟨by omega,by omega,by omega⟩) (by kernel_rfl) ?_
 refine .tO 6 rfl .move<|.tO 7 rfl .move<|.tO 8 rfl .move ?_
 refine .cA 9 rfl (.i64 ((a+k:Nat):Int) .add ⟨by omega,by omega,by omega⟩) (by kernel_rfl) ?_
 refine RA.ar 10 rfl (a+k) d s rfl rfl rfl (by kernel_rfl) (λb1=>?_)
 refine .tO 11 rfl (.aD rfl)<|.tO 12 rfl .move<|.tO 13 rfl .move ?_
 refine RA.ar 14 rfl (a) d e rfl rfl rfl (by kernel_rfl) (λb2=>?_)
 refine .tO 15 rfl (.aD rfl) ?_
 refine RA.ar 16 rfl (a) d e rfl rfl rfl (by kernel_rfl) (λb3=>?_)
 refine .sT 17 rfl ?_
 refine .bh (a) d e y (λa7 a2=>?_) (d.one _ (aG s))
 refine .nil (Next.mod rfl ?_)
 refine RA.ar 18 rfl (a+k) d s rfl rfl rfl (by kernel_rfl) (λb4=>?_)
 refine .sT 19 rfl ?_
 obtain⟨zz,a5⟩:∃u,(g.set (a) y)[a+k]? =some u:=⟨_,aE (by rw[acT];exact(acU.1 s).1)⟩
 refine .bh (a+k) a2 a5 x (λU O=>?_) (d.one _ (aG e))
 rw[<-bP e s]at O
 refine .nil (Next.mod rfl ?_)
 refine RA.nil (by kernel_rfl) ?_
 refine aI<|.region<|.mo rfl<|.mo rfl<|.mo rfl<|.mo rfl<|.mo rfl ?_
 have L:=gE (xs:=g) (f:=a) (i:=0) (j:=k) (by omega) (by omega)
 have J:=l.step (i:=a) (j:=a+k) (by omega) (by omega) (by omega) (by omega) (by omega)
 have a0:=OX.last (m:=a+k) (x:=x) D (by omega) (by omega) (by omega) e (λj w o W hw=>dz.top a6 p (by rw[acW];omega) (x:=x) (by rw[cP];exact e) (j-a) w (by omega) (by rw[cP,show a+(j-a)=j by omega];exact hw))
 refine .aQ (fA (c:=c) (ok:=ok) v (bi g a (a+k)) U 0 k a _ O (by omega) (by rw[eh];omega) (by rw[eh];omega) M (λx e=>N x (J.perm.mem_iff.1 e)) G) (λu S F=>?_)
 obtain⟨rfl,ws,Z,K,Y⟩:=F
 refine .nil<|bg<|aI<|.region<|.mo rfl ?_
 refine .q (.i64 ((k:Int)-1) .sub ⟨rfl,by omega,by omega⟩) ?_
 refine .ag rfl<|.nil ?_
 ·exact aS (k,(k:Int)-1,ws,S) ⟨⟨rfl,by simp only;omega⟩,Z,J.trans (K.mono (acS a) (by omega) (by rw[eh];omega)),Y (p.kg λj V hj=>by
   rw[Nat.add_zero]at L
   rw[L,cR (by rw[acW];omega) (by rw[acW];omega),if_neg (by omega),if_neg (by omega)]),a0.rp K (acS _) (by omega)⟩ (by simp only;omega) kE.c.c.c.c.c.c rH
 refine .exit<|aT<|aW<|aU<|cz _ .none rH ?_
 ·have E:m=0:=by have:=bc A;omega
  subst E
  exact⟨_,rfl,rfl,g,d,l,D.cS λi j o A W=>by omega⟩
theorem ie(v:Value)(xs:List aM)(T:ay)(a b:Nat)(R:aC)(k:Value)(D:One k)(h:OS 152 9 aM.enc v xs T)(B:a<b)(C:b<=xs.length)(E:xs.length<=1000000000):
  Spec prog 357 [v,.int .i64 a,.int .i64 b,k] R [T] λu H'=>∃T',H'=[T']/\u=.tuple #[]/\∃ys,OS 152 9 aM.enc v ys T'/\RP a b xs ys:=by
 have H:=h.aF
 refine Spec.body func357 rfl results357 ntmps357 rfl ?_
 refine .sr<|.mo rfl<|.ag rfl<|.z<|.mo rfl ?_
 refine .ia (b-1) .sub ?_
 refine .az rfl<|.block ?_
 refine .loop (X:=Nat×Nat×List aM×ay) (λy=>(a<=y.1/\y.1<=y.2.1+1/\y.2.1<b)/\OS 152 9 aM.enc v y.2.2.1 y.2.2.2/\RP a b xs y.2.2.1) (λy=>[(0,v),(8,iN y.1),(9,iN y.2.1)]) (λy=>[y.2.2.2]) (λy=>b-y.1) (a,b-1,xs,T) ⟨⟨acS _,by simp only;omega,by simp only;omega⟩,h,.refl _⟩ kE.c.c.c rH ?_
 rintro⟨i,j,ys,w⟩ ⟨⟨o,p,r⟩,d,g⟩
 simp only at o p r d g⊢
 have F:=g.length
 refine .seq<|.sr<|.mo rfl<|.mo rfl<|.q .lss<|.zn ?_
 refine .cond rfl (λl=>?_) λl=>?_
 have G:i<j:=cO l
 obtain⟨x,e⟩:∃x,ys[i]? =some x:=⟨_,aE (by omega)⟩
 obtain⟨y,f⟩:∃x,ys[j]? =some x:=⟨_,aE (by omega)⟩
 refine .kn<|.block<|.seq<|.bN [13,15] mixed ?_
 refine .tO 0 rfl .move<|.tO 1 rfl .move<|.tK 2 rfl .move<|.tK 3 rfl .move<|.tO 4 rfl .move<|.tO 5 rfl .move ?_
 refine RA.ar 6 rfl (j) d f rfl rfl rfl (by kernel_rfl) (λI=>?_)
 refine .tO 7 rfl (.aD rfl)<|.tO 8 rfl .move<|.tO 9 rfl .move ?_
 refine RA.ar 10 rfl (i) d e rfl rfl rfl (by kernel_rfl) (λJ=>?_)
 refine .tO 11 rfl (.aD rfl) ?_
 refine RA.ar 12 rfl (i) d e rfl rfl rfl (by kernel_rfl) (λK=>?_)
 refine .sT 13 rfl ?_
 refine .bh (i) d e y (λA s=>?_) (d.one _ (aG f))
 refine .nil (Next.mod rfl ?_)
 refine RA.ar 14 rfl (j) d f rfl rfl rfl (by kernel_rfl) (λL=>?_)
 refine .sT 15 rfl ?_
 obtain⟨M,t⟩:∃u,(ys.set (i) y)[j]? =some u:=⟨_,aE (by rw[acT];exact(acU.1 f).1)⟩
 refine .bh (j) s t x (λn m=>?_) (d.one _ (aG e))
 rw[<-bP e f]at m
 refine .nil (Next.mod rfl ?_)
 refine RA.nil (by kernel_rfl) ?_
 refine aI<|.sr<|.mo rfl ?_
 refine .ia (i+1) .add ?_
 refine .az rfl<|.region<|.mo rfl ?_
 refine .ia (j-1) .sub ?_
 refine .ag rfl<|.nil<|bg ?_
 ·exact aS (i+1,j-1,bi ys i j,n) ⟨⟨by simp only;omega,by simp only;omega,by simp only;omega⟩,m,g.step (by omega) (by omega) (by omega) (by omega) (by omega)⟩ (by simp only;omega) kE.c.c.c rH
 refine .exit<|aT<|aW<|aU<|cz _ .none rH ?_
 ·exact⟨_,rfl,rfl,ys,d,g⟩
theorem gV(v:Value)(xs:List aM)(T:ay)(a b:Nat)(R:aC)(s:Value)(V:One s)(h:OS 152 9 aM.enc v xs T)(S:a<=b)(U:b<=xs.length)(Y:xs.length<=1000000000):
  Spec prog 355 [v,.int .i64 a,.int .i64 b,s] R [T] λu H'=>∃T',H'=[T']/\u=.tuple #[]/\∃ys,OS 152 9 aM.enc v ys T'/\RP a b xs ys:=by
 have iv:=h.aF
 obtain⟨n,J⟩:∃n,b=a+n:=⟨b-a,by omega⟩
 subst J
 refine Spec.body func355 rfl results355 ntmps355 rfl ?_
 refine .sr<|.mo rfl<|.mo rfl ?_
 refine .ia (n) .sub ?_
 refine .ag rfl<|.z<|.mo rfl<|.q .geq<|.zn ?_
 refine .cond rfl (λt=>?_) λt=>?_
 have a2:8<=n:=by have:=bp t;omega
 obtain⟨q,D⟩:∃q,q=n/4:=⟨_,rfl⟩
 refine .sr<|.mo rfl<|.q .dT ?_
 refine .gz (λe=>?_)
 refine .cC rfl rfl<|.z<|.mo rfl ?_
 refine .bx (ku n (by omega) (by omega) _) (λu r=>?_)
 obtain⟨j,rfl,a0,a1⟩:=r
 refine .ag rfl<|.z<|.mo rfl<|.mo rfl ?_
 refine .q (.i64 ((q:Nat):Int) .quo ⟨by rw[D,acV (by omega)];omega,by omega,by omega⟩) ?_
 refine .ia (q*2) .mul ?_
 refine .ia (a+q*2) .add ?_
 refine .ia (a+q*2-1) .sub ?_
 refine .az rfl<|.block ?_
 refine .loop (X:=Nat×Int×List aM×ay) (λy=>(a+q*2-1<=y.1/\y.1<=a+q*2+2)/\OS 152 9 aM.enc v y.2.2.1 y.2.2.2/\RP a (a+n) xs y.2.2.1) (λy=>[(0,v),(1,iN a),(8,iN n),(9,pT e),(10,.int .u64 (j:Nat)),(11,iN y.1)]) (λy=>[bl e [.int .u64 y.2.1] 508,y.2.2.2]) (λy=>a+q*2+2-y.1) (a+q*2-1,_,xs,T) ⟨⟨acS _,by simp only;omega⟩,h,.refl _⟩ kE.c.c.c.c.c.c rH ?_
 rintro⟨i,z,ys,F⟩ ⟨⟨H,I⟩,d,k⟩
 simp only at H I d k⊢
 have Z:=k.length
 refine .seq<|.sr<|.mo rfl<|.mo rfl<|.mo rfl ?_
 refine .q (.i64 ((q:Nat):Int) .quo ⟨by rw[D,acV (by omega)];omega,by omega,by omega⟩) ?_
 refine .ia (q*2) .mul ?_
 refine .ia (a+q*2) .add ?_
 refine .ia (a+q*2+1) .add ?_
 refine .q .leq<|.zn ?_
 refine .cond rfl (λA=>?_) λA=>?_
 have W:i<=a+q*2+1:=by have:=bp A;omega
 refine .kn<|.seq<|.block<|.sr ?_
 refine .aQ (kA e z _) (λu O r=>?_)
 obtain⟨l,rfl,rfl⟩:=r
 refine .mo rfl ?_
 refine .q (aV.cast (v':=.int .u64 ((j-1:Nat):Int)) .sub (by rw[fN (by omega) (by omega)];congr 1;omega)) ?_
 have B:=jR (z:=l) (q:=((j-1:Nat):Int)) (by omega) (by omega)
 obtain⟨o,C⟩:∃o:Nat,IntKind.u64.wrap (BitVec.ofInt IntKind.u64.bits l&&&BitVec.ofInt IntKind.u64.bits ((j-1:Nat):Int)).toNat=(o:Int):=⟨_,(Int.toNat_of_nonneg B.1).symm⟩
 refine .q (aV.cast (v':=.int .u64 ((o:Nat):Int)) .jQ (by rw[C])) ?_
 rw[C]at B
 refine .q (aV.cast (v':=.int .i64 ((o:Nat):Int)) .dT (by rw[kP (by omega) (by omega)])) ?_
 refine .ag rfl<|.zs ?_
 refine bk.cut (X:=Nat) (λp=>p<n) (λp=>[(0,v),(1,iN a),(8,iN n),(9,pT e),(10,.int .u64 (j:Nat)),(11,iN i),(12,iN p)]) (λ_=>[bl e [.int .u64 l] 508,F]) ?_ ?_
 refine .sr<|.mo rfl<|.mo rfl<|.q .geq<|.zn ?_
 refine .cond rfl (λm=>?_) λm=>?_
 have K:n<=o:=by have:=bp m;omega
 refine .region<|.mo rfl<|.mo rfl ?_
 refine .ia (o-n) .sub ?_
 refine .ag rfl<|.nil ?_
 ·first
   |exact ax (o-n) (by omega) kE.c.c.c.c.c.c.c rH
   |exact ax o (by omega) kE.c.c.c.c.c.c.c rH
 have K:o<n:=by have:=bc m;omega
 refine .skip ?_
 ·first
   |exact ax (o-n) (by omega) kE.c.c.c.c.c.c.c rH
   |exact ax o (by omega) kE.c.c.c.c.c.c.c rH
 intro y M
 have a3:y<n:=M
 obtain⟨p,rfl⟩:∃p,p=y:=⟨_,rfl⟩
 obtain⟨x,g⟩:∃x,ys[i]? =some x:=⟨_,aE (by omega)⟩
 obtain⟨w,f⟩:∃x,ys[a+p]? =some x:=⟨_,aE (by omega)⟩
 refine aI<|.bN [17,19] mixed ?_
 refine .tO 0 rfl .move<|.tO 1 rfl .move<|.tK 2 rfl .move<|.tK 3 rfl .move<|.tK 4 rfl .move ?_
 refine .take 5 rfl (.i64 ((a+p:Nat):Int) .add ⟨by omega,by omega,by omega⟩) (by kernel_rfl) ?_
 refine .tO 6 rfl .move<|.tO 7 rfl .move<|.tO 8 rfl .move ?_
 refine .cA 9 rfl (.i64 ((a+p:Nat):Int) .add ⟨by omega,by omega,by omega⟩) (by kernel_rfl) ?_
 refine RA.ar 10 rfl (a+p) d f rfl rfl rfl (by kernel_rfl) (λa4=>?_)
 refine .tO 11 rfl (.aD rfl)<|.tO 12 rfl .move<|.tO 13 rfl .move ?_
 refine RA.ar 14 rfl (i) d g rfl rfl rfl (by kernel_rfl) (λa5=>?_)
 refine .tO 15 rfl (.aD rfl) ?_
 refine RA.ar 16 rfl (i) d g rfl rfl rfl (by kernel_rfl) (λa6=>?_)
 refine .sT 17 rfl ?_
 refine .bh (i) d g w (λQ L=>?_) (d.one _ (aG f))
 refine .nil (Next.mod rfl ?_)
 refine RA.ar 18 rfl (a+p) d f rfl rfl rfl (by kernel_rfl) (λa7=>?_)
 refine .sT 19 rfl ?_
 obtain⟨zz,N⟩:∃u,(ys.set (i) w)[a+p]? =some u:=⟨_,aE (by rw[acT];exact(acU.1 f).1)⟩
 refine .bh (a+p) L N x (λG E=>?_) (d.one _ (aG g))
 rw[<-bP g f]at E
 refine .nil (Next.mod rfl ?_)
 refine RA.nil (by kernel_rfl) ?_
 refine bg<|aI<|.region<|.mo rfl ?_
 refine .ia (i+1) .add ?_
 refine .ag rfl<|.nil ?_
 ·exact aS (i+1,l,bi ys i (a+p),G) ⟨⟨by simp only;omega,by simp only;omega⟩,E,k.step (by omega) (by omega) (by omega) (by omega) (by omega)⟩ (by simp only;omega) kE.c.c.c.c.c.c rH
 refine .exit<|aT<|aW<|aU<|cz _ .none (cw [1]) ?_
 ·exact⟨_,rfl,rfl,ys,d,k⟩
 refine .skip<|cz _ .none rH ?_
 ·exact⟨_,rfl,rfl,xs,h,.refl _⟩
end
end SRW
namespace SRW
section
variable{c:aM->aM->Int}{ok:aM->Prop}{f:FuncId}{caps:List Value} [e:aL prog f]
theorem hU(v:Value)(xs:List aM)(T:ay)(a b:Nat)(R:aC)(h:OS 152 9 aM.enc v xs T)(b5:a<b)(V:b<=xs.length)(hl:xs.length<=1000000000)(hf:bR prog f caps R (λt:aM=>Value.agg t.enc.toArray) c ok)(W:∀x∈xs,ok x)(so:SO (ap c))(c4:LB (ap c) xs a b):
  Spec prog 358 [v,.int .i64 a,.int .i64 b,.func (.func f) #[] caps.toArray] R [T] λu H'=>∃T',H'=[T']/\∃ys m,u=.bool m/\OS 152 9 aM.enc v ys T'/\RP a b xs ys/\(m=true->SR (ap c) ys a b):=by
 have iv:=h.aF
 refine Spec.body func358 rfl results358 ntmps358 rfl ?_
 refine .sr<|.ag rfl<|.z<|.mo rfl ?_
 refine .ia (a+1) .add ?_
 refine .ag rfl<|.zs<|.sr<|.az rfl<|.block ?_
 refine .loop (X:=Nat×Nat×List aM×ay) (λy=>(y.1<=5/\a+1<=y.2.1/\y.2.1<=b)/\OS 152 9 aM.enc v y.2.2.1 y.2.2.2/\RP a b xs y.2.2.1/\SR (ap c) y.2.2.1 a y.2.1) (λy=>[(0,v),(1,iN a),(2,iN b),(3,.func (.func f) #[] caps.toArray),(9,iN y.2.1),(10,iN y.1)]) (λy=>[y.2.2.2]) (λy=>5-y.1) (0,a+1,xs,T) ⟨⟨by omega,acS _,b5⟩,h,.refl _,λi j S U M=>by simp only at M;omega⟩ kE.c.c.c.c.c.c rH ?_
 rintro⟨n,i,ys,T1⟩ ⟨⟨hn,I,J⟩,B,N,E⟩
 simp only at hn I J B N E⊢
 have c8:=N.length
 refine .seq<|.sr<|.mo rfl<|.q .lss<|.zn ?_
 refine .cond rfl (λS=>?_) λS=>?_
 have d1:n<5:=cO S
 refine .kn<|.seq<|.block<|.seq ?_
 refine bk.cut (X:=Nat) (λi=>(a+1<=i/\i<=b)/\SR (ap c) ys a i) (λi=>[(0,v),(1,iN a),(2,iN b),(3,.func (.func f) #[] caps.toArray),(9,iN i),(10,iN n)]) (λ_=>[T1]) ?_ ?_
 refine .block ?_
 refine .loop (X:=Nat) (λi=>(a+1<=i/\i<=b)/\SR (ap c) ys a i) (λi=>[(0,v),(1,iN a),(2,iN b),(3,.func (.func f) #[] caps.toArray),(9,iN i),(10,iN n)]) (λ_=>[T1]) (λi=>b-i) i ⟨⟨I,J⟩,E⟩ kE.c.c.c.c.c.c rH ?_
 clear I J E
 rintro i ⟨⟨I,J⟩,E⟩
 refine .seq<|.seq ?_
 refine .bO 14 mixed (by kernel_rfl) ?_
 conv=>arg 6;dsimp only[List.take]
 refine .mo rfl<|.mo rfl<|.q .lss<|.mo rfl ?_
 refine .split (t:=22) rfl (λe=>?_) (λe=>?_)
 have c3:i<b:=by have:=bp e;omega
 obtain⟨x,F⟩:∃x,ys[i]? =some x:=⟨_,aE (by omega)⟩
 obtain⟨y,D⟩:∃x,ys[i-1]? =some x:=⟨_,aE (by omega)⟩
 have c6:=W x (N.perm.mem_iff.1 (aG F))
 have c7:=W y (N.perm.mem_iff.1 (aG D))
 refine .gT e<|.mo rfl<|.gT e<|.mo rfl<|.gT e<|.mo rfl<|.gT e ?_
 refine .ar i B F (λe1=>?_)
 refine .gT e<|.q (.aD rfl)<|.gT e<|.mo rfl<|.gT e<|.mo rfl<|.gT e ?_
 refine .ia (i-1) .sub ?_
 refine .gT e ?_
 refine .ar (i-1) B D (λe2=>?_)
 refine .gT e<|.q (.aD rfl)<|.nil<|.gT e ?_
 refine .bV (first:=[]) (captured:=caps) (vs:=[(λt:aM=>Value.agg t.enc.toArray) x,(λt:aM=>Value.agg t.enc.toArray) y]) (hf x y c6 c7 _ (λb o V=>.inl V)) (λu H=>?_)
 subst H
 refine .gT e<|.q .lss<|.gT e<|.q .not<|.q (.bX e) ?_
 refine .zn ?_
 refine .cond rfl (λU=>?_) λU=>?_
 refine .kn<|.block<|.region<|.mo rfl ?_
 refine .ia (i+1) .add ?_
 refine .ag rfl<|.nil<|bg ?_
 ·have c5:ap c x y=false:=by
   have b8:(!ap c x y)=true:=U
   simpa using b8
  exact aS (i+1) ⟨⟨by omega,by omega⟩,E.snoc so (by omega) (by omega) λu w H hw=>by
   rw[D]at H;rw[F]at hw;cases H;cases hw;exact c5⟩ (by omega) kE.c.c.c.c.c.c rH
 refine .exit<|aT<|aW<|aU ?_
 exact ax i ⟨⟨I,J⟩,E⟩ kE.c.c.c.c.c.c rH
 refine .gF e<|.gF e<|.gF e<|.gF e<|.gF e<|.gF e<|.gF e<|.gF e<|.gF e<|.gF e<|.nil<|.gF e<|.gF e<|.gF e<|.q (.bU e) ?_
 refine .zn<|.bB<|.exit<|aT<|aW<|aU ?_
 exact ax i ⟨⟨I,J⟩,E⟩ kE.c.c.c.c.c.c rH
 intro x F
 obtain⟨d,b6⟩:∃d,d=x:=⟨_,rfl⟩
 rw[<-b6]at F⊢
 clear b6 x I J E
 obtain⟨⟨I,J⟩,E⟩:=F
 refine aI<|.seq<|.sr<|.mo rfl<|.mo rfl<|.q .cL<|.zn ?_
 refine .cond rfl (λM=>?_) λM=>?_
 refine .sr<|.az rfl ?_
 refine .ret (bq (bu (bq (cH (bu (bq (bb _ (.one (.tmp rfl)) rH ?_)))))))
 ·have c2:d=b:=by
   have b9:((d:Int)=b):=by simpa using M
   omega
  exact⟨_,rfl,ys,true,rfl,B,N,λ_=>c2▸E⟩
 have c3:d<b:=by
  have b9:¬((d:Int)=b):=by simpa using M
  omega
 obtain⟨x,F⟩:∃x,ys[d]? =some x:=⟨_,aE (by omega)⟩
 obtain⟨y,D⟩:∃x,ys[d-1]? =some x:=⟨_,aE (by omega)⟩
 refine .kn<|.seq<|.sr<|.mo rfl<|.mo rfl ?_
 refine .ia (b-a) .sub ?_
 refine .q .lss<|.zn ?_
 refine .cond rfl (λh4=>?_) λh4=>?_
 refine .sr<|.az rfl ?_
 refine .ret (bq (bu (bq (cH (bu (bq (bb _ (.one (.tmp rfl)) rH ?_)))))))
 ·exact⟨_,rfl,ys,false,rfl,B,N,λh=>by cases h⟩
 refine .kn<|.seq<|.bN [15,17] mixed ?_
 refine .tO 0 rfl .move<|.tO 1 rfl .move<|.tK 2 rfl .move<|.tK 3 rfl .move ?_
 refine .take 4 rfl (.i64 ((d-1:Nat):Int) .sub ⟨by omega,by omega,by omega⟩) (by kernel_rfl) ?_
 refine .tO 5 rfl .move<|.tO 6 rfl .move ?_
 refine .cA 7 rfl (.i64 ((d-1:Nat):Int) .sub ⟨by omega,by omega,by omega⟩) (by kernel_rfl) ?_
 refine RA.ar 8 rfl (d-1) B D rfl rfl rfl (by kernel_rfl) (λe3=>?_)
 refine .tO 9 rfl (.aD rfl)<|.tO 10 rfl .move<|.tO 11 rfl .move ?_
 refine RA.ar 12 rfl (d) B F rfl rfl rfl (by kernel_rfl) (λe4=>?_)
 refine .tO 13 rfl (.aD rfl) ?_
 refine RA.ar 14 rfl (d) B F rfl rfl rfl (by kernel_rfl) (λe5=>?_)
 refine .sT 15 rfl ?_
 refine .bh (d) B F y (λb1 a0=>?_) (B.one _ (aG D))
 refine .nil (Next.mod rfl ?_)
 refine RA.ar 16 rfl (d-1) B D rfl rfl rfl (by kernel_rfl) (λe6=>?_)
 refine .sT 17 rfl ?_
 obtain⟨zz,a1⟩:∃u,(ys.set (d) y)[d-1]? =some u:=⟨_,aE (by rw[acT];exact(acU.1 D).1)⟩
 refine .bh (d-1) a0 a1 x (λL G=>?_) (B.one _ (aG F))
 rw[<-bP F D]at G
 refine .nil (Next.mod rfl ?_)
 refine RA.nil (by kernel_rfl) ?_
 have a3:=N.step (i:=d) (j:=d-1) (by omega) (by omega) (by omega) (by omega) (by omega)
 have c0:=E.kJ (by omega)
 clear E
 refine aI<|.seq ?_
 refine bk.cut (X:=List aM×ay) (λz=>OS 152 9 aM.enc v z.1 z.2/\RP a b xs z.1/\SR (ap c) z.1 a d) (λ_=>[(0,v),(1,iN a),(2,iN b),(3,.func (.func f) #[] caps.toArray),(9,iN d),(10,iN n)]) (λz=>[z.2]) ?_ ?_
 refine .sr<|.mo rfl<|.mo rfl ?_
 refine .ia (d-a) .sub ?_
 refine .q .geq<|.zn ?_
 refine .cond rfl (λh5=>?_) λh5=>?_
 refine .sr<|.mo rfl ?_
 refine .ia (d-1) .sub ?_
 refine .az rfl<|.block ?_
 refine .loop (X:=Nat×List aM×ay) (λz=>(a<=z.1/\z.1<=d-1)/\OS 152 9 aM.enc v z.2.1 z.2.2/\RP a b xs z.2.1/\eP (ap c) z.2.1 a z.1 d) (λz=>[(0,v),(1,iN a),(2,iN b),(3,.func (.func f) #[] caps.toArray),(9,iN d),(10,iN n),(11,iN z.1)]) (λz=>[z.2.2]) (λz=>z.1) (d-1,bi ys d (d-1),L) ⟨⟨by simp only;omega,acS _⟩,G,a3,c0⟩ kE.c.c.c.c.c.c.c rH ?_
 rintro⟨q,A,K⟩ ⟨⟨a7,a8⟩,g,r,a2⟩
 simp only at a7 a8 g r a2⊢
 have c9:=r.length
 refine .seq<|.sr<|.mo rfl<|.q .geq<|.zn ?_
 refine .cond rfl (λh6=>?_) λh6=>?_
 have d2:1<=q:=by have:=bp h6;omega
 obtain⟨s,k⟩:∃x,A[q]? =some x:=⟨_,aE (by omega)⟩
 obtain⟨t,l⟩:∃x,A[q-1]? =some x:=⟨_,aE (by omega)⟩
 have a9:=W s (r.perm.mem_iff.1 (aG k))
 have b0:=W t (r.perm.mem_iff.1 (aG l))
 refine .kn<|.seq<|.block<|.seq<|.seq ?_
 refine .bO 10 mixed (by kernel_rfl) ?_
 conv=>arg 6;dsimp only[List.take]
 refine .mo rfl<|.mo rfl<|.mo rfl ?_
 refine .ar q g k (λe7=>?_)
 refine .q (.aD rfl)<|.mo rfl<|.mo rfl ?_
 refine .ia (q-1) .sub ?_
 refine .ar (q-1) g l (λe8=>?_)
 refine .q (.aD rfl)<|.nil ?_
 refine .bV (first:=[]) (captured:=caps) (vs:=[(λt:aM=>Value.agg t.enc.toArray) s,(λt:aM=>Value.agg t.enc.toArray) t]) (hf s t a9 b0 _ (λb o V=>.inl V)) (λu H=>?_)
 subst H
 refine .q .lss<|.q .not<|.zn ?_
 refine .cond rfl (λh7=>?_) λh7=>?_
 have a4:SR (ap c) A a d:=a2.done so (by omega) (by omega) (by
  have a5:(!ap c s t)=true:=h7
  rcases acX a q with hh|hh
  ·exact .inr ⟨hh,λu w H hw=>by rw[l]at H;rw[k]at hw;cases H;cases hw;simpa using a5⟩
  ·exact .inl (by omega))
 refine .exit (aT (du (aT (aW (aU ?_)))))
 ·first
   |exact ax (A,K) ⟨g,r,a4⟩ kE.c.c.c.c.c.c rH
   |exact ax (bi ys d (d-1),L) ⟨G,a3,λp q S U M=>by have:=bc h5;omega⟩ kE.c.c.c.c.c.c rH
 have a6:ap c s t=true:=by
  have a5:(!ap c s t)=false:=h7
  simpa using a5
 have c1:a<q:=by
  rcases acX a q with hh|hh
  ·exact hh
  ·have ea:q=a:=by omega
   subst ea
   have:=(c4.rp r) (by omega) q (acS _) b5 t s l k
   rw[this]at a6;cases a6
 refine .kn<|.bN [15,17] mixed ?_
 refine .tO 0 rfl .move<|.tO 1 rfl .move<|.tK 2 rfl .move<|.tK 3 rfl .move ?_
 refine .take 4 rfl (.i64 ((q-1:Nat):Int) .sub ⟨by omega,by omega,by omega⟩) (by kernel_rfl) ?_
 refine .tO 5 rfl .move<|.tO 6 rfl .move ?_
 refine .cA 7 rfl (.i64 ((q-1:Nat):Int) .sub ⟨by omega,by omega,by omega⟩) (by kernel_rfl) ?_
 refine RA.ar 8 rfl (q-1) g l rfl rfl rfl (by kernel_rfl) (λe9=>?_)
 refine .tO 9 rfl (.aD rfl)<|.tO 10 rfl .move<|.tO 11 rfl .move ?_
 refine RA.ar 12 rfl (q) g k rfl rfl rfl (by kernel_rfl) (λf0=>?_)
 refine .tO 13 rfl (.aD rfl) ?_
 refine RA.ar 14 rfl (q) g k rfl rfl rfl (by kernel_rfl) (λf1=>?_)
 refine .sT 15 rfl ?_
 refine .bh (q) g k t (λb1 a0=>?_) (g.one _ (aG l))
 refine .nil (Next.mod rfl ?_)
 refine RA.ar 16 rfl (q-1) g l rfl rfl rfl (by kernel_rfl) (λd4=>?_)
 refine .sT 17 rfl ?_
 obtain⟨zz,a1⟩:∃u,(A.set (q) t)[q-1]? =some u:=⟨_,aE (by rw[acT];exact(acU.1 l).1)⟩
 refine .bh (q-1) a0 a1 s (λL G=>?_) (g.one _ (aG k))
 rw[<-bP k l]at G
 refine .nil (Next.mod rfl ?_)
 refine RA.nil (by kernel_rfl) ?_
 refine bg<|aI<|.region<|.mo rfl ?_
 refine .ia (q-1) .sub ?_
 refine .ag rfl<|.nil ?_
 ·exact aS (q-1,bi A q (q-1),L) ⟨⟨by simp only;omega,by simp only;omega⟩,G,r.step (by omega) (by omega) (by omega) (by omega) (by omega),a2.step so (by omega) (by omega) c1 k l a6⟩ (by simp only;omega) kE.c.c.c.c.c.c.c rH
 have a4:SR (ap c) A a d:=a2.done so (by omega) (by omega) (.inl (by have:=bc h6;omega))
 refine .exit<|aT<|aW<|aU ?_
 ·first
   |exact ax (A,K) ⟨g,r,a4⟩ kE.c.c.c.c.c.c rH
   |exact ax (bi ys d (d-1),L) ⟨G,a3,λp q S U M=>by have:=bc h5;omega⟩ kE.c.c.c.c.c.c rH
 refine .skip ?_
 ·first
   |exact ax (A,K) ⟨g,r,a4⟩ kE.c.c.c.c.c.c rH
   |exact ax (bi ys d (d-1),L) ⟨G,a3,λp q S U M=>by have:=bc h5;omega⟩ kE.c.c.c.c.c.c rH
 intro y D
 obtain⟨A,K⟩:=y
 obtain⟨g,r,Y⟩:=D
 simp only at g r Y⊢
 refine aI ?_
 refine bk.cut (X:=List aM×ay) (λz=>OS 152 9 aM.enc v z.1 z.2/\RP a b xs z.1/\SR (ap c) z.1 a d) (λ_=>[(0,v),(1,iN a),(2,iN b),(3,.func (.func f) #[] caps.toArray),(9,iN d),(10,iN n)]) (λz=>[z.2]) ?_ ?_
 refine .sr<|.mo rfl<|.mo rfl ?_
 refine .ia (b-d) .sub ?_
 refine .q .geq<|.zn ?_
 refine .cond rfl (λh8=>?_) λh8=>?_
 refine .sr<|.mo rfl ?_
 refine .ia (d+1) .add ?_
 refine .az rfl<|.block ?_
 refine .loop (X:=Nat×List aM×ay) (λz=>(d+1<=z.1/\z.1<=b)/\OS 152 9 aM.enc v z.2.1 z.2.2/\RP a b xs z.2.1/\SR (ap c) z.2.1 a d) (λz=>[(0,v),(1,iN a),(2,iN b),(3,.func (.func f) #[] caps.toArray),(9,iN d),(10,iN n),(12,iN z.1)]) (λz=>[z.2.2]) (λz=>b-z.1) (d+1,A,K) ⟨⟨acS _,by simp only;omega⟩,g,r,Y⟩ kE.c.c.c.c.c.c.c rH ?_
 rintro⟨q,Q,T4⟩ ⟨⟨a7,a8⟩,C,O,Z⟩
 simp only at a7 a8 C O Z⊢
 have d0:=O.length
 refine .seq<|.sr<|.mo rfl<|.mo rfl<|.q .lss<|.zn ?_
 refine .cond rfl (λh9=>?_) λh9=>?_
 have d3:q<b:=cO h9
 obtain⟨s,k⟩:∃x,Q[q]? =some x:=⟨_,aE (by omega)⟩
 obtain⟨t,l⟩:∃x,Q[q-1]? =some x:=⟨_,aE (by omega)⟩
 have a9:=W s (O.perm.mem_iff.1 (aG k))
 have b0:=W t (O.perm.mem_iff.1 (aG l))
 refine .kn<|.seq<|.block<|.seq<|.seq ?_
 refine .bO 10 mixed (by kernel_rfl) ?_
 conv=>arg 6;dsimp only[List.take]
 refine .mo rfl<|.mo rfl<|.mo rfl ?_
 refine .ar q C k (λd5=>?_)
 refine .q (.aD rfl)<|.mo rfl<|.mo rfl ?_
 refine .ia (q-1) .sub ?_
 refine .ar (q-1) C l (λd6=>?_)
 refine .q (.aD rfl)<|.nil ?_
 refine .bV (first:=[]) (captured:=caps) (vs:=[(λt:aM=>Value.agg t.enc.toArray) s,(λt:aM=>Value.agg t.enc.toArray) t]) (hf s t a9 b0 _ (λb o V=>.inl V)) (λu H=>?_)
 subst H
 refine .q .lss<|.q .not<|.zn ?_
 refine .cond rfl (λb7=>?_) λb7=>?_
 refine .exit (aT (du (aT (aW (aU ?_)))))
 ·first
   |exact ax (Q,T4) ⟨C,O,Z⟩ kE.c.c.c.c.c.c rH
   |exact ax (A,K) ⟨g,r,Y⟩ kE.c.c.c.c.c.c rH
 refine .kn<|.bN [15,17] mixed ?_
 refine .tO 0 rfl .move<|.tO 1 rfl .move<|.tK 2 rfl .move<|.tK 3 rfl .move ?_
 refine .take 4 rfl (.i64 ((q-1:Nat):Int) .sub ⟨by omega,by omega,by omega⟩) (by kernel_rfl) ?_
 refine .tO 5 rfl .move<|.tO 6 rfl .move ?_
 refine .cA 7 rfl (.i64 ((q-1:Nat):Int) .sub ⟨by omega,by omega,by omega⟩) (by kernel_rfl) ?_
 refine RA.ar 8 rfl (q-1) C l rfl rfl rfl (by kernel_rfl) (λd7=>?_)
 refine .tO 9 rfl (.aD rfl)<|.tO 10 rfl .move<|.tO 11 rfl .move ?_
 refine RA.ar 12 rfl (q) C k rfl rfl rfl (by kernel_rfl) (λd8=>?_)
 refine .tO 13 rfl (.aD rfl) ?_
 refine RA.ar 14 rfl (q) C k rfl rfl rfl (by kernel_rfl) (λd9=>?_)
 refine .sT 15 rfl ?_
 refine .bh (q) C k t (λb1 a0=>?_) (C.one _ (aG l))
 refine .nil (Next.mod rfl ?_)
 refine RA.ar 16 rfl (q-1) C l rfl rfl rfl (by kernel_rfl) (λe0=>?_)
 refine .sT 17 rfl ?_
 obtain⟨zz,a1⟩:∃u,(Q.set (q) t)[q-1]? =some u:=⟨_,aE (by rw[acT];exact(acU.1 l).1)⟩
 refine .bh (q-1) a0 a1 s (λL G=>?_) (C.one _ (aG k))
 rw[<-bP k l]at G
 refine .nil (Next.mod rfl ?_)
 refine RA.nil (by kernel_rfl) ?_
 refine bg<|aI<|.region<|.mo rfl ?_
 refine .ia (q+1) .add ?_
 refine .ag rfl<|.nil ?_
 ·exact aS (q+1,bi Q q (q-1),L) ⟨⟨by simp only;omega,by simp only;omega⟩,G,O.step (by omega) (by omega) (by omega) (by omega) (by omega),Z.kK (by omega) (by omega) (by omega) (by omega)⟩ (by simp only;omega) kE.c.c.c.c.c.c.c rH
 refine .exit<|aT<|aW<|aU ?_
 ·first
   |exact ax (Q,T4) ⟨C,O,Z⟩ kE.c.c.c.c.c.c rH
   |exact ax (A,K) ⟨g,r,Y⟩ kE.c.c.c.c.c.c rH
 refine .skip ?_
 ·first
   |exact ax (Q,T4) ⟨C,O,Z⟩ kE.c.c.c.c.c.c rH
   |exact ax (A,K) ⟨g,r,Y⟩ kE.c.c.c.c.c.c rH
 intro y D
 obtain⟨us,T5⟩:=y
 obtain⟨b2,b3,b4⟩:=D
 simp only at b2 b3 b4⊢
 refine bg<|aI<|.region<|.mo rfl ?_
 refine .ia (n+1) .add ?_
 refine .ag rfl<|.nil ?_
 ·exact aS (n+1,d,us,T5) ⟨⟨by simp only;omega,I,J⟩,b2,b3,b4⟩ (by simp only;omega) kE.c.c.c.c.c.c rH
 refine .exit<|aT<|aW<|aU<|aI<|.sr<|.az rfl ?_
 refine .ret (bb _ (.one (.tmp rfl)) rH ?_)
 ·exact⟨_,rfl,ys,false,rfl,B,N,λh=>by cases h⟩
end
end SRW
namespace SRW
section
variable{c:aM->aM->Int}{ok:aM->Prop}{f:FuncId}{caps:List Value} [e:aL prog f]
theorem eE(v:Value)(xs:List aM)(a b lo d g:Nat)(s:Int)(R:aC)(h:RS R 9 aM.enc v xs)(i:lo<=a/\a<d)(e:lo<=b/\b<d)(B:d<=xs.length)(n:bR prog f caps R (λt:aM=>Value.agg t.enc.toArray) c ok)(j:∀x∈xs,ok x):
  Spec prog 451 [v,.int .i64 a,.int .i64 b,pT g,.func (.func f) #[] caps.toArray] R [bl g [.int .i64 s] 3] λu H'=>∃T',H'=[T']/\∃(s':Int) (p q:Nat),u=.tuple [.int .i64 p,.int .i64 q].toArray/\T'=(bl g [.int .i64 s'] 3)/\(lo<=p/\p<d)/\(lo<=q/\q<d):=by
 have C:=h.aF
 obtain⟨x,k⟩:∃x,xs[b]? =some x:=⟨_,aE (by omega)⟩
 obtain⟨y,l⟩:∃x,xs[a]? =some x:=⟨_,aE (by omega)⟩
 have w:=j x (aG k)
 have A:=j y (aG l)
 refine Spec.body func451 rfl results451 ntmps451 rfl ?_
 refine .sr<|.ag rfl<|.ag rfl<|.zs<|.seq ?_
 refine .bO 9 mixed (by kernel_rfl) ?_
 conv=>arg 6;dsimp only[List.take]
 refine .mo rfl<|.mo rfl<|.mo rfl ?_
 refine .dm b h k (λD=>?_)
 refine .q (.aD rfl)<|.mo rfl<|.mo rfl ?_
 refine .dm a h l (λE=>?_)
 refine .q (.aD rfl)<|.nil ?_
 refine .bV (first:=[]) (captured:=caps) (vs:=[(λt:aM=>Value.agg t.enc.toArray) x,(λt:aM=>Value.agg t.enc.toArray) y]) (n x y w A _ (λb o e=>.inl e)) (λu r=>?_)
 subst r
 refine .q .lss<|.zn ?_
 refine .cond rfl (λm=>?_) λm=>?_
 refine .sr<|.mo rfl<|.nc rfl<|.lo rfl<|.q .add ?_
 refine .nc rfl<|.cC rfl rfl<|.z<|.mo rfl<|.mo rfl<|.ag rfl<|.az rfl ?_
 refine .ret (bq (bb _ (.two (.tmp rfl) (.tmp rfl)) rH ?_))
 ·exact⟨_,rfl,_,b,a,rfl,rfl,e,i⟩
 refine .kn<|.sr<|.mo rfl<|.mo rfl<|.ag rfl<|.az rfl ?_
 refine .ret (bb _ (.two (.tmp rfl) (.tmp rfl)) rH ?_)
 ·exact⟨_,rfl,_,a,b,rfl,rfl,i,e⟩
theorem fw(v:Value)(xs:List aM)(a b d lo e g:Nat)(s:Int)(R:aC)(h:RS R 9 aM.enc v xs)(m:lo<=a/\a<e)(n:lo<=b/\b<e)(o:lo<=d/\d<e)(k:e<=xs.length)(j:bR prog f caps R (λt:aM=>Value.agg t.enc.toArray) c ok)(l:∀x∈xs,ok x):
  Spec prog 423 [v,.int .i64 a,.int .i64 b,.int .i64 d,pT g,.func (.func f) #[] caps.toArray] R [bl g [.int .i64 s] 3] λu H'=>∃T',H'=[T']/\∃(s':Int) (p:Nat),u=.int .i64 p/\T'=(bl g [.int .i64 s'] 3)/\(lo<=p/\p<e):=by
 have N:=h.aF
 refine Spec.body func423 rfl results423 ntmps423 rfl ?_
 refine .sr<|.ag rfl<|.z<|.mo rfl<|.mo rfl<|.mo rfl<|.mo rfl<|.mo rfl ?_
 refine .aQ (eE v xs a b lo e g s _ h m n k j l) (λu I i=>?_)
 obtain⟨F,B,D,rfl,rfl,r,y⟩:=i
 refine .mo rfl<|.q .extract<|.q .extract<|.ag rfl<|.ag rfl<|.z<|.mo rfl<|.mo rfl<|.mo rfl<|.mo rfl<|.mo rfl ?_
 refine .aQ (eE v xs D d lo e g F _ h y o k j l) (λu J i=>?_)
 obtain⟨G,C,Q,rfl,rfl,w,M⟩:=i
 refine .mo rfl<|.q .extract<|.q .extract<|.ag rfl<|.ag rfl<|.z<|.mo rfl<|.mo rfl<|.mo rfl<|.mo rfl<|.mo rfl ?_
 refine .aQ (eE v xs B C lo e g G _ h r w k j l) (λu K i=>?_)
 obtain⟨H,O,E,rfl,rfl,L,A⟩:=i
 refine .mo rfl<|.q .extract<|.q .extract<|.ag rfl<|.ag rfl<|.z<|.mo rfl<|.az rfl ?_
 refine .ret (bb _ (.one (.tmp rfl)) rH ?_)
 ·exact⟨_,rfl,H,E,rfl,rfl,A⟩
theorem eC(v:Value)(xs:List aM)(a lo d b:Nat)(s:Int)(R:aC)(h:RS R 9 aM.enc v xs)(o:lo+1<=a/\a+1<d)(g:d<=xs.length)(q:xs.length<=1000000000)(e:bR prog f caps R (λt:aM=>Value.agg t.enc.toArray) c ok)(i:∀x∈xs,ok x):
  Spec prog 422 [v,.int .i64 a,pT b,.func (.func f) #[] caps.toArray] R [bl b [.int .i64 s] 3] λu H'=>∃T',H'=[T']/\∃(s':Int) (p:Nat),u=.int .i64 p/\T'=(bl b [.int .i64 s'] 3)/\(lo<=p/\p<d):=by
 have r:=h.aF
 refine Spec.body func422 rfl results422 ntmps422 rfl ?_
 refine .sr<|.ag rfl<|.z<|.mo rfl<|.mo rfl ?_
 refine .ia (a-1) .sub ?_
 refine .mo rfl<|.mo rfl ?_
 refine .ia (a+1) .add ?_
 refine .mo rfl<|.mo rfl ?_
 refine .aQ (fw v xs (a-1) a (a+1) lo d b s _ h (by omega) (by omega) (by omega) g e i) (λu n k=>?_)
 obtain⟨m,l,rfl,rfl,j⟩:=k
 refine .az rfl ?_
 refine .ret (bb _ (.one (.tmp rfl)) rH ?_)
 ·exact⟨_,rfl,m,l,rfl,rfl,j⟩
theorem choose_spec(v:Value)(xs:List aM)(a b:Nat)(R:aC)(h:RS R 9 aM.enc v xs)(Y:a<b)(l:b<=xs.length)(w:xs.length<=1000000000)(m:bR prog f caps R (λt:aM=>Value.agg t.enc.toArray) c ok)(o:∀x∈xs,ok x):
  Spec prog 356 [v,.int .i64 a,.int .i64 b,.func (.func f) #[] caps.toArray] R [] λu H'=>(∃(p:Nat) (t:Int),u=.tuple [.int .i64 p,.int .i64 t].toArray/\a<=p/\p<b)/\H'=[]:=by
 have iv:=h.aF
 obtain⟨n,U⟩:∃n,b=a+n:=⟨b-a,by omega⟩
 subst U
 obtain⟨q,A⟩:∃q,q=n/4:=⟨_,rfl⟩
 refine Spec.body func356 rfl results356 ntmps356 rfl ?_
 refine .sr<|.ag rfl<|.ag rfl<|.z<|.mo rfl<|.mo rfl ?_
 refine .ia (n) .sub ?_
 refine .ag rfl<|.z ?_
 refine .gz (λe=>?_)
 refine .z<|.mo rfl<|.mo rfl ?_
 refine .q (.i64 ((q:Nat):Int) .quo ⟨by rw[A,acV (by omega)];omega,by omega,by omega⟩) ?_
 refine .ia (q) .mul ?_
 refine .ia (a+q) .add ?_
 refine .ag rfl<|.z<|.mo rfl<|.mo rfl ?_
 refine .q (.i64 ((q:Nat):Int) .quo ⟨by rw[A,acV (by omega)];omega,by omega,by omega⟩) ?_
 refine .ia (q*2) .mul ?_
 refine .ia (a+q*2) .add ?_
 refine .ag rfl<|.z<|.mo rfl<|.mo rfl ?_
 refine .q (.i64 ((q:Nat):Int) .quo ⟨by rw[A,acV (by omega)];omega,by omega,by omega⟩) ?_
 refine .ia (q*3) .mul ?_
 refine .ia (a+q*3) .add ?_
 refine .ag rfl<|.zs ?_
 refine bk.cut (X:=Nat×Int) (λz=>a<=z.1/\z.1<a+n) (λz=>[(11,pT e),(13,iN z.1)]) (λz=>[bl e [.int .i64 z.2] 3]) ?_ ?_
 refine .sr<|.mo rfl<|.q .geq<|.zn ?_
 refine .cond rfl (λB=>?_) λB=>?_
 have a0:8<=n:=by have:=bp B;omega
 refine .seq ?_
 refine bk.cut (X:=Nat×Nat×Nat×Int) (λz=>(a<=z.1/\z.1<a+n)/\(a<=z.2.1/\z.2.1<a+n)/\(a<=z.2.2.1/\z.2.2.1<a+n)) (λz=>[(0,v),(3,.func (.func f) #[] caps.toArray),(11,pT e),(12,iN z.1),(13,iN z.2.1),(14,iN z.2.2.1)]) (λz=>[bl e [.int .i64 z.2.2.2] 3]) ?_ ?_
 refine .sr<|.mo rfl<|.q .geq<|.zn ?_
 refine .cond rfl (λC=>?_) λC=>?_
 have Z:50<=n:=by have:=bp C;omega
 refine .sr<|.mo rfl<|.mo rfl<|.mo rfl ?_
 refine .aQ (eC v xs (a+q) a (a+n) e 0 _ h (by omega) l w m o) (λu r g=>?_)
 obtain⟨V,K,rfl,rfl,G⟩:=g
 refine .ag rfl<|.z<|.mo rfl<|.mo rfl<|.mo rfl ?_
 refine .aQ (eC v xs (a+q*2) a (a+n) e V _ h (by omega) l w m o) (λu r g=>?_)
 obtain⟨W,L,rfl,rfl,H⟩:=g
 refine .az rfl<|.region<|.mo rfl<|.mo rfl<|.mo rfl ?_
 refine .aQ (eC v xs (a+q*3) a (a+n) e W _ h (by omega) l w m o) (λu r g=>?_)
 obtain⟨O,M,rfl,rfl,I⟩:=g
 refine .ag rfl<|.nil ?_
 ·first
   |exact ax (K,L,M,O) ⟨G,H,I⟩ kE.c.c.c.c.c.c rH
   |exact ax (a+q,a+q*2,a+q*3,0) ⟨by simp only;omega,by simp only;omega,by simp only;omega⟩ kE.c.c.c.c.c.c rH
 refine .skip ?_
 ·first
   |exact ax (K,L,M,O) ⟨G,H,I⟩ kE.c.c.c.c.c.c rH
   |exact ax (a+q,a+q*2,a+q*3,0) ⟨by simp only;omega,by simp only;omega,by simp only;omega⟩ kE.c.c.c.c.c.c rH
 intro y d
 obtain⟨i,j,k,s⟩:=y
 obtain⟨D,E,F⟩:=d
 simp only at D E F⊢
 refine aI<|.region<|.mo rfl<|.mo rfl<|.mo rfl<|.mo rfl<|.mo rfl ?_
 refine .aQ (fw v xs i j k a (a+n) e s _ h D E F l m o) (λu r g=>?_)
 obtain⟨Q,N,rfl,rfl,J⟩:=g
 refine .ag rfl<|.nil ?_
 ·first
   |exact ax (N,Q) J kE.c.c rH
   |exact ax (a+q*2,0) (by simp only;omega) kE.c.c rH
 refine .skip ?_
 ·first
   |exact ax (N,Q) J kE.c.c rH
   |exact ax (a+q*2,0) (by simp only;omega) kE.c.c rH
 intro y d
 obtain⟨p,s⟩:=y
 simp only at d⊢
 refine aI<|.sr<|.lo rfl<|.zn<|.block<|.sr<|.q .cL<|.az rfl ?_
 refine .cond rfl (λS=>?_) λS=>?_
 refine .sr<|.mo rfl<|.ag rfl<|.az rfl ?_
 refine .ret (bu (bb _ (.two (.tmp rfl) (.tmp rfl)) (.none _) ?_))
 ·exact⟨⟨p,_,rfl,d.1,d.2⟩,rfl⟩
 refine .sr<|.q .cL<|.az rfl ?_
 refine .cond rfl (λT=>?_) λT=>?_
 refine .sr<|.mo rfl<|.ag rfl<|.az rfl ?_
 refine .ret (bu (bb _ (.two (.tmp rfl) (.tmp rfl)) (.none _) ?_))
 ·exact⟨⟨p,_,rfl,d.1,d.2⟩,rfl⟩
 refine .sr<|.mo rfl<|.ag rfl<|.az rfl ?_
 refine .ret (bu (bb _ (.two (.tmp rfl) (.tmp rfl)) (.none _) ?_))
 ·exact⟨⟨p,_,rfl,d.1,d.2⟩,rfl⟩
end
end SRW
namespace SRW
section
variable{c:aM->aM->Int}{ok:aM->Prop}{f:FuncId}{caps:List Value} [e:aL prog f]
theorem hS(v:Value)(xs:List aM)(T:ay)(a b m:Nat)(p:aM)(R:aC)(h:OS 152 9 aM.enc v xs T)(b1:a<b)(hm:a<=m/\m<b)(C:xs[m]? =some p)(U:b<=xs.length)(hl:xs.length<=1000000000)(hf:bR prog f caps R (λt:aM=>Value.agg t.enc.toArray) c ok)(a0:∀x∈xs,ok x)(so:SO (ap c))
  (b7:∀(k:Nat) (x:aM),a<=k->k<b->xs[k]? =some x->ap c x p=false):
  Spec prog 359 [v,.int .i64 a,.int .i64 b,.int .i64 m,.func (.func f) #[] caps.toArray] R [T] λu H'=>∃T',H'=[T']/\∃ys mid,u=iN mid/\OS 152 9 aM.enc v ys T'/\RP a b xs ys/\iM (ap c) ys a mid b p:=by
 have iv:=h.aF
 obtain⟨x0,E⟩:∃x,xs[a]? =some x:=⟨_,aE (by omega)⟩
 have a8:=a0 p (aG C)
 refine Spec.body func359 rfl results359 ntmps359 rfl ?_
 refine .sr<|.ag rfl<|.zs<|.bN [13,15] mixed ?_
 refine .tO 0 rfl .move<|.tO 1 rfl .move<|.tK 2 rfl .move<|.tK 3 rfl .move<|.tO 4 rfl .move<|.tO 5 rfl .move ?_
 refine RA.ar 6 rfl (m) h C rfl rfl rfl (by kernel_rfl) (λd1=>?_)
 refine .tO 7 rfl (.aD rfl)<|.tO 8 rfl .move<|.tO 9 rfl .move ?_
 refine RA.ar 10 rfl (a) h E rfl rfl rfl (by kernel_rfl) (λd2=>?_)
 refine .tO 11 rfl (.aD rfl) ?_
 refine RA.ar 12 rfl (a) h E rfl rfl rfl (by kernel_rfl) (λd3=>?_)
 refine .sT 13 rfl ?_
 refine .bh (a) h E p (λa9 a1=>?_) (h.one _ (aG C))
 refine .nil (Next.mod rfl ?_)
 refine RA.ar 14 rfl (m) h C rfl rfl rfl (by kernel_rfl) (λd4=>?_)
 refine .sT 15 rfl ?_
 obtain⟨zz,a2⟩:∃u,(xs.set (a) p)[m]? =some u:=⟨_,aE (by rw[acT];exact(acU.1 C).1)⟩
 refine .bh (m) a1 a2 x0 (λY K=>?_) (h.one _ (aG E))
 rw[<-bP E C]at K
 refine .nil (Next.mod rfl ?_)
 refine RA.nil (by kernel_rfl) ?_
 have b0:RP a b xs (bi xs a m):=(RP.refl xs).step (by omega) (by omega) (by omega) (by omega) (by omega)
 have b2:(bi xs a m)[a]? =some p:=by
  rw[cR (by omega) (by omega)]
  by_cases hk:a=m
  ·rw[if_pos hk,E, <-C, <-hk,E]
  ·rw[if_neg hk,if_pos rfl,C]
 refine aI<|.sr<|.mo rfl ?_
 refine .ia (a+1) .add ?_
 refine .mo rfl ?_
 refine .ia (b-1) .sub ?_
 refine .ag rfl<|.ag rfl<|.zs<|.block ?_
 refine .loop (X:=Nat×Nat×List aM×ay) (λy=>OS 152 9 aM.enc v y.2.2.1 y.2.2.2/\RP a b xs y.2.2.1/\PQ (λx=> !ap c p x) y.2.2.1 a y.1 y.2.1 b p) (λy=>[(0,v),(1,iN a),(4,.func (.func f) #[] caps.toArray),(11,iN y.1),(12,iN y.2.1)]) (λy=>[y.2.2.2]) (λy=>y.2.1+1-y.1) (a+1,b-1,bi xs a m,Y) ⟨K,b0,.start b1 b2⟩ kE.c.c.c.c.c rH ?_
 rintro⟨i,j,ys,N⟩ ⟨r,D,G⟩
 simp only at r D G⊢
 have d0:=D.length
 have c4:=G.i0
 have c6:=G.ij
 have c8:=G.jb
 have a7:=G.at_
 refine .block<|.seq ?_
 refine bk.cut (X:=Nat) (λs=>i<=s/\PQ (λx=> !ap c p x) ys a s j b p/\∀x,s<=j->ys[s]? =some x->(!ap c p x)=false) (λs=>[(0,v),(1,iN a),(4,.func (.func f) #[] caps.toArray),(11,.int .i64 (s:Nat)),(12,iN j)]) (λ_=>[N]) ?_ ?_
 refine .block ?_
 refine .loop (X:=Nat) (λs=>i<=s/\PQ (λx=> !ap c p x) ys a s j b p) (λs=>[(0,v),(1,iN a),(4,.func (.func f) #[] caps.toArray),(11,.int .i64 (s:Nat)),(12,iN j)]) (λ_=>[N]) (λs=>j+1-s) i ⟨acS _,G⟩ kE.c.c.c.c.c rH ?_
 rintro A ⟨V,I⟩
 refine .seq<|.seq ?_
 refine .bO 13 mixed (by kernel_rfl) ?_
 conv=>arg 6;dsimp only[List.take]
 refine .mo rfl<|.mo rfl<|.q .leq<|.mo rfl ?_
 refine .split (t:=34) rfl (λd=>?_) (λd=>?_)
 have b5:A<=j:=by have:=bp d;omega
 obtain⟨x2,L⟩:∃x,ys[A]? =some x:=⟨_,aE (by omega)⟩
 have c2:=a0 x2 (D.perm.mem_iff.1 (aG L))
 refine .gT d<|.mo rfl<|.gT d<|.mo rfl<|.gT d<|.mo rfl<|.gT d ?_
 refine .ar a r a7 (λd5=>?_)
 refine .gT d<|.q (.aD rfl)<|.gT d<|.mo rfl<|.gT d<|.mo rfl<|.gT d ?_
 refine .ar A r L (λd6=>?_)
 refine .gT d<|.q (.aD rfl)<|.nil<|.gT d ?_
 refine .bV (first:=[]) (captured:=caps) (vs:=[(λt:aM=>Value.agg t.enc.toArray) p,(λt:aM=>Value.agg t.enc.toArray) x2]) (hf p x2 a8 c2 _ (λb o U=>.inl U)) (λu hu=>?_)
 subst hu
 refine .gT d<|.q .lss<|.gT d<|.q .not<|.q (.bX d) ?_
 refine .zn ?_
 refine .cond rfl (λO=>?_) λO=>?_
 refine .kn<|.block<|.region<|.mo rfl ?_
 refine .ia (A+1) .add ?_
 refine .ag rfl<|.nil<|bg ?_
 ·exact aS (A+1) ⟨by omega,I.inc b5 L O⟩ (by omega) kE.c.c.c.c.c rH
 refine .exit<|aT<|aW<|aU ?_
 first
  |exact ax A ⟨V,I,λx g n=>by rw[L]at n;cases n;exact O⟩ kE.c.c.c.c.c rH
  |exact ax A ⟨V,I,λx g n=>by have:=bc d;omega⟩ kE.c.c.c.c.c rH
 refine .gF d<|.gF d<|.gF d<|.gF d<|.gF d<|.gF d<|.gF d<|.gF d<|.gF d<|.nil<|.gF d<|.gF d<|.gF d<|.q (.bU d) ?_
 refine .zn<|.bB<|.exit<|aT<|aW<|aU ?_
 first
  |exact ax A ⟨V,I,λx g n=>by rw[L]at n;cases n;exact O⟩ kE.c.c.c.c.c rH
  |exact ax A ⟨V,I,λx g n=>by have:=bc d;omega⟩ kE.c.c.c.c.c rH
 intro x g
 obtain⟨l,a4⟩:∃l,l=x:=⟨_,rfl⟩
 rw[<-a4]at g⊢
 clear a4 x
 obtain⟨c5,a3,c0⟩:=g
 refine aI<|.seq ?_
 refine bk.cut (X:=Nat) (λw=>w<=j/\PQ (λx=> !ap c p x) ys a l w b p/\∀x,l<=w->ys[w]? =some x->(!ap c p x)=true) (λw=>[(0,v),(1,iN a),(4,.func (.func f) #[] caps.toArray),(11,iN l),(12,.int .i64 (w:Nat))]) (λ_=>[N]) ?_ ?_
 refine .block ?_
 refine .loop (X:=Nat) (λw=>w<=j/\PQ (λx=> !ap c p x) ys a l w b p) (λw=>[(0,v),(1,iN a),(4,.func (.func f) #[] caps.toArray),(11,iN l),(12,.int .i64 (w:Nat))]) (λ_=>[N]) (λw=>w) j ⟨acS _,a3⟩ kE.c.c.c.c.c rH ?_
 rintro B ⟨W,J⟩
 have b4:=a3.i0
 refine .seq<|.seq ?_
 refine .bO 13 mixed (by kernel_rfl) ?_
 conv=>arg 6;dsimp only[List.take]
 refine .mo rfl<|.mo rfl<|.q .leq<|.mo rfl ?_
 refine .split (t:=53) rfl (λe=>?_) (λe=>?_)
 have b6:l<=B:=by have:=bp e;omega
 obtain⟨H,M⟩:∃x,ys[B]? =some x:=⟨_,aE (by omega)⟩
 have c3:=a0 H (D.perm.mem_iff.1 (aG M))
 refine .gT e<|.mo rfl<|.gT e<|.mo rfl<|.gT e<|.mo rfl<|.gT e ?_
 refine .ar a r a7 (λd7=>?_)
 refine .gT e<|.q (.aD rfl)<|.gT e<|.mo rfl<|.gT e<|.mo rfl<|.gT e ?_
 refine .ar B r M (λd8=>?_)
 refine .gT e<|.q (.aD rfl)<|.nil<|.gT e ?_
 refine .bV (first:=[]) (captured:=caps) (vs:=[(λt:aM=>Value.agg t.enc.toArray) p,(λt:aM=>Value.agg t.enc.toArray) H]) (hf p H a8 c3 _ (λb o U=>.inl U)) (λu hu=>?_)
 subst hu
 refine .gT e<|.q .lss<|.q (.bX e) ?_
 refine .zn ?_
 refine .cond rfl (λQ=>?_) λQ=>?_
 refine .kn<|.block<|.region<|.mo rfl ?_
 refine .ia (B-1) .sub ?_
 refine .ag rfl<|.nil<|bg ?_
 ·have b8:ap c p H=true:=Q
  exact aS (B-1) ⟨by omega,J.dec b6 M (by rw[b8];rfl)⟩ (by omega) kE.c.c.c.c.c rH
 refine .exit<|aT<|aW<|aU ?_
 first
  |exact ax B ⟨W,J,λx g n=>by have hh:ap c p H=false:=Q;rw[M]at n;cases n;rw[hh];rfl⟩ kE.c.c.c.c.c rH
  |exact ax B ⟨W,J,λx g n=>by have:=bc e;omega⟩ kE.c.c.c.c.c rH
 refine .gF e<|.gF e<|.gF e<|.gF e<|.gF e<|.gF e<|.gF e<|.gF e<|.gF e<|.nil<|.gF e<|.gF e<|.q (.bU e) ?_
 refine .zn<|.bB<|.exit<|aT<|aW<|aU ?_
 first
  |exact ax B ⟨W,J,λx g n=>by have hh:ap c p H=false:=Q;rw[M]at n;cases n;rw[hh];rfl⟩ kE.c.c.c.c.c rH
  |exact ax B ⟨W,J,λx g n=>by have:=bc e;omega⟩ kE.c.c.c.c.c rH
 intro x g
 obtain⟨z,a5⟩:∃z,z=x:=⟨_,rfl⟩
 rw[<-a5]at g⊢
 clear a5 x
 obtain⟨c9,S,c1⟩:=g
 have b4:=S.i0
 have c7:=S.ij
 refine aI<|.seq<|.sr<|.mo rfl<|.mo rfl<|.q .gtr<|.zn ?_
 refine .cond rfl (λZ=>?_) λZ=>?_
 refine .exit (aT (du (aW (aU ?_))))
 refine aI<|.sr<|.mo rfl<|.az rfl ?_
 refine .ret (bb _ (.one (.tmp rfl)) rH ?_)
 ·have b3:z<l:=cO Z
  exact⟨_,rfl,ys,l,rfl,r,D,S.kd so b3 (D.all (p:=λx=>ap c x p=false) b7)⟩
 have a6:l<=z:=by have:=bc Z;omega
 obtain⟨x,g⟩:∃x,ys[l]? =some x:=⟨_,aE (by omega)⟩
 obtain⟨y,F⟩:∃x,ys[z]? =some x:=⟨_,aE (by omega)⟩
 have b9:=S.sw a6 (by omega) g F (c0 x (by omega) g) (c1 y a6 F)
 refine .kn<|.seq<|.bN [13,15] mixed ?_
 refine .tO 0 rfl .move<|.tO 1 rfl .move<|.tK 2 rfl .move<|.tK 3 rfl .move<|.tO 4 rfl .move<|.tO 5 rfl .move ?_
 refine RA.ar 6 rfl (z) r F rfl rfl rfl (by kernel_rfl) (λd9=>?_)
 refine .tO 7 rfl (.aD rfl)<|.tO 8 rfl .move<|.tO 9 rfl .move ?_
 refine RA.ar 10 rfl (l) r g rfl rfl rfl (by kernel_rfl) (λe0=>?_)
 refine .tO 11 rfl (.aD rfl) ?_
 refine RA.ar 12 rfl (l) r g rfl rfl rfl (by kernel_rfl) (λe1=>?_)
 refine .sT 13 rfl ?_
 refine .bh (l) r g y (λa9 a1=>?_) (r.one _ (aG F))
 refine .nil (Next.mod rfl ?_)
 refine RA.ar 14 rfl (z) r F rfl rfl rfl (by kernel_rfl) (λe2=>?_)
 refine .sT 15 rfl ?_
 obtain⟨zz,a2⟩:∃u,(ys.set (l) y)[z]? =some u:=⟨_,aE (by rw[acT];exact(acU.1 F).1)⟩
 refine .bh (z) a1 a2 x (λY K=>?_) (r.one _ (aG g))
 rw[<-bP g F]at K
 refine .nil (Next.mod rfl ?_)
 refine RA.nil (by kernel_rfl) ?_
 refine aI<|.sr<|.mo rfl ?_
 refine .ia (l+1) .add ?_
 refine .az rfl<|.region<|.mo rfl ?_
 refine .ia (z-1) .sub ?_
 refine .ag rfl<|.nil<|bg ?_
 ·exact aS (l+1,z-1,bi ys l z,Y) ⟨K,D.step (by omega) (by omega) (by omega) (by omega) (by omega),b9.2⟩ (by simp only;omega) kE.c.c.c.c.c rH
theorem fy(v:Value)(xs:List aM)(T:ay)(a b m:Nat)(p:aM)(R:aC)(h:OS 152 9 aM.enc v xs T)(e0:a<b)(hm:a<=m/\m<b)(U:xs[m]? =some p)(S:b<=xs.length)(hl:xs.length<=1000000000)(hf:bR prog f caps R (λt:aM=>Value.agg t.enc.toArray) c ok)(b0:∀x∈xs,ok x)(so:SO (ap c)):
  Spec prog 360 [v,.int .i64 a,.int .i64 b,.int .i64 m,.func (.func f) #[] caps.toArray] R [T] λu H'=>∃T',H'=[T']/\∃ys mid z,u=.tuple [iN mid,.bool z].toArray/\OS 152 9 aM.enc v ys T'/\RP a b xs ys/\Part (ap c) ys a mid b p:=by
 have iv:=h.aF
 obtain⟨x0,Z⟩:∃x,xs[a]? =some x:=⟨_,aE (by omega)⟩
 have c3:=b0 p (aG U)
 refine Spec.body func360 rfl results360 ntmps360 rfl ?_
 refine .sr<|.ag rfl<|.ag rfl<|.zs<|.bN [13,15] mixed ?_
 refine .tO 0 rfl .move<|.tO 1 rfl .move<|.tK 2 rfl .move<|.tK 3 rfl .move<|.tO 4 rfl .move<|.tO 5 rfl .move ?_
 refine RA.ar 6 rfl (m) h U rfl rfl rfl (by kernel_rfl) (λk0=>?_)
 refine .tO 7 rfl (.aD rfl)<|.tO 8 rfl .move<|.tO 9 rfl .move ?_
 refine RA.ar 10 rfl (a) h Z rfl rfl rfl (by kernel_rfl) (λk1=>?_)
 refine .tO 11 rfl (.aD rfl) ?_
 refine RA.ar 12 rfl (a) h Z rfl rfl rfl (by kernel_rfl) (λk4=>?_)
 refine .sT 13 rfl ?_
 refine .bh (a) h Z p (λb7 J=>?_) (h.one _ (aG U))
 refine .nil (Next.mod rfl ?_)
 refine RA.ar 14 rfl (m) h U rfl rfl rfl (by kernel_rfl) (λk5=>?_)
 refine .sT 15 rfl ?_
 obtain⟨zz,K⟩:∃u,(xs.set (a) p)[m]? =some u:=⟨_,aE (by rw[acT];exact(acU.1 U).1)⟩
 refine .bh (m) J K x0 (λV E=>?_) (h.one _ (aG Z))
 rw[<-bP Z U]at E
 refine .nil (Next.mod rfl ?_)
 refine RA.nil (by kernel_rfl) ?_
 have a4:RP a b xs (bi xs a m):=(RP.refl xs).step (by omega) (by omega) (by omega) (by omega) (by omega)
 have I:(bi xs a m)[a]? =some p:=by
  rw[cR (by omega) (by omega)]
  by_cases hk:a=m
  ·rw[if_pos hk,Z, <-U, <-hk,Z]
  ·rw[if_neg hk,if_pos rfl,U]
 obtain⟨D,d5⟩:∃D,D=bi xs a m:=⟨_,rfl⟩
 rw[<-d5]at E a4 I
 obtain⟨T0,d9⟩:∃T0,T0=V:=⟨_,rfl⟩
 rw[<-d9]at E⊢
 have h8:=a4.length
 have A:=E
 clear E
 have d8:PQ (λx=>ap c x p) D a (a+1) (b-1) b p:=.start e0 I
 clear d5
 refine aI<|.sr<|.mo rfl ?_
 refine .ia (a+1) .add ?_
 refine .mo rfl ?_
 refine .ia (b-1) .sub ?_
 refine .ag rfl<|.ag rfl<|.zs ?_
 refine bk.cut (X:=Nat) (λs=>PQ (λx=>ap c x p) D a s (b-1) b p/\∀x,s<=b-1->D[s]? =some x->ap c x p=false) (λs=>[(0,v),(1,iN a),(4,.func (.func f) #[] caps.toArray),(12,.int .i64 (s:Nat)),(13,.int .i64 ((b-1:Nat):Int))]) (λ_=>[T0]) ?_ ?_
 refine .block ?_
 refine .loop (X:=Nat) (λs=>PQ (λx=>ap c x p) D a s (b-1) b p) (λs=>[(0,v),(1,iN a),(4,.func (.func f) #[] caps.toArray),(12,.int .i64 (s:Nat)),(13,.int .i64 ((b-1:Nat):Int))]) (λ_=>[T0]) (λs=>b-s) (a+1) d8 kE.c.c.c.c.c rH ?_
 rintro L a6
 refine .seq<|.seq ?_
 refine .bO 13 mixed (by kernel_rfl) ?_
 conv=>arg 6;dsimp only[List.take]
 refine .mo rfl<|.mo rfl<|.q .leq<|.mo rfl ?_
 refine .split (t:=35) rfl (λn=>?_) (λn=>?_)
 have e4:L<=b-1:=by have:=bp n;omega
 obtain⟨x2,b2⟩:∃x,D[L]? =some x:=⟨_,aE (by omega)⟩
 have f6:=b0 x2 (a4.perm.mem_iff.1 (aG b2))
 refine .gT n<|.mo rfl<|.gT n<|.mo rfl<|.gT n<|.mo rfl<|.gT n ?_
 refine .ar L A b2 (λk6=>?_)
 refine .gT n<|.q (.aD rfl)<|.gT n<|.mo rfl<|.gT n<|.mo rfl<|.gT n ?_
 refine .ar a A I (λk7=>?_)
 refine .gT n<|.q (.aD rfl)<|.nil<|.gT n ?_
 refine .bV (first:=[]) (captured:=caps) (vs:=[(λt:aM=>Value.agg t.enc.toArray) x2,(λt:aM=>Value.agg t.enc.toArray) p]) (hf x2 p f6 c3 _ (λb o S=>.inl S)) (λu Y=>?_)
 subst Y
 refine .gT n<|.q .lss<|.q (.bX n) ?_
 refine .zn ?_
 refine .cond rfl (λh1=>?_) λh1=>?_
 refine .kn<|.block<|.region<|.mo rfl ?_
 refine .ia (L+1) .add ?_
 refine .ag rfl<|.nil<|bg ?_
 ·exact aS (L+1) (a6.inc e4 b2 h1) (by omega) kE.c.c.c.c.c rH
 refine .exit<|aT<|aW<|aU ?_
 first
  |exact ax L ⟨a6,λx d e=>by rw[b2]at e;cases e;exact h1⟩ kE.c.c.c.c.c rH
  |exact ax L ⟨a6,λx d e=>by have:=bc n;omega⟩ kE.c.c.c.c.c rH
 refine .gF n<|.gF n<|.gF n<|.gF n<|.gF n<|.gF n<|.gF n<|.gF n<|.gF n<|.nil<|.gF n<|.gF n<|.q (.bU n) ?_
 refine .zn<|.bB<|.exit<|aT<|aW<|aU ?_
 first
  |exact ax L ⟨a6,λx d e=>by rw[b2]at e;cases e;exact h1⟩ kE.c.c.c.c.c rH
  |exact ax L ⟨a6,λx d e=>by have:=bc n;omega⟩ kE.c.c.c.c.c rH
 intro x d
 obtain⟨B,c7⟩:∃B,B=x:=⟨_,rfl⟩
 rw[<-c7]at d⊢
 clear c7 x
 obtain⟨c5,f2⟩:=d
 refine aI<|.seq ?_
 refine bk.cut (X:=Nat) (λr=>r<=b-1/\PQ (λx=>ap c x p) D a B r b p/\∀x,B<=r->D[r]? =some x->ap c x p=true) (λr=>[(0,v),(1,iN a),(4,.func (.func f) #[] caps.toArray),(12,iN B),(13,.int .i64 (r:Nat))]) (λ_=>[T0]) ?_ ?_
 refine .block ?_
 refine .loop (X:=Nat) (λr=>r<=b-1/\PQ (λx=>ap c x p) D a B r b p) (λr=>[(0,v),(1,iN a),(4,.func (.func f) #[] caps.toArray),(12,iN B),(13,.int .i64 (r:Nat))]) (λ_=>[T0]) (λr=>r) (b-1) ⟨acS _,c5⟩ kE.c.c.c.c.c rH ?_
 rintro M ⟨c0,a7⟩
 have e2:=c5.i0
 refine .seq<|.seq ?_
 refine .bO 13 mixed (by kernel_rfl) ?_
 conv=>arg 6;dsimp only[List.take]
 refine .mo rfl<|.mo rfl<|.q .leq<|.mo rfl ?_
 refine .split (t:=53) rfl (λk=>?_) (λk=>?_)
 have e5:B<=M:=by have:=bp k;omega
 obtain⟨x4,b3⟩:∃x,D[M]? =some x:=⟨_,aE (by omega)⟩
 have f7:=b0 x4 (a4.perm.mem_iff.1 (aG b3))
 refine .gT k<|.mo rfl<|.gT k<|.mo rfl<|.gT k<|.mo rfl<|.gT k ?_
 refine .ar M A b3 (λk8=>?_)
 refine .gT k<|.q (.aD rfl)<|.gT k<|.mo rfl<|.gT k<|.mo rfl<|.gT k ?_
 refine .ar a A I (λk9=>?_)
 refine .gT k<|.q (.aD rfl)<|.nil<|.gT k ?_
 refine .bV (first:=[]) (captured:=caps) (vs:=[(λt:aM=>Value.agg t.enc.toArray) x4,(λt:aM=>Value.agg t.enc.toArray) p]) (hf x4 p f7 c3 _ (λb o S=>.inl S)) (λu Y=>?_)
 subst Y
 refine .gT k<|.q .lss<|.gT k<|.q .not<|.q (.bX k) ?_
 refine .zn ?_
 refine .cond rfl (λh2=>?_) λh2=>?_
 refine .kn<|.block<|.region<|.mo rfl ?_
 refine .ia (M-1) .sub ?_
 refine .ag rfl<|.nil<|bg ?_
 ·have e8:ap c x4 p=false:=by
   have d6:(!ap c x4 p)=true:=h2
   simpa using d6
  exact aS (M-1) ⟨by omega,a7.dec e5 b3 e8⟩ (by omega) kE.c.c.c.c.c rH
 refine .exit<|aT<|aW<|aU ?_
 first
  |exact ax M ⟨c0,a7,λx d e=>by
    have W:(!ap c x4 p)=false:=h2
    rw[b3]at e;cases e
    simpa using W⟩ kE.c.c.c.c.c rH
  |exact ax M ⟨c0,a7,λx d e=>by have:=bc k;omega⟩ kE.c.c.c.c.c rH
 refine .gF k<|.gF k<|.gF k<|.gF k<|.gF k<|.gF k<|.gF k<|.gF k<|.gF k<|.nil<|.gF k<|.gF k<|.gF k<|.q (.bU k) ?_
 refine .zn<|.bB<|.exit<|aT<|aW<|aU ?_
 first
  |exact ax M ⟨c0,a7,λx d e=>by
    have W:(!ap c x4 p)=false:=h2
    rw[b3]at e;cases e
    simpa using W⟩ kE.c.c.c.c.c rH
  |exact ax M ⟨c0,a7,λx d e=>by have:=bc k;omega⟩ kE.c.c.c.c.c rH
 intro x d
 obtain⟨w,c8⟩:∃w,w=x:=⟨_,rfl⟩
 rw[<-c8]at d⊢
 clear c8 x
 obtain⟨g9,b8,f3⟩:=d
 have e2:=b8.i0
 have g3:=b8.ij
 refine aI<|.seq<|.sr<|.mo rfl<|.mo rfl<|.q .gtr<|.zn ?_
 refine .cond rfl (λh3=>?_) λh3=>?_
 have e1:w<B:=cO h3
 obtain⟨y,G⟩:∃x,D[w]? =some x:=⟨_,aE (by omega)⟩
 refine .seq<|.bN [13,15] mixed ?_
 refine .tO 0 rfl .move<|.tO 1 rfl .move<|.tK 2 rfl .move<|.tK 3 rfl .move<|.tO 4 rfl .move<|.tO 5 rfl .move ?_
 refine RA.ar 6 rfl (a) A I rfl rfl rfl (by kernel_rfl) (λl0=>?_)
 refine .tO 7 rfl (.aD rfl)<|.tO 8 rfl .move<|.tO 9 rfl .move ?_
 refine RA.ar 10 rfl (w) A G rfl rfl rfl (by kernel_rfl) (λl1=>?_)
 refine .tO 11 rfl (.aD rfl) ?_
 refine RA.ar 12 rfl (w) A G rfl rfl rfl (by kernel_rfl) (λl2=>?_)
 refine .sT 13 rfl ?_
 refine .bh (w) A G p (λb7 J=>?_) (A.one _ (aG I))
 refine .nil (Next.mod rfl ?_)
 refine RA.ar 14 rfl (a) A I rfl rfl rfl (by kernel_rfl) (λl3=>?_)
 refine .sT 15 rfl ?_
 obtain⟨zz,K⟩:∃u,(D.set (w) p)[a]? =some u:=⟨_,aE (by rw[acT];exact(acU.1 I).1)⟩
 refine .bh (a) J K y (λV E=>?_) (A.one _ (aG G))
 rw[<-bP G I]at E
 refine .nil (Next.mod rfl ?_)
 refine RA.nil (by kernel_rfl) ?_
 refine aI<|.sr<|.mo rfl<|.ag rfl<|.az rfl ?_
 refine .ret (bq (bb _ (.two (.tmp rfl) (.tmp rfl)) rH ?_))
 ·exact⟨_,rfl,bi D w a,w,true,rfl,E,a4.step (by omega) (by omega) (by omega) (by omega) (by omega),b8.fin e1 (by omega)⟩
 have d1:B<=w:=by have:=bc h3;omega
 obtain⟨x,d⟩:∃x,D[B]? =some x:=⟨_,aE (by omega)⟩
 obtain⟨y,G⟩:∃x,D[w]? =some x:=⟨_,aE (by omega)⟩
 have f0:=b8.sw d1 (by omega) d G (f2 x (by omega) d) (f3 y d1 G)
 refine .kn<|.seq<|.bN [13,15] mixed ?_
 refine .tO 0 rfl .move<|.tO 1 rfl .move<|.tK 2 rfl .move<|.tK 3 rfl .move<|.tO 4 rfl .move<|.tO 5 rfl .move ?_
 refine RA.ar 6 rfl (w) A G rfl rfl rfl (by kernel_rfl) (λl4=>?_)
 refine .tO 7 rfl (.aD rfl)<|.tO 8 rfl .move<|.tO 9 rfl .move ?_
 refine RA.ar 10 rfl (B) A d rfl rfl rfl (by kernel_rfl) (λl5=>?_)
 refine .tO 11 rfl (.aD rfl) ?_
 refine RA.ar 12 rfl (B) A d rfl rfl rfl (by kernel_rfl) (λl6=>?_)
 refine .sT 13 rfl ?_
 refine .bh (B) A d y (λb7 J=>?_) (A.one _ (aG G))
 refine .nil (Next.mod rfl ?_)
 refine RA.ar 14 rfl (w) A G rfl rfl rfl (by kernel_rfl) (λi1=>?_)
 refine .sT 15 rfl ?_
 obtain⟨zz,K⟩:∃u,(D.set (B) y)[w]? =some u:=⟨_,aE (by rw[acT];exact(acU.1 G).1)⟩
 refine .bh (w) J K x (λV E=>?_) (A.one _ (aG d))
 rw[<-bP d G]at E
 refine .nil (Next.mod rfl ?_)
 refine RA.nil (by kernel_rfl) ?_
 refine aI<|.sr<|.mo rfl ?_
 refine .ia (B+1) .add ?_
 refine .ag rfl<|.z<|.mo rfl ?_
 refine .ia (w-1) .sub ?_
 refine .ag rfl<|.zs ?_
 refine bk.cut (X:=Nat×Nat×List aM×ay) (λy=>OS 152 9 aM.enc v y.2.2.1 y.2.2.2/\RP a b xs y.2.2.1/\PQ (λx=>ap c x p) y.2.2.1 a y.1 y.2.1 b p/\y.2.1<y.1) (λy=>[(0,v),(1,iN a),(4,.func (.func f) #[] caps.toArray),(12,iN y.1),(13,iN y.2.1)]) (λy=>[y.2.2.2]) ?_ ?_
 refine .block ?_
 refine .loop (X:=Nat×Nat×List aM×ay) (λy=>OS 152 9 aM.enc v y.2.2.1 y.2.2.2/\RP a b xs y.2.2.1/\PQ (λx=>ap c x p) y.2.2.1 a y.1 y.2.1 b p) (λy=>[(0,v),(1,iN a),(4,.func (.func f) #[] caps.toArray),(12,iN y.1),(13,iN y.2.1)]) (λy=>[y.2.2.2]) (λy=>y.2.1+1-y.1) (B+1,w-1,bi D B w,V) ⟨E,a4.step (by omega) (by omega) (by omega) (by omega) (by omega),f0.2⟩ kE.c.c.c.c.c rH ?_
 rintro⟨i,j,ys,T1⟩ ⟨F,a5,a2⟩
 simp only at F a5 a2⊢
 have h7:=a5.length
 have g0:=a2.i0
 have g2:=a2.ij
 have g7:=a2.jb
 have d4:=a2.at_
 refine .block<|.seq ?_
 refine bk.cut (X:=Nat) (λs=>i<=s/\PQ (λx=>ap c x p) ys a s j b p/\∀x,s<=j->ys[s]? =some x->ap c x p=false) (λs=>[(0,v),(1,iN a),(4,.func (.func f) #[] caps.toArray),(12,.int .i64 (s:Nat)),(13,iN j)]) (λ_=>[T1]) ?_ ?_
 refine .block ?_
 refine .loop (X:=Nat) (λs=>i<=s/\PQ (λx=>ap c x p) ys a s j b p) (λs=>[(0,v),(1,iN a),(4,.func (.func f) #[] caps.toArray),(12,.int .i64 (s:Nat)),(13,iN j)]) (λ_=>[T1]) (λs=>j+1-s) i ⟨acS _,a2⟩ kE.c.c.c.c.c rH ?_
 rintro N ⟨c1,a8⟩
 refine .seq<|.seq ?_
 refine .bO 13 mixed (by kernel_rfl) ?_
 conv=>arg 6;dsimp only[List.take]
 refine .mo rfl<|.mo rfl<|.q .leq<|.mo rfl ?_
 refine .split (t:=108) rfl (λl=>?_) (λl=>?_)
 have e6:N<=j:=by have:=bp l;omega
 obtain⟨x6,b4⟩:∃x,ys[N]? =some x:=⟨_,aE (by omega)⟩
 have f8:=b0 x6 (a5.perm.mem_iff.1 (aG b4))
 refine .gT l<|.mo rfl<|.gT l<|.mo rfl<|.gT l<|.mo rfl<|.gT l ?_
 refine .ar N F b4 (λi4=>?_)
 refine .gT l<|.q (.aD rfl)<|.gT l<|.mo rfl<|.gT l<|.mo rfl<|.gT l ?_
 refine .ar a F d4 (λi5=>?_)
 refine .gT l<|.q (.aD rfl)<|.nil<|.gT l ?_
 refine .bV (first:=[]) (captured:=caps) (vs:=[(λt:aM=>Value.agg t.enc.toArray) x6,(λt:aM=>Value.agg t.enc.toArray) p]) (hf x6 p f8 c3 _ (λb o S=>.inl S)) (λu Y=>?_)
 subst Y
 refine .gT l<|.q .lss<|.q (.bX l) ?_
 refine .zn ?_
 refine .cond rfl (λh4=>?_) λh4=>?_
 refine .kn<|.block<|.region<|.mo rfl ?_
 refine .ia (N+1) .add ?_
 refine .ag rfl<|.nil<|bg ?_
 ·exact aS (N+1) ⟨by omega,a8.inc e6 b4 h4⟩ (by omega) kE.c.c.c.c.c rH
 refine .exit<|aT<|aW<|aU ?_
 first
  |exact ax N ⟨c1,a8,λx d e=>by rw[b4]at e;cases e;exact h4⟩ kE.c.c.c.c.c rH
  |exact ax N ⟨c1,a8,λx d e=>by have:=bc l;omega⟩ kE.c.c.c.c.c rH
 refine .gF l<|.gF l<|.gF l<|.gF l<|.gF l<|.gF l<|.gF l<|.gF l<|.gF l<|.nil<|.gF l<|.gF l<|.q (.bU l) ?_
 refine .zn<|.bB<|.exit<|aT<|aW<|aU ?_
 first
  |exact ax N ⟨c1,a8,λx d e=>by rw[b4]at e;cases e;exact h4⟩ kE.c.c.c.c.c rH
  |exact ax N ⟨c1,a8,λx d e=>by have:=bc l;omega⟩ kE.c.c.c.c.c rH
 intro x d
 obtain⟨C,d0⟩:∃C,C=x:=⟨_,rfl⟩
 rw[<-d0]at d⊢
 clear d0 x
 obtain⟨g6,c6,f4⟩:=d
 refine aI<|.seq ?_
 refine bk.cut (X:=Nat) (λr=>r<=j/\PQ (λx=>ap c x p) ys a C r b p/\∀x,C<=r->ys[r]? =some x->ap c x p=true) (λr=>[(0,v),(1,iN a),(4,.func (.func f) #[] caps.toArray),(12,iN C),(13,.int .i64 (r:Nat))]) (λ_=>[T1]) ?_ ?_
 refine .block ?_
 refine .loop (X:=Nat) (λr=>r<=j/\PQ (λx=>ap c x p) ys a C r b p) (λr=>[(0,v),(1,iN a),(4,.func (.func f) #[] caps.toArray),(12,iN C),(13,.int .i64 (r:Nat))]) (λ_=>[T1]) (λr=>r) j ⟨acS _,c6⟩ kE.c.c.c.c.c rH ?_
 rintro O ⟨c2,a9⟩
 have e3:=c6.i0
 refine .seq<|.seq ?_
 refine .bO 13 mixed (by kernel_rfl) ?_
 conv=>arg 6;dsimp only[List.take]
 refine .mo rfl<|.mo rfl<|.q .leq<|.mo rfl ?_
 refine .split (t:=126) rfl (λg=>?_) (λg=>?_)
 have e7:C<=O:=by have:=bp g;omega
 obtain⟨x7,b5⟩:∃x,ys[O]? =some x:=⟨_,aE (by omega)⟩
 have f9:=b0 x7 (a5.perm.mem_iff.1 (aG b5))
 refine .gT g<|.mo rfl<|.gT g<|.mo rfl<|.gT g<|.mo rfl<|.gT g ?_
 refine .ar O F b5 (λi6=>?_)
 refine .gT g<|.q (.aD rfl)<|.gT g<|.mo rfl<|.gT g<|.mo rfl<|.gT g ?_
 refine .ar a F d4 (λi7=>?_)
 refine .gT g<|.q (.aD rfl)<|.nil<|.gT g ?_
 refine .bV (first:=[]) (captured:=caps) (vs:=[(λt:aM=>Value.agg t.enc.toArray) x7,(λt:aM=>Value.agg t.enc.toArray) p]) (hf x7 p f9 c3 _ (λb o S=>.inl S)) (λu Y=>?_)
 subst Y
 refine .gT g<|.q .lss<|.gT g<|.q .not<|.q (.bX g) ?_
 refine .zn ?_
 refine .cond rfl (λh5=>?_) λh5=>?_
 refine .kn<|.block<|.region<|.mo rfl ?_
 refine .ia (O-1) .sub ?_
 refine .ag rfl<|.nil<|bg ?_
 ·have e9:ap c x7 p=false:=by
   have d7:(!ap c x7 p)=true:=h5
   simpa using d7
  exact aS (O-1) ⟨by omega,a9.dec e7 b5 e9⟩ (by omega) kE.c.c.c.c.c rH
 refine .exit<|aT<|aW<|aU ?_
 first
  |exact ax O ⟨c2,a9,λx d e=>by
    have W:(!ap c x7 p)=false:=h5
    rw[b5]at e;cases e
    simpa using W⟩ kE.c.c.c.c.c rH
  |exact ax O ⟨c2,a9,λx d e=>by have:=bc g;omega⟩ kE.c.c.c.c.c rH
 refine .gF g<|.gF g<|.gF g<|.gF g<|.gF g<|.gF g<|.gF g<|.gF g<|.gF g<|.nil<|.gF g<|.gF g<|.gF g<|.q (.bU g) ?_
 refine .zn<|.bB<|.exit<|aT<|aW<|aU ?_
 first
  |exact ax O ⟨c2,a9,λx d e=>by
    have W:(!ap c x7 p)=false:=h5
    rw[b5]at e;cases e
    simpa using W⟩ kE.c.c.c.c.c rH
  |exact ax O ⟨c2,a9,λx d e=>by have:=bc g;omega⟩ kE.c.c.c.c.c rH
 intro x d
 obtain⟨H,d3⟩:∃H,H=x:=⟨_,rfl⟩
 rw[<-d3]at d⊢
 clear d3 x
 obtain⟨h0,b9,f5⟩:=d
 have e3:=b9.i0
 have g4:=b9.ij
 refine aI<|.seq<|.sr<|.mo rfl<|.mo rfl<|.q .gtr<|.zn ?_
 refine .cond rfl (λh6=>?_) λh6=>?_
 refine .exit (aT (du (aW (aU ?_))))
 exact ax (C,H,ys,T1) ⟨F,a5,b9,by have:=bp h6;simp only;omega⟩ kE.c.c.c.c.c rH
 have d2:C<=H:=by have:=bc h6;omega
 obtain⟨x8,a0⟩:∃x,ys[C]? =some x:=⟨_,aE (by omega)⟩
 obtain⟨y8,a1⟩:∃x,ys[H]? =some x:=⟨_,aE (by omega)⟩
 have f1:=b9.sw d2 (by omega) a0 a1 (f4 x8 (by omega) a0) (f5 y8 d2 a1)
 refine .kn<|.seq<|.bN [13,15] mixed ?_
 refine .tO 0 rfl .move<|.tO 1 rfl .move<|.tK 2 rfl .move<|.tK 3 rfl .move<|.tO 4 rfl .move<|.tO 5 rfl .move ?_
 refine RA.ar 6 rfl (H) F a1 rfl rfl rfl (by kernel_rfl) (λi8=>?_)
 refine .tO 7 rfl (.aD rfl)<|.tO 8 rfl .move<|.tO 9 rfl .move ?_
 refine RA.ar 10 rfl (C) F a0 rfl rfl rfl (by kernel_rfl) (λj0=>?_)
 refine .tO 11 rfl (.aD rfl) ?_
 refine RA.ar 12 rfl (C) F a0 rfl rfl rfl (by kernel_rfl) (λj1=>?_)
 refine .sT 13 rfl ?_
 refine .bh (C) F a0 y8 (λb7 J=>?_) (F.one _ (aG a1))
 refine .nil (Next.mod rfl ?_)
 refine RA.ar 14 rfl (H) F a1 rfl rfl rfl (by kernel_rfl) (λj4=>?_)
 refine .sT 15 rfl ?_
 obtain⟨zz,K⟩:∃u,(ys.set (C) y8)[H]? =some u:=⟨_,aE (by rw[acT];exact(acU.1 a1).1)⟩
 refine .bh (H) J K x8 (λV E=>?_) (F.one _ (aG a0))
 rw[<-bP a0 a1]at E
 refine .nil (Next.mod rfl ?_)
 refine RA.nil (by kernel_rfl) ?_
 refine aI<|.sr<|.mo rfl ?_
 refine .ia (C+1) .add ?_
 refine .az rfl<|.region<|.mo rfl ?_
 refine .ia (H-1) .sub ?_
 refine .ag rfl<|.nil<|bg ?_
 ·exact aS (C+1,H-1,bi ys C H,V) ⟨E,a5.step (by omega) (by omega) (by omega) (by omega) (by omega),f1.2⟩ (by simp only;omega) kE.c.c.c.c.c rH
 intro x d
 obtain⟨i9,j9,zs,T9⟩:=x
 obtain⟨Q,c4,a3,c9⟩:=d
 simp only at Q c4 a3 c9⊢
 have h9:=c4.length
 have g5:=a3.ij
 have g1:=a3.i0
 have g8:=a3.jb
 have b1:=a3.at_
 obtain⟨y9,b6⟩:∃x,zs[j9]? =some x:=⟨_,aE (by omega)⟩
 refine aI<|.seq<|.bN [13,15] mixed ?_
 refine .tO 0 rfl .move<|.tO 1 rfl .move<|.tK 2 rfl .move<|.tK 3 rfl .move<|.tO 4 rfl .move<|.tO 5 rfl .move ?_
 refine RA.ar 6 rfl (a) Q b1 rfl rfl rfl (by kernel_rfl) (λj5=>?_)
 refine .tO 7 rfl (.aD rfl)<|.tO 8 rfl .move<|.tO 9 rfl .move ?_
 refine RA.ar 10 rfl (j9) Q b6 rfl rfl rfl (by kernel_rfl) (λj6=>?_)
 refine .tO 11 rfl (.aD rfl) ?_
 refine RA.ar 12 rfl (j9) Q b6 rfl rfl rfl (by kernel_rfl) (λj7=>?_)
 refine .sT 13 rfl ?_
 refine .bh (j9) Q b6 p (λb7 J=>?_) (Q.one _ (aG b1))
 refine .nil (Next.mod rfl ?_)
 refine RA.ar 14 rfl (a) Q b1 rfl rfl rfl (by kernel_rfl) (λj8=>?_)
 refine .sT 15 rfl ?_
 obtain⟨zz,K⟩:∃u,(zs.set (j9) p)[a]? =some u:=⟨_,aE (by rw[acT];exact(acU.1 b1).1)⟩
 refine .bh (a) J K y9 (λV E=>?_) (Q.one _ (aG b6))
 rw[<-bP b6 b1]at E
 refine .nil (Next.mod rfl ?_)
 refine RA.nil (by kernel_rfl) ?_
 refine aI<|.sr<|.mo rfl<|.ag rfl<|.az rfl ?_
 refine .ret (bb _ (.two (.tmp rfl) (.tmp rfl)) rH ?_)
 ·exact⟨_,rfl,bi zs j9 a,j9,false,rfl,E,c4.step (by omega) (by omega) (by omega) (by omega) (by omega),a3.fin c9 (by omega)⟩
end
end SRW
namespace SRW
section
variable{c:aM->aM->Int}{ok:aM->Prop}{f:FuncId}{caps:List Value} [e:aL prog f]
def fu(c:aM->aM->Int)(ok:aM->Prop)(f:FuncId)(caps:List Value)(n:Nat):Prop:=∀(v:Value) (xs:List aM) (T:ay) (a b lim:Nat) (R:aC),OS 152 9 aM.enc v xs T->a<=b->b<=xs.length->xs.length<=1000000000->lim<=1000000000->bR prog f caps R (λt:aM=>Value.agg t.enc.toArray) c ok->(∀x∈xs,ok x)->LB (ap c) xs a b->b-a<n->
  Spec prog 238 [v,.int .i64 a,.int .i64 b,.int .i64 lim,.func (.func f) #[] caps.toArray] R [T] λu H'=>∃T',H'=[T']/\u=.tuple #[]/\∃ys,OS 152 9 aM.enc v ys T'/\RP a b xs ys/\SR (ap c) ys a b
theorem hY(n:Nat)(ih:fu c ok f caps n)(D:SO (ap c))(v:Value)(xs:List aM)(T:ay)(H F c7:Nat)(R:aC)(h:OS 152 9 aM.enc v xs T)(d6:H<=F)(hb:F<=xs.length)(hl:xs.length<=1000000000)(e0:c7<=1000000000)(O:bR prog f caps R (λt:aM=>Value.agg t.enc.toArray) c ok)(e2:∀x∈xs,ok x)(d8:LB (ap c) xs H F)(hn:F-H<n+1):
  Spec prog 238 [v,.int .i64 H,.int .i64 F,.int .i64 c7,.func (.func f) #[] caps.toArray] R [T] λu H'=>∃T',H'=[T']/\u=.tuple #[]/\∃ys,OS 152 9 aM.enc v ys T'/\RP H F xs ys/\SR (ap c) ys H F:=by
 have iv:=h.aF
 refine Spec.body func238 rfl results238 ntmps238 rfl ?_
 refine .sr<|.ag rfl<|.z<|.az rfl<|.block ?_
 refine .loop (X:=Nat×Nat×Nat×Bool×Bool×List aM×ay) (λy=>(H<=y.1/\y.1<=y.2.1/\y.2.1<=F/\y.2.2.1<=1000000000)/\OS 152 9 aM.enc v y.2.2.2.2.2.1 y.2.2.2.2.2.2/\RP H F xs y.2.2.2.2.2.1/\OX (ap c) y.2.2.2.2.2.1 H F y.1 y.2.1) (λy=>[(0,v),(1,iN y.1),(2,iN y.2.1),(3,iN y.2.2.1),(4,.func (.func f) #[] caps.toArray),(10,.bool y.2.2.2.1),(11,.bool y.2.2.2.2.1)]) (λy=>[y.2.2.2.2.2.2]) (λy=>y.2.1-y.1) (H,F,c7,true,true,xs,T) ⟨⟨acS _,d6,acS _,e0⟩,h,.refl _,.start⟩ kE.c.c.c.c.c.c.c rH ?_
 rintro⟨a,b,l,wb,wp,ys,T1⟩ ⟨⟨e,c1,g,d7⟩,b1,U,Z⟩
 simp only at e c1 g d7 b1 U Z⊢
 have f0:=U.length
 have b8:∀x∈ys,ok x:=λx W=>e2 x (U.perm.mem_iff.1 W)
 have d1:=Z.lb (d8.rp U) e g
 refine .block<|.sr<|.mo rfl<|.mo rfl ?_
 refine .ia (b-a) .sub ?_
 refine .ag rfl<|.zs<|.sr<|.mo rfl<|.q .leq<|.zn ?_
 refine .cond rfl (λh1=>?_) λh1=>?_
 refine .sr<|.mo rfl<|.mo rfl<|.mo rfl<|.mo rfl ?_
 refine .aQ (hG v ys T1 a b _ b1 c1 (by omega) (by omega) O b8 D) (λu T2 k=>?_)
 obtain⟨rfl,N,I,B,c0⟩:=k
 refine .zn ?_
 refine .ret (bq (bu (cH (bu (bb _ .none rH ?_)))))
 ·first
   |exact⟨_,rfl,rfl,N,I,U.trans (B.mono e g (by omega)),(Z.rp B e g).cS c0⟩
   |exact⟨_,rfl,rfl,ms,a2,U.trans ((C.trans Y).mono e g (by omega)),(Z.rp (C.trans Y) e g).cS (c4 (by assumption))⟩
 have f4:12<b-a:=by have:=bc h1;omega
 refine .kn<|.seq<|.sr<|.mo rfl<|.q .cL<|.zn ?_
 refine .cond rfl (λh2=>?_) λh2=>?_
 refine .sr<|.mo rfl<|.mo rfl<|.mo rfl<|.mo rfl ?_
 refine .aQ (hF v ys T1 a b _ b1 c1 (by omega) (by omega) O b8 D) (λu T2 k=>?_)
 obtain⟨rfl,N,I,B,c0⟩:=k
 refine .zn ?_
 refine .ret (bq (bu (cH (bu (bb _ .none rH ?_)))))
 ·first
   |exact⟨_,rfl,rfl,N,I,U.trans (B.mono e g (by omega)),(Z.rp B e g).cS c0⟩
   |exact⟨_,rfl,rfl,ms,a2,U.trans ((C.trans Y).mono e g (by omega)),(Z.rp (C.trans Y) e g).cS (c4 (by assumption))⟩
 have e9:0<l:=by
  have e8:¬((l:Int)=0):=by simpa using h2
  omega
 refine .kn<|.seq ?_
 refine bk.cut (X:=Nat×List aM×ay) (λz=>z.1<=1000000000/\OS 152 9 aM.enc v z.2.1 z.2.2/\RP a b ys z.2.1) (λz=>[(0,v),(1,iN a),(2,iN b),(3,iN z.1),(4,.func (.func f) #[] caps.toArray),(10,.bool wb),(11,.bool wp),(12,.int .i64 ((b-a:Nat):Int))]) (λz=>[z.2.2]) ?_ ?_
 refine .sr<|.mo rfl<|.q .not<|.zn ?_
 refine .cond rfl (λh3=>?_) λh3=>?_
 refine .sr<|.mo rfl<|.mo rfl<|.mo rfl<|.mo rfl ?_
 refine .aQ (gV v ys T1 a b _ (.func (.func f) #[] caps.toArray) inferInstance b1 c1 (by omega) (by omega)) (λu T2 k=>?_)
 obtain⟨rfl,N,I,B⟩:=k
 refine .zn<|.region<|.mo rfl ?_
 refine .ia (l-1) .sub ?_
 refine .ag rfl<|.nil ?_
 ·first
   |exact ax (l-1,N,T2) ⟨by simp only;omega,I,B⟩ kE.c.c.c.c.c.c.c.c rH
   |exact ax (l,ys,T1) ⟨by simp only;omega,b1,.refl _⟩ kE.c.c.c.c.c.c.c.c rH
 refine .skip ?_
 ·first
   |exact ax (l-1,N,T2) ⟨by simp only;omega,I,B⟩ kE.c.c.c.c.c.c.c.c rH
   |exact ax (l,ys,T1) ⟨by simp only;omega,b1,.refl _⟩ kE.c.c.c.c.c.c.c.c rH
 intro y hy
 obtain⟨r,N,T2⟩:=y
 obtain⟨s,I,B⟩:=hy
 simp only at s I B⊢
 have f1:=B.length
 have e3:∀x∈N,ok x:=λx W=>b8 x (B.perm.mem_iff.1 W)
 refine aI<|.sr<|.mo rfl<|.mo rfl<|.mo rfl<|.mo rfl ?_
 refine .bx (choose_spec v N a b _ (I.rs λp hp=>.inr (by simpa using hp)) (by omega) (by omega) (by omega) (O.mono λb o hb=>.inl hb) e3) (λu k=>?_)
 obtain⟨pv,d0,rfl,d2,d3⟩:=k
 refine .mo rfl<|.q .extract<|.q .extract<|.ag rfl<|.ag rfl<|.zs ?_
 refine bk.cut (X:=Nat×Int×List aM×ay) (λz=>(a<=z.1/\z.1<b)/\OS 152 9 aM.enc v z.2.2.1 z.2.2.2/\RP a b ys z.2.2.1) (λz=>[(0,v),(1,iN a),(2,iN b),(3,iN r),(4,.func (.func f) #[] caps.toArray),(10,.bool wb),(11,.bool wp),(12,.int .i64 ((b-a:Nat):Int)),(13,iN z.1),(14,.int .i64 z.2.1)]) (λz=>[z.2.2.2]) ?_ ?_
 refine .sr<|.mo rfl<|.q .cL<|.zn ?_
 refine .cond rfl (λh4=>?_) λh4=>?_
 refine .sr<|.mo rfl<|.mo rfl<|.mo rfl<|.mo rfl ?_
 refine .aQ (ie v N T2 a b _ (.func (.func f) #[] caps.toArray) inferInstance I (by omega) (by omega) (by omega)) (λu T3 k=>?_)
 obtain⟨rfl,ws,c8,c9⟩:=k
 refine .z<|.mo rfl ?_
 refine .ia (b-1) .sub ?_
 refine .mo rfl<|.mo rfl ?_
 refine .ia (pv-a) .sub ?_
 refine .ia ((b-1)-(pv-a)) .sub ?_
 refine .az rfl<|.region<|.ag rfl<|.nil ?_
 ·first
   |exact ax ((b-1)-(pv-a),1,ws,T3) ⟨by simp only;omega,c8,B.trans c9⟩ kE.c.c.c.c.c.c.c.c.c.c rH
   |exact ax (pv,d0,N,T2) ⟨⟨d2,d3⟩,I,B⟩ kE.c.c.c.c.c.c.c.c.c.c rH
 refine .skip ?_
 ·first
   |exact ax ((b-1)-(pv-a),1,ws,T3) ⟨by simp only;omega,c8,B.trans c9⟩ kE.c.c.c.c.c.c.c.c.c.c rH
   |exact ax (pv,d0,N,T2) ⟨⟨d2,d3⟩,I,B⟩ kE.c.c.c.c.c.c.c.c.c.c rH
 intro y hy
 obtain⟨q,f5,us,T4⟩:=y
 obtain⟨⟨c2,c3⟩,b2,C⟩:=hy
 simp only at c2 c3 b2 C⊢
 have f2:=C.length
 have e4:∀x∈us,ok x:=λx W=>b8 x (C.perm.mem_iff.1 W)
 refine aI<|.seq ?_
 refine bk.cut (X:=List aM×ay) (λz=>OS 152 9 aM.enc v z.1 z.2/\RP a b ys z.1) (λz=>[(0,v),(1,iN a),(2,iN b),(3,iN r),(4,.func (.func f) #[] caps.toArray),(10,.bool wb),(11,.bool wp),(12,.int .i64 ((b-a:Nat):Int)),(13,iN q)]) (λz=>[z.2]) ?_ ?_
 refine .sr<|.mo rfl<|.mo rfl ?_
 refine .split (t:=69) rfl (λb5=>?_) (λb5=>?_)
 refine .gT b5<|.mo rfl<|.q (.bX b5) ?_
 refine .mo rfl ?_
 refine .split (t:=72) rfl (λa1=>?_) (λa1=>?_)
 refine .gT a1<|.mo rfl<|.gT a1<|.q .cL<|.q (.bX a1) ?_
 refine .zn ?_
 refine .cond rfl (λh5=>?_) λh5=>?_
 refine .sr<|.mo rfl<|.mo rfl<|.mo rfl<|.mo rfl ?_
 refine .aQ (hU v us T4 a b _ b2 (by omega) (by omega) (by omega) O e4 D (d1.rp C)) (λu T5 k=>?_)
 obtain⟨ms,mb,rfl,a2,Y,c4⟩:=k
 refine .zn ?_
 refine .cond rfl (λh6=>?_) λh6=>?_
 refine .ret (ki (bq (bu (cH (bu (bb _ .none rH ?_))))))
 ·first
   |exact⟨_,rfl,rfl,N,I,U.trans (B.mono e g (by omega)),(Z.rp B e g).cS c0⟩
   |exact⟨_,rfl,rfl,ms,a2,U.trans ((C.trans Y).mono e g (by omega)),(Z.rp (C.trans Y) e g).cS (c4 (by assumption))⟩
 refine .skip ?_
 ·first
   |exact ax (ms,T5) ⟨a2,C.trans Y⟩ kE.c.c.c.c.c.c.c.c.c rH
   |exact ax (us,T4) ⟨b2,C⟩ kE.c.c.c.c.c.c.c.c.c rH
 refine .skip ?_
 ·first
   |exact ax (ms,T5) ⟨a2,C.trans Y⟩ kE.c.c.c.c.c.c.c.c.c rH
   |exact ax (us,T4) ⟨b2,C⟩ kE.c.c.c.c.c.c.c.c.c rH
 refine .gF a1<|.gF a1<|.q (.bU a1) ?_
 refine .zn<|.bB<|.skip ?_
 ·first
   |exact ax (ms,T5) ⟨a2,C.trans Y⟩ kE.c.c.c.c.c.c.c.c.c rH
   |exact ax (us,T4) ⟨b2,C⟩ kE.c.c.c.c.c.c.c.c.c rH
 refine .gF b5<|.q (.bU b5) ?_
 refine .mo rfl<|.gX<|.gX<|.q .iE<|.zn<|.bB<|.skip ?_
 ·first
   |exact ax (ms,T5) ⟨a2,C.trans Y⟩ kE.c.c.c.c.c.c.c.c.c rH
   |exact ax (us,T4) ⟨b2,C⟩ kE.c.c.c.c.c.c.c.c.c rH
 intro y hy
 obtain⟨a9,T6⟩:=y
 obtain⟨b3,b4⟩:=hy
 simp only at b3 b4⊢
 have f3:=b4.length
 have a8:∀x∈a9,ok x:=λx W=>b8 x (b4.perm.mem_iff.1 W)
 have a3:RP H F xs a9:=U.trans (b4.mono e g (by omega))
 have a5:=Z.rp b4 e g
 have c5:=d1.rp b4
 obtain⟨p,hp⟩:∃x,a9[q]? =some x:=⟨_,aE (by omega)⟩
 have e5:=a8 p (aG hp)
 refine aI<|.seq<|.seq ?_
 refine .bO 13 mixed (by kernel_rfl) ?_
 conv=>arg 6;dsimp only[List.take]
 refine .mo rfl<|.q .gtr<|.mo rfl ?_
 refine .split (t:=83) rfl (λi=>?_) (λi=>?_)
 have d5:0<a:=by have:=bp i;omega
 obtain⟨w,hw⟩:∃x,a9[a-1]? =some x:=⟨_,aE (by omega)⟩
 have e6:=a8 w (aG hw)
 refine .gT i<|.mo rfl<|.gT i<|.mo rfl<|.gT i<|.mo rfl<|.gT i ?_
 refine .ia (a-1) .sub ?_
 refine .gT i ?_
 refine .ar (a-1) b3 hw (λf6=>?_)
 refine .gT i<|.q (.aD rfl)<|.gT i<|.mo rfl<|.gT i<|.mo rfl<|.gT i ?_
 refine .ar q b3 hp (λf7=>?_)
 refine .gT i<|.q (.aD rfl)<|.nil<|.gT i ?_
 refine .bV (first:=[]) (captured:=caps) (vs:=[(λt:aM=>Value.agg t.enc.toArray) w,(λt:aM=>Value.agg t.enc.toArray) p]) (O w p e6 e5 _ (λb o hb=>.inl hb)) (λu k=>?_)
 subst k
 refine .gT i<|.q .lss<|.gT i<|.q .not<|.q (.bX i) ?_
 refine .zn ?_
 refine .cond rfl (λh7=>?_) λh7=>?_
 have e1:ap c w p=false:=by
  have d4:(!ap c w p)=true:=h7
  simpa using d4
 refine .sr<|.mo rfl<|.mo rfl<|.mo rfl<|.mo rfl<|.mo rfl ?_
 refine .aQ (hS v a9 T6 a b q p _ b3 (by omega) ⟨c2,c3⟩ hp (by omega) (by omega) O a8 D (c5.kr D d5 hw e1)) (λu Q k=>?_)
 obtain⟨E,j,rfl,S,m,A⟩:=k
 have a7:=A.lo
 have a6:=A.hi
 refine .ag rfl<|.z<|.mo rfl<|.az rfl<|.exit<|aT<|aU ?_
 ·first
   |exact aS (j+1,b,r,_,_,M,G) ⟨⟨by simp only;omega,by simp only;omega,by simp only;omega,s⟩,J,K,L⟩ (by simp only;omega) (((((((kE.d rfl).d rfl).d rfl).d rfl).d rfl).d rfl).d rfl) rH
   |exact aS (a,j,r,_,_,M,G) ⟨⟨e,a7,by simp only;omega,s⟩,J,K,L⟩ (by simp only;omega) (((((((kE.d rfl).d rfl).d rfl).d rfl).d rfl).d rfl).d rfl) rH
   |exact aS (j,b,r,_,_,E,Q) ⟨⟨by simp only;omega,a6,g,s⟩,S,a3.trans (m.mono e g (by omega)),(a5.rp m e g).eqs D A⟩ (by simp only;omega) (((((((kE.d rfl).d rfl).d rfl).d rfl).d rfl).d rfl).d rfl) rH
 refine .kn<|.sr<|.mo rfl<|.mo rfl<|.mo rfl<|.mo rfl<|.mo rfl ?_
 refine .aQ (fy v a9 T6 a b q p _ b3 (by omega) ⟨c2,c3⟩ hp (by omega) (by omega) O a8 D) (λu Q k=>?_)
 obtain⟨E,j,e7,rfl,S,m,A⟩:=k
 have a7:=A.lo
 have a6:=A.hi
 have d9:=m.length
 have b9:∀x∈E,ok x:=λx W=>a8 x (m.perm.mem_iff.1 W)
 have b7:=a5.rp m e g
 have b6:RP H F xs E:=a3.trans (m.mono e g (by omega))
 have c6:=c5.rp m
 refine .mo rfl<|.q .extract<|.q .extract<|.ag rfl<|.ag rfl<|.z<|.mo rfl<|.ag rfl<|.z<|.mo rfl<|.mo rfl ?_
 refine .ia (j-a) .sub ?_
 refine .mo rfl<|.mo rfl ?_
 refine .ia (b-j) .sub ?_
 refine .ag rfl<|.ag rfl<|.z<|.mo rfl ?_
 refine .q (.i64 (((b-a)/8:Nat):Int) .quo ⟨by rw[acV (by omega)];omega,by omega,by omega⟩) ?_
 refine .ag rfl<|.z<|.mo rfl<|.mo rfl<|.q .lss<|.zn ?_
 refine .cond rfl (λh8=>?_) λh8=>?_
 refine .sr<|.mo rfl<|.mo rfl<|.q .geq<|.ag rfl<|.z<|.mo rfl<|.mo rfl<|.mo rfl<|.mo rfl<|.mo rfl ?_
 refine .aQ (ih v E Q a j r _ S (by omega) (by omega) (by omega) s O b9 (c6.less (by omega)) (by omega)) (λu G k=>?_)
 obtain⟨rfl,M,J,V,a4⟩:=k
 have L:=b7.left D A V a4 e g (by omega)
 have K:=b6.trans (V.mono e (by omega) (by omega))
 refine .zn<|.region<|.mo rfl ?_
 refine .ia (j+1) .add ?_
 refine .ag rfl<|.nil<|bg ?_
 ·first
   |exact aS (j+1,b,r,_,_,M,G) ⟨⟨by simp only;omega,by simp only;omega,by simp only;omega,s⟩,J,K,L⟩ (by simp only;omega) (((((((kE.d rfl).d rfl).d rfl).d rfl).d rfl).d rfl).d rfl) rH
   |exact aS (a,j,r,_,_,M,G) ⟨⟨e,a7,by simp only;omega,s⟩,J,K,L⟩ (by simp only;omega) (((((((kE.d rfl).d rfl).d rfl).d rfl).d rfl).d rfl).d rfl) rH
   |exact aS (j,b,r,_,_,E,Q) ⟨⟨by simp only;omega,a6,g,s⟩,S,a3.trans (m.mono e g (by omega)),(a5.rp m e g).eqs D A⟩ (by simp only;omega) (((((((kE.d rfl).d rfl).d rfl).d rfl).d rfl).d rfl).d rfl) rH
 refine .sr<|.mo rfl<|.mo rfl<|.q .geq<|.ag rfl<|.z<|.mo rfl<|.mo rfl ?_
 refine .ia (j+1) .add ?_
 refine .mo rfl<|.mo rfl<|.mo rfl ?_
 refine .aQ (ih v E Q (j+1) b r _ S (by omega) (by omega) (by omega) s O b9 A.lb (by omega)) (λu G k=>?_)
 obtain⟨rfl,M,J,V,a4⟩:=k
 have L:=b7.right D A V a4 e g (by omega)
 have K:=b6.trans (V.mono (by omega) g (by omega))
 refine .zn<|.region<|.mo rfl<|.ag rfl<|.nil<|bg ?_
 ·first
   |exact aS (j+1,b,r,_,_,M,G) ⟨⟨by simp only;omega,by simp only;omega,by simp only;omega,s⟩,J,K,L⟩ (by simp only;omega) (((((((kE.d rfl).d rfl).d rfl).d rfl).d rfl).d rfl).d rfl) rH
   |exact aS (a,j,r,_,_,M,G) ⟨⟨e,a7,by simp only;omega,s⟩,J,K,L⟩ (by simp only;omega) (((((((kE.d rfl).d rfl).d rfl).d rfl).d rfl).d rfl).d rfl) rH
   |exact aS (j,b,r,_,_,E,Q) ⟨⟨by simp only;omega,a6,g,s⟩,S,a3.trans (m.mono e g (by omega)),(a5.rp m e g).eqs D A⟩ (by simp only;omega) (((((((kE.d rfl).d rfl).d rfl).d rfl).d rfl).d rfl).d rfl) rH
 refine .gF i<|.gF i<|.gF i<|.gF i<|.gF i<|.gF i<|.gF i<|.gF i<|.gF i<|.gF i<|.nil<|.gF i<|.gF i<|.gF i<|.q (.bU i) ?_
 refine .zn<|.bB<|.kn<|.sr<|.mo rfl<|.mo rfl<|.mo rfl<|.mo rfl<|.mo rfl ?_
 refine .aQ (fy v a9 T6 a b q p _ b3 (by omega) ⟨c2,c3⟩ hp (by omega) (by omega) O a8 D) (λu Q k=>?_)
 obtain⟨E,j,e7,rfl,S,m,A⟩:=k
 have a7:=A.lo
 have a6:=A.hi
 have d9:=m.length
 have b9:∀x∈E,ok x:=λx W=>a8 x (m.perm.mem_iff.1 W)
 have b7:=a5.rp m e g
 have b6:RP H F xs E:=a3.trans (m.mono e g (by omega))
 have c6:=c5.rp m
 refine .mo rfl<|.q .extract<|.q .extract<|.ag rfl<|.ag rfl<|.z<|.mo rfl<|.ag rfl<|.z<|.mo rfl<|.mo rfl ?_
 refine .ia (j-a) .sub ?_
 refine .mo rfl<|.mo rfl ?_
 refine .ia (b-j) .sub ?_
 refine .ag rfl<|.ag rfl<|.z<|.mo rfl ?_
 refine .q (.i64 (((b-a)/8:Nat):Int) .quo ⟨by rw[acV (by omega)];omega,by omega,by omega⟩) ?_
 refine .ag rfl<|.z<|.mo rfl<|.mo rfl<|.q .lss<|.zn ?_
 refine .cond rfl (λh8=>?_) λh8=>?_
 refine .sr<|.mo rfl<|.mo rfl<|.q .geq<|.ag rfl<|.z<|.mo rfl<|.mo rfl<|.mo rfl<|.mo rfl<|.mo rfl ?_
 refine .aQ (ih v E Q a j r _ S (by omega) (by omega) (by omega) s O b9 (c6.less (by omega)) (by omega)) (λu G k=>?_)
 obtain⟨rfl,M,J,V,a4⟩:=k
 have L:=b7.left D A V a4 e g (by omega)
 have K:=b6.trans (V.mono e (by omega) (by omega))
 refine .zn<|.region<|.mo rfl ?_
 refine .ia (j+1) .add ?_
 refine .ag rfl<|.nil<|bg ?_
 ·first
   |exact aS (j+1,b,r,_,_,M,G) ⟨⟨by simp only;omega,by simp only;omega,by simp only;omega,s⟩,J,K,L⟩ (by simp only;omega) (((((((kE.d rfl).d rfl).d rfl).d rfl).d rfl).d rfl).d rfl) rH
   |exact aS (a,j,r,_,_,M,G) ⟨⟨e,a7,by simp only;omega,s⟩,J,K,L⟩ (by simp only;omega) (((((((kE.d rfl).d rfl).d rfl).d rfl).d rfl).d rfl).d rfl) rH
   |exact aS (j,b,r,_,_,E,Q) ⟨⟨by simp only;omega,a6,g,s⟩,S,a3.trans (m.mono e g (by omega)),(a5.rp m e g).eqs D A⟩ (by simp only;omega) (((((((kE.d rfl).d rfl).d rfl).d rfl).d rfl).d rfl).d rfl) rH
 refine .sr<|.mo rfl<|.mo rfl<|.q .geq<|.ag rfl<|.z<|.mo rfl<|.mo rfl ?_
 refine .ia (j+1) .add ?_
 refine .mo rfl<|.mo rfl<|.mo rfl ?_
 refine .aQ (ih v E Q (j+1) b r _ S (by omega) (by omega) (by omega) s O b9 A.lb (by omega)) (λu G k=>?_)
 obtain⟨rfl,M,J,V,a4⟩:=k
 have L:=b7.right D A V a4 e g (by omega)
 have K:=b6.trans (V.mono (by omega) g (by omega))
 refine .zn<|.region<|.mo rfl<|.ag rfl<|.nil<|bg ?_
 ·first
   |exact aS (j+1,b,r,_,_,M,G) ⟨⟨by simp only;omega,by simp only;omega,by simp only;omega,s⟩,J,K,L⟩ (by simp only;omega) (((((((kE.d rfl).d rfl).d rfl).d rfl).d rfl).d rfl).d rfl) rH
   |exact aS (a,j,r,_,_,M,G) ⟨⟨e,a7,by simp only;omega,s⟩,J,K,L⟩ (by simp only;omega) (((((((kE.d rfl).d rfl).d rfl).d rfl).d rfl).d rfl).d rfl) rH
   |exact aS (j,b,r,_,_,E,Q) ⟨⟨by simp only;omega,a6,g,s⟩,S,a3.trans (m.mono e g (by omega)),(a5.rp m e g).eqs D A⟩ (by simp only;omega) (((((((kE.d rfl).d rfl).d rfl).d rfl).d rfl).d rfl).d rfl) rH
theorem hX(q:SO (ap c))(n:Nat):fu c ok f caps n:=by
 induction n with
 |zero=>exact λv e T a b d R _ _ _ _ _ _ _ _ r=>by omega
 |succ n ih=>exact λv e T a b d R g h i j k l m o p=>hY n ih q v e T a b d R g h i j k l m o p
end
end SRW
namespace SRW
section
variable{c:aM->aM->Int}{ok:aM->Prop}{f:FuncId}{caps:List Value} [e:aL prog f]
theorem il(v:Value)(xs:List aM)(T:ay)(R:aC)(h:OS 152 9 aM.enc v xs T)(k:xs.length<=1000000000)(j:bR prog f caps R (λt:aM=>Value.agg t.enc.toArray) c ok)(l:∀x∈xs,ok x)(m:SO (ap c)):
  Spec prog 162 [v,.func (.func f) #[] caps.toArray] R [T] λu H'=>∃T',H'=[T']/\u=.tuple #[]/\∃ys,OS 152 9 aM.enc v ys T'/\ys.Perm xs/\SR (ap c) ys 0 ys.length:=by
 have r:=h.aF
 have i:Lib.bitLen xs.length<=1000000000:=by
  have p:=bitLen_le 64 xs.length
  have o:Lib.bitLen xs.length=Lib.bitLenAux 64 xs.length:=rfl
  omega
 refine Spec.body func162 rfl results162 ntmps162 rfl ?_
 refine .sr<|.mo rfl<|.q (.gL h) ?_
 refine .az rfl<|.region<|.mo rfl<|.mo rfl<|.mo rfl ?_
 refine .q (aV.cast (v':=.int .u64 ((xs.length:Nat):Int)) .dT (by rw[fN (by omega) (by omega)])) ?_
 refine .bx (js xs.length (by omega) _) (λu a=>?_)
 subst a
 refine .mo rfl ?_
 refine .aQ (hX m (xs.length+1) v xs T 0 xs.length (Lib.bitLen xs.length) _ h (Nat.zero_le _) (acS _) k i j l (λd=>absurd d (by omega)) (by omega)) (λu n a=>?_)
 obtain⟨rfl,ys,e,b,g⟩:=a
 refine .nil<|cz _ .none rH ?_
 ·exact⟨_,rfl,rfl,ys,e,b.perm,b.length▸g⟩
end
end SRW
set_option linter.unusedSimpArgs false
theorem Ce(a b:aM)(R:aC):Spec prog 163 [.agg a.enc.toArray,.agg b.enc.toArray] R [] λv H'=>v=.int .i64 (jB a b)/\H'=[]:=by
 refine Spec.body func163 rfl results163 ntmps163 rfl ?_
 refine .sr ?_
 refine .cQ rfl (λe=>?_)
 refine .cQ rfl (λf=>?_)
 refine .ag rfl<|.zs<|.bN [] mixed ?_
 refine .tO 0 rfl (.fieldAddr rfl) ?_
 refine .tO 1 rfl (.loadT rfl) ?_
 refine .tO 2 rfl (.fieldAddr rfl) ?_
 refine .tO 3 rfl (.loadT rfl) ?_
 refine .tO 5 rfl (.fieldAddr rfl)<|.tO 6 rfl (.cj rfl)<|.tO 7 rfl (.fieldAddr rfl)<|.tO 8 rfl (.cj rfl) ?_
 refine .sT 4 rfl ?_
 refine .bx (Bl a.t b.t _) (λv c=>?_)
 subst c
 refine .nil (Next.sub ?_)
 refine .sT 9 rfl ?_
 refine .bx (qA a.fr b.fr _) (λv c=>?_)
 subst c
 refine .nil (Next.sub ?_)
 refine .sT 10 rfl ?_
 refine .iR [_,_] (λd=>?_)
 refine .nil (Next.sub ?_)
 refine .sT 11 rfl ?_
 refine .bx (lx _ [eD a.t b.t,dU a.fr b.fr] _ (RS.lits rfl (by simp[gZ]) (by simp[gZ,aF]))) (λv c=>?_)
 subst c
 refine .nil (Next.sub ?_)
 refine .tO 12 rfl .assign ?_
 refine RA.nil (by kernel_rfl) ?_
 refine aI ?_
 refine .ret (cf rfl ?_)
 ·exact⟨rfl,rfl⟩
theorem p5(R:aC):bR prog 163 [] R (λx:aM=>Value.agg x.enc.toArray) jB (λ_=>True):=λx y _ _ a _=>Ce x y a
theorem BK{R:aC}{g:Nat}{S:cZ}{ps:List RB}{vf vr:Value}{m:List (ej×(Value×ay))}{Y:List (Sub×(Value×ay))}(h:SV R g S ps vf vr m Y)(N:S.rows.length<=4096):
  Spec prog 89 [pT g] R [] λu H'=>∃T,H'=[T]/\∃ys,OS 152 9 aM.enc u ys T/\ys.Perm S.rows/\lH ys:=by
 have pc:=h.pc
 have b8:=h.of
 have b9:=h.or
 have U:ps.length<=4096:=by rw[<-h.eq,List.length_map]at N;exact N
 refine Spec.eg (H':=[[],[]]) (by simp) ?_
 refine Spec.body func89 rfl results89 ntmps89 rfl ?_
 refine .sr<|.ag rfl<|.zs<|.sr<|.mo rfl ?_
 refine .bx (h.mono λb o hb=>.inl hb).ok (λv hv=>?_)
 subst hv
 refine .q .not<|.zn<|.bB<|.kn<|.sr<|.ag rfl<|.zs<|.sr<|.mo rfl<|.nc rfl<|.fa rfl<|.lo rfl ?_
 refine .range h.mf (λ_ _=>.inl) rfl (λB a0 a4=>?_)
 refine .zn<|.block ?_
 refine .loop (X:=List aM×List ej×Value×ay×ay) (λy=>y.2.1.Nodup/\y.1.Perm ((ps.filter λp=>decide (p.2.t.dN∉y.2.1)).map (·.2))/\OS 152 9 aM.enc y.2.2.1 y.1 y.2.2.2.1/\It R (λk:ej=>.agg k.enc.toArray) (λp:Value×ay=>p.1) vf m B y.2.1 y.2.2.2.2) (λy=>[(3,y.2.2.1),(15,B)]) (λy=>[y.2.2.2.1,y.2.2.2.2]) (λy=>y.2.1.length) ([],m.map (·.1),sZ,[],a0) ⟨h.nf,by
  rw[List.filter_eq_nil_iff.2 λp Q=>by simp[h.af p Q]];exact .refl _,OS.nil,a4⟩ kE.c.c ((cw [1,0])) ?_
 rintro⟨l,D,W,F,Ti⟩ ⟨w,i,e,K⟩
 simp only at w i e K⊢
 have io:=e.aF
 have b6:l.length<=4096:=by
  rw[i.length_eq,List.length_map]
  exact Nat.le_trans (List.length_filter_le _ _) U
 refine .sr ?_
 refine .kq K (λ_ _=>.inl) rfl (λb rest E hf ht=>?_)
 refine .q .extract<|.zs ?_
 refine .cond rfl (λn=>?_) λn=>?_
 obtain⟨k,⟨v0,T0⟩,M,a6,L⟩:=ht n
 obtain⟨V,G,s,a9⟩:=h.lf k
 rw[a6]at s
 simp only[Option.map_some,Option.getD_some]at s
 subst s
 have a3:=nX w M
 have I:RS R 1 qO (.slice V (ids (λx=>x.t.dN) k ps).length G) (fJ (λx=>x.t.dN) k ps):=RS.of_map (enc:=iB) (f:=λp:RB=>p.1) a9
 have b5:(fJ (λx=>x.t.dN) k ps).length<=4096:=Nat.le_trans (List.length_filter_le _ _) U
 have b4:(ids (λx=>x.t.dN) k ps).length=(fJ (λx=>x.t.dN) k ps).length:=by rw[AI,List.length_map]
 refine .kn<|.block<|.sr ?_
 refine .q (.entry L (λ_ _=>.inl) rfl) ?_
 refine .q .extract<|.ag rfl<|.z<|.mo rfl<|.q (.dw I) ?_
 refine .mo rfl<|.zn<|.block ?_
 refine .loop (X:=Nat×Value×ay) (λy=>y.1<=(fJ (λx=>x.t.dN) k ps).length/\OS 152 9 aM.enc y.2.1 (l++((fJ (λx=>x.t.dN) k ps).take y.1).map (·.2)) y.2.2) (λy=>[(3,y.2.1),(15,B),(20,.slice V (ids (λx=>x.t.dN) k ps).length G),(21,.int .i64 ((fJ (λx=>x.t.dN) k ps).length:Nat)),(22,iN y.1)]) (λy=>[y.2.2,E]) (λy=>(fJ (λx=>x.t.dN) k ps).length-y.1) (0,W,F) ⟨Nat.zero_le _,by simpa using e⟩ kE.c.c.c.c.c rH ?_
 rintro⟨j,v1,a1⟩ ⟨hj,d⟩
 simp only at hj d⊢
 have b7:=d.aF
 refine .sr<|.q .lss<|.zs ?_
 refine .cond rfl (λr=>?_) λr=>?_
 have O:j<(fJ (λx=>x.t.dN) k ps).length:=by have:=bp r;omega
 obtain⟨⟨b,x⟩,A⟩:=eo O
 have px:PC R (pT b) x.enc:=h.pr _ (List.mem_filter.1 (aG A)).1
 have b2:(fJ (λx=>x.t.dN) k ps).take (j+1)=(fJ (λx=>x.t.dN) k ps).take j++[(b,x)]:=by rw[List.take_add_one,A];rfl
 refine .kn<|.seq<|.block<|.sr ?_
 refine .dm j I A (λc0=>?_)
 refine .lo rfl<|.az rfl<|.region<|.mo rfl<|.mo rfl ?_
 refine .nc rfl<|.q (.aD rfl) ?_
 refine .iQ (λb3=>?_)
 refine .append d (RS.lits (xs:=[x]) rfl (by simp[aM.enc,bs.enc]) (by simp[aM.enc,bs.enc,aF])) (by simp;omega) (λv5 T5 a2=>?_)
 refine .ag rfl<|.nil<|bg<|aI<|.region ?_
 refine .ia (j+1) .add ?_
 refine .mo rfl<|.nil ?_
 ·exact aS (j+1,v5,T5) ⟨O,by simp only;rw[b2,List.map_append, <-List.append_assoc];exact a2⟩ (by simp only;omega) kE.c.c.c.c.c (cw [1,1])
 have a5:j=(fJ (λx=>x.t.dN) k ps).length:=by have:=bc r;omega
 subst a5
 rw[List.take_length]at d
 refine .exit<|aT<|aW<|aU<|bg ?_
 ·refine aS (l++(fJ (λx=>x.t.dN) k ps).map (·.2),D.filter λC=>decide (C≠k),v1,a1,E) ⟨w.sublist List.filter_sublist,?_,d,L.it⟩ ?_ kE.c.c (cw [0,0])
  ·simp only
   have h9:=nZ (a:=λp:RB=>decide (p.2.t.dN∉D)) (b:=λp:RB=>decide (p.2.t.dN=k)) (c:=λp:RB=>decide (p.2.t.dN∉D.filter λC=>decide (C≠k))) ps λp _=>by
    by_cases H:p.2.t.dN=k
    ·rw[H];simp[M]
    ·simp[H]
   refine List.Perm.trans ?_ (h9.map _).symm
   rw[List.map_append]
   exact i.append (.refl _)
  ·have:=a3.length_eq
   simp only[List.length_cons]at this
   simp only;omega
 have b1:=hf n
 subst b1
 have a7:l.Perm S.rows:=by
  refine i.trans (.of_eq ?_)
  rw[<-h.eq,List.filter_eq_self.2 λp _=>by simp]
 refine .exit<|aT<|aW<|aU<|aI<|.sr<|.mo rfl ?_
 refine .aQ (SRW.il (caps:=[]) W _ F _ e (by omega) (p5 _) (λp Q=>trivial) oW.so) (λu Z hu=>?_)
 obtain⟨rfl,ys,J,a8,b0⟩:=hu
 have i5:=J.aF
 refine .z<|.mo rfl<|.az rfl ?_
 refine .ret (bb _ (.one (.tmp rfl)) ((cw [0])) ?_)
 ·exact⟨Z,by simp[take,bM],ys,J,a8.trans a7,b0.ordered⟩
namespace SGC
section
variable{c:GP->GP->Int}{ok:GP->Prop}{f:FuncId}{caps:List Value} [e:aL prog f]
theorem hG(v:Value)(xs:List GP)(T:ay)(a b:Nat)(R:aC)(h:OS 137 9 bz v xs T)(a3:a<=b)(J:b<=xs.length)(hl:xs.length<=1000000000)(O:bR prog f caps R (λp:GP=>Value.agg (bz p).toArray) c ok)(K:∀x∈xs,ok x)(G:SO (ap c)):
  Spec prog 337 [v,.int .i64 a,.int .i64 b,.func (.func f) #[] caps.toArray] R [T] λu H'=>∃T',H'=[T']/\u=.tuple #[]/\∃ys,OS 137 9 bz v ys T'/\RP a b xs ys/\SR (ap c) ys a b:=by
 have iv:=h.aF
 refine Spec.body func337 rfl results337 ntmps337 rfl ?_
 refine .sr<|.mo rfl ?_
 refine .ia (a+1) .add ?_
 refine .az rfl<|.block ?_
 refine .loop (X:=Nat×List GP×ay) (λy=>(a+1<=y.1/\(y.1<=b\/y.1=a+1))/\OS 137 9 bz v y.2.1 y.2.2/\RP a b xs y.2.1/\SR (ap c) y.2.1 a y.1) (λy=>[(0,v),(1,iN a),(2,iN b),(3,.func (.func f) #[] caps.toArray),(8,iN y.1)]) (λy=>[y.2.2]) (λy=>b-y.1) (a+1,xs,T) ⟨⟨by simp only;omega,.inr rfl⟩,h,.refl _,λi j s m I=>by simp only at I;omega⟩ kE.c.c.c.c.c rH ?_
 rintro⟨i,ys,M⟩ ⟨⟨Q,S⟩,D,C,E⟩
 simp only at Q S D C E⊢
 have a6:=C.length
 refine .seq<|.sr<|.mo rfl<|.mo rfl<|.q .lss<|.zn ?_
 refine .cond rfl (λs=>?_) λs=>?_
 have a5:i<b:=by simp at s;omega
 refine .kn<|.seq<|.block<|.sr<|.mo rfl<|.az rfl<|.block ?_
 refine .loop (X:=Nat×List GP×ay) (λy=>(a<=y.1/\y.1<=i)/\OS 137 9 bz v y.2.1 y.2.2/\RP a b xs y.2.1/\eP (ap c) y.2.1 a y.1 (i+1)) (λy=>[(0,v),(1,iN a),(2,iN b),(3,.func (.func f) #[] caps.toArray),(8,iN i),(9,iN y.1)]) (λy=>[y.2.2]) (λy=>y.1) (i,ys,M) ⟨⟨by simp only;omega,acS _⟩,D,C,E.ins⟩ kE.c.c.c.c.c.c rH ?_
 rintro⟨j,z,H⟩ ⟨⟨U,V⟩,e,n,B⟩
 simp only at U V e n B⊢
 have a7:=n.length
 refine .seq<|.seq ?_
 refine .bO 14 mixed (by kernel_rfl) ?_
 conv=>arg 6;dsimp only[List.take]
 refine .mo rfl<|.mo rfl<|.q .gtr<|.mo rfl ?_
 refine .split (t:=21) rfl (λd=>?_) (λd=>?_)
 have F:a<j:=by have:=bp d;omega
 obtain⟨x,g⟩:∃x,z[j]? =some x:=⟨_,aE (by omega)⟩
 obtain⟨y,l⟩:∃x,z[j-1]? =some x:=⟨_,aE (by omega)⟩
 have a0:=K x (n.perm.mem_iff.1 (aG g))
 have a1:=K y (n.perm.mem_iff.1 (aG l))
 refine .gT d<|.mo rfl<|.gT d<|.mo rfl<|.gT d<|.mo rfl<|.gT d ?_
 refine .ar j e g (λa8=>?_)
 refine .gT d<|.q (.aD rfl)<|.gT d<|.mo rfl<|.gT d<|.mo rfl<|.gT d ?_
 refine .ia (j-1) .sub ?_
 refine .gT d ?_
 refine .ar (j-1) e l (λa9=>?_)
 refine .gT d<|.q (.aD rfl)<|.nil<|.gT d ?_
 refine .bV (first:=[]) (captured:=caps) (vs:=[(λp:GP=>Value.agg (bz p).toArray) x,(λp:GP=>Value.agg (bz p).toArray) y]) (O x y a0 a1 _ (λb o J=>.inl J)) (λu r=>?_)
 subst r
 refine .gT d<|.q .lss<|.q (.bX d) ?_
 refine .zn ?_
 refine .cond rfl (λm=>?_) λm=>?_
 refine .kn<|.seq<|.block<|.bN [15,17] mixed ?_
 refine .tO 0 rfl .move<|.tO 1 rfl .move<|.tK 2 rfl .move<|.tK 3 rfl .move ?_
 refine .take 4 rfl (.i64 ((j-1:Nat):Int) .sub ⟨by omega,by omega,by omega⟩) (by kernel_rfl) ?_
 refine .tO 5 rfl .move<|.tO 6 rfl .move ?_
 refine .cA 7 rfl (.i64 ((j-1:Nat):Int) .sub ⟨by omega,by omega,by omega⟩) (by kernel_rfl) ?_
 refine RA.ar 8 rfl (j-1) e l rfl rfl rfl (by kernel_rfl) (λb0=>?_)
 refine .tO 9 rfl (.aD rfl)<|.tO 10 rfl .move<|.tO 11 rfl .move ?_
 refine RA.ar 12 rfl (j) e g rfl rfl rfl (by kernel_rfl) (λb1=>?_)
 refine .tO 13 rfl (.aD rfl) ?_
 refine RA.ar 14 rfl (j) e g rfl rfl rfl (by kernel_rfl) (λb2=>?_)
 refine .sT 15 rfl ?_
 refine .bh (j) e g y (λa2 Y=>?_) (e.one _ (aG l))
 refine .nil (Next.mod rfl ?_)
 refine RA.ar 16 rfl (j-1) e l rfl rfl rfl (by kernel_rfl) (λb3=>?_)
 refine .sT 17 rfl ?_
 obtain⟨zz,Z⟩:∃u,(z.set (j) y)[j-1]? =some u:=⟨_,aE (by rw[acT];exact(acU.1 l).1)⟩
 refine .bh (j-1) Y Z x (λN L=>?_) (e.one _ (aG g))
 rw[<-bP g l]at L
 refine .nil (Next.mod rfl ?_)
 refine RA.nil (by kernel_rfl) ?_
 refine bg<|aI<|.region<|.mo rfl ?_
 refine .ia (j-1) .sub ?_
 refine .ag rfl<|.nil ?_
 ·have W:ap c x y=true:=m
  exact aS (j-1,bi z j (j-1),N) ⟨⟨by simp only;omega,by simp only;omega⟩,L,n.step (by omega) (by omega) (by omega) (by omega) (by omega),B.step G (by omega) (by omega) F g l W⟩ (by simp only;omega) kE.c.c.c.c.c.c rH
 refine .exit<|aT<|aW<|aU<|bg<|aI<|.region<|.mo rfl ?_
 refine .ia (i+1) .add ?_
 refine .ag rfl<|.nil ?_
 ·refine aS (i+1,z,H) ⟨⟨by simp only;omega,.inl (by simp only;omega)⟩,e,n,B.done G (by omega) (by omega) ?_⟩ (by simp only;omega) kE.c.c.c.c.c rH
  first
   |exact .inr ⟨F,λu w r A=>by
     rw[l]at r;rw[g]at A;cases r;cases A;exact m⟩
   |exact .inl (by have:=bc d;omega)
 refine .gF d<|.gF d<|.gF d<|.gF d<|.gF d<|.gF d<|.gF d<|.gF d<|.gF d<|.gF d<|.nil<|.gF d<|.gF d<|.q (.bU d) ?_
 refine .zn<|.bB<|.exit<|aT<|aW<|aU<|bg<|aI<|.region<|.mo rfl ?_
 refine .ia (i+1) .add ?_
 refine .ag rfl<|.nil ?_
 ·refine aS (i+1,z,H) ⟨⟨by simp only;omega,.inl (by simp only;omega)⟩,e,n,B.done G (by omega) (by omega) ?_⟩ (by simp only;omega) kE.c.c.c.c.c rH
  first
   |exact .inr ⟨F,λu w r A=>by
     rw[l]at r;rw[g]at A;cases r;cases A;exact m⟩
   |exact .inl (by have:=bc d;omega)
 refine .exit<|aT<|aW<|aU<|cz _ .none rH ?_
 ·have a4:b<=i:=by simp at s;omega
  exact⟨_,rfl,rfl,ys,D,C,λj k s m I=>E j k s m (by omega)⟩
theorem fA(v:Value)(xs:List GP)(T:ay)(lo k d:Nat)(R:aC)(h:OS 137 9 bz v xs T)(b2:lo<=k)(W:d+k<=xs.length)(hl:xs.length<=1000000000)(hf:bR prog f caps R (λp:GP=>Value.agg (bz p).toArray) c ok)(a4:∀x∈xs,ok x)(K:SO (ap c)):
    Spec prog 415 [v,.int .i64 lo,.int .i64 k,.int .i64 d,.func (.func f) #[] caps.toArray] R [T] λu H'=>∃T',H'=[T']/\u=.tuple #[]/\∃ys,OS 137 9 bz v ys T'/\RP d (d+k) xs ys/\
      (eb (λx y=>ap c y x) (xs.drop d) k lo lo->dz (λx y=>ap c y x) (ys.drop d) k lo):=by
  have iv:=h.aF
  have a5:=K.rev
  refine Spec.body func415 rfl results415 ntmps415 rfl ?_
  refine .sr<|.mo rfl<|.az rfl<|.block ?_
  refine .loop (X:=Nat×List GP×ay) (λy=>(lo<=y.1/\y.1<=k)/\OS 137 9 bz v y.2.1 y.2.2/\RP d (d+k) xs y.2.1/\(eb (λx y=>ap c y x) (xs.drop d) k lo lo->eb (λx y=>ap c y x) (y.2.1.drop d) k lo y.1)) (λy=>[(0,v),(2,iN k),(3,iN d),(4,.func (.func f) #[] caps.toArray),(10,iN y.1)]) (λy=>[y.2.2]) (λy=>k-y.1) (lo,xs,T) ⟨⟨acS _,b2⟩,h,.refl _,λh=>h⟩ kE.c.c.c.c.c rH ?_
  rintro⟨r,ys,T1⟩ ⟨⟨a7,b4⟩,m,E,V⟩
  simp only at a7 b4 m E V⊢
  have c2:=E.length
  have c1:(ys.drop d).length=ys.length-d:=acW
  refine .block<|.sr<|.mo rfl ?_
  refine .ia (2*r) .mul ?_
  refine .ia (2*r+1) .add ?_
  refine .ag rfl<|.zs<|.sr<|.mo rfl<|.mo rfl<|.q .geq<|.zn ?_
  refine .cond rfl (λO=>?_) λO=>?_
  have b9:k<=2*r+1:=by have:=bp O;omega
  refine .exit (aT (du (aW (aU ?_))))
  refine cz _ .none rH ?_
  ·refine⟨_,rfl,rfl,ys,m,E,λS=>(V S).stop λa D F l u w g U=>?_⟩
   first
     |(simp only[aX]at l;omega)
     |(rw[cP]at g U
       rw[A]at g;cases g
       have Q:(!ap c H x)=true:=M
       exact a5.dD _ _ _ (Y a w D F l U) (by simpa using Q))
  have N:2*r+1<k:=by have:=bc O;omega
  obtain⟨H,A⟩:∃y,ys[d+r]? =some y:=⟨_,aE (by omega)⟩
  obtain⟨s,n⟩:∃y,ys[d+(2*r+1)]? =some y:=⟨_,aE (by omega)⟩
  have b7:=a4 H (E.perm.mem_iff.1 (aG A))
  have J:=a4 s (E.perm.mem_iff.1 (aG n))
  refine .kn<|.seq ?_
  refine bk.cut (X:=Nat×GP) (λz=>0<z.1/\z.1<k/\aX z.1=r/\ys[d+z.1]? =some z.2/\ok z.2/\∀a u,0<a->a<k->aX a=r->ys[d+a]? =some u->ap c z.2 u=false) (λz=>[(0,v),(2,iN k),(3,iN d),(4,.func (.func f) #[] caps.toArray),(10,iN r),(11,iN z.1)]) (λz=>[T1]) ?_ ?_
  refine .seq ?_
  refine .bO 19 mixed (by kernel_rfl) ?_
  conv=>arg 6;dsimp only[List.take]
  refine .mo rfl ?_
  refine .ia (2*r+2) .add ?_
  refine .mo rfl<|.q .lss<|.mo rfl ?_
  refine .split (t:=23) rfl (λe=>?_) (λe=>?_)
  have a2:2*r+2<k:=by have:=bp e;omega
  obtain⟨L,C⟩:∃y,ys[d+(2*r+2)]? =some y:=⟨_,aE (by omega)⟩
  have Z:=a4 L (E.perm.mem_iff.1 (aG C))
  refine .gT e<|.mo rfl<|.gT e<|.mo rfl<|.gT e<|.mo rfl<|.gT e<|.mo rfl<|.gT e ?_
  refine .ia (d+(2*r+1)) .add ?_
  refine .gT e ?_
  refine .ar (d+(2*r+1)) m n (λc3=>?_)
  refine .gT e<|.q (.aD rfl)<|.gT e<|.mo rfl<|.gT e<|.mo rfl<|.gT e<|.mo rfl<|.gT e ?_
  refine .ia (d+(2*r+1)) .add ?_
  refine .gT e ?_
  refine .ia (d+(2*r+2)) .add ?_
  refine .gT e ?_
  refine .ar (d+(2*r+2)) m C (λc4=>?_)
  refine .gT e<|.q (.aD rfl)<|.nil<|.gT e ?_
  refine .bV (first:=[]) (captured:=caps) (vs:=[(λp:GP=>Value.agg (bz p).toArray) s,(λp:GP=>Value.agg (bz p).toArray) L]) (hf s L J Z _ (λb o W=>.inl W)) (λu g=>?_)
  subst g
  refine .gT e<|.q .lss<|.q (.bX e) ?_
  refine .zn ?_
  refine .cond rfl (λI=>?_) λI=>?_
  have a3:∀a u,0<a->a<k->aX a=r->ys[d+a]? =some u->ap c L u=false:=λa u D F l g=>by
    have:a=2*r+1\/a=2*r+2:=by simp only[aX]at l;omega
    rcases this with rfl|rfl
    ·rw[n]at g;cases g;exact K.fR I
    ·rw[C]at g;cases g;exact K.cG _
  refine .region<|.mo rfl ?_
  refine .ia (2*r+2) .add ?_
  refine .ag rfl<|.nil ?_
  ·first
      |exact ax (2*r+2,L) ⟨by simp only;omega,a2,by simp only[aX];omega,C,Z,a3⟩ kE.c.c.c.c.c.c rH
      |exact ax (2*r+1,s) ⟨by simp only;omega,N,by simp only[aX];omega,n,J,B⟩ kE.c.c.c.c.c.c rH
      |(have B:∀a u,0<a->a<k->aX a=r->ys[d+a]? =some u->ap c s u=false:=λa u D F l g=>by
           have:a=2*r+1\/a=2*r+2:=by simp only[aX]at l;omega
           rcases this with rfl|rfl
           ·rw[n]at g;cases g;exact K.cG _
           ·rw[C]at g;cases g;exact I
        exact ax (2*r+1,s) ⟨by simp only;omega,N,by simp only[aX];omega,n,J,B⟩ kE.c.c.c.c.c.c rH)
  refine .skip ?_
  ·first
      |exact ax (2*r+2,L) ⟨by simp only;omega,a2,by simp only[aX];omega,C,Z,a3⟩ kE.c.c.c.c.c.c rH
      |exact ax (2*r+1,s) ⟨by simp only;omega,N,by simp only[aX];omega,n,J,B⟩ kE.c.c.c.c.c.c rH
      |(have B:∀a u,0<a->a<k->aX a=r->ys[d+a]? =some u->ap c s u=false:=λa u D F l g=>by
           have:a=2*r+1\/a=2*r+2:=by simp only[aX]at l;omega
           rcases this with rfl|rfl
           ·rw[n]at g;cases g;exact K.cG _
           ·rw[C]at g;cases g;exact I
        exact ax (2*r+1,s) ⟨by simp only;omega,N,by simp only[aX];omega,n,J,B⟩ kE.c.c.c.c.c.c rH)
  have B:∀a u,0<a->a<k->aX a=r->ys[d+a]? =some u->ap c s u=false:=λa u D F l g=>by
    have:a=2*r+1:=by have:=bc e;simp only[aX]at l;omega
    subst this
    rw[n]at g;cases g;exact K.cG _
  refine .gF e<|.gF e<|.gF e<|.gF e<|.gF e<|.gF e<|.gF e<|.gF e<|.gF e<|.gF e<|.gF e<|.gF e<|.gF e<|.gF e<|.nil<|.gF e<|.gF e<|.q (.bU e) ?_
  refine .zn<|.bB<|.skip ?_
  ·first
      |exact ax (2*r+2,L) ⟨by simp only;omega,a2,by simp only[aX];omega,C,Z,a3⟩ kE.c.c.c.c.c.c rH
      |exact ax (2*r+1,s) ⟨by simp only;omega,N,by simp only[aX];omega,n,J,B⟩ kE.c.c.c.c.c.c rH
      |(have B:∀a u,0<a->a<k->aX a=r->ys[d+a]? =some u->ap c s u=false:=λa u D F l g=>by
           have:a=2*r+1\/a=2*r+2:=by simp only[aX]at l;omega
           rcases this with rfl|rfl
           ·rw[n]at g;cases g;exact K.cG _
           ·rw[C]at g;cases g;exact I
        exact ax (2*r+1,s) ⟨by simp only;omega,N,by simp only[aX];omega,n,J,B⟩ kE.c.c.c.c.c.c rH)
  intro y hy
  obtain⟨j,x⟩:=y
  obtain⟨a0,a6,a1,G,a9,Y⟩:=hy
  simp only at a0 a6 a1 G a9 Y⊢
  have c0:r<j:=a1▸dO a0
  refine aI<|.seq<|.seq ?_
  refine .bO 13 mixed (by kernel_rfl) ?_
  conv=>arg 6;dsimp only[List.take]
  refine .mo rfl<|.mo rfl<|.mo rfl<|.mo rfl ?_
  refine .ia (d+r) .add ?_
  refine .ar (d+r) m A (λc5=>?_)
  refine .q (.aD rfl)<|.mo rfl<|.mo rfl<|.mo rfl ?_
  refine .ia (d+j) .add ?_
  refine .ar (d+j) m G (λc6=>?_)
  refine .q (.aD rfl)<|.nil ?_
  refine .bV (first:=[]) (captured:=caps) (vs:=[(λp:GP=>Value.agg (bz p).toArray) H,(λp:GP=>Value.agg (bz p).toArray) x]) (hf H x b7 a9 _ (λb o W=>.inl W)) (λu g=>?_)
  subst g
  refine .q .lss<|.q .not<|.zn ?_
  refine .cond rfl (λM=>?_) λM=>?_
  refine .ret (bq (bu (cH (bu (bb _ .none rH ?_)))))
  ·refine⟨_,rfl,rfl,ys,m,E,λS=>(V S).stop λa D F l u w g U=>?_⟩
   first
     |(simp only[aX]at l;omega)
     |(rw[cP]at g U
       rw[A]at g;cases g
       have Q:(!ap c H x)=true:=M
       exact a5.dD _ _ _ (Y a w D F l U) (by simpa using Q))
  refine .kn<|.seq<|.bN [21,23] mixed ?_
  refine .tO 0 rfl .move<|.tO 1 rfl .move<|.tO 2 rfl .move ?_
  refine .cA 3 rfl (.i64 ((d+r:Nat):Int) .add ⟨by omega,by omega,by omega⟩) (by kernel_rfl) ?_
  refine .tK 4 rfl .move<|.tK 5 rfl .move<|.tK 6 rfl .move ?_
  refine .take 7 rfl (.i64 ((d+j:Nat):Int) .add ⟨by omega,by omega,by omega⟩) (by kernel_rfl) ?_
  refine .tO 8 rfl .move<|.tO 9 rfl .move<|.tO 10 rfl .move ?_
  refine .cA 11 rfl (.i64 ((d+j:Nat):Int) .add ⟨by omega,by omega,by omega⟩) (by kernel_rfl) ?_
  refine RA.ar 12 rfl (d+j) m G rfl rfl rfl (by kernel_rfl) (λc7=>?_)
  refine .tO 13 rfl (.aD rfl)<|.tO 14 rfl .move<|.tO 15 rfl .move<|.tO 16 rfl .move ?_
  refine .cA 17 rfl (.i64 ((d+r:Nat):Int) .add ⟨by omega,by omega,by omega⟩) (by kernel_rfl) ?_
  refine RA.ar 18 rfl (d+r) m A rfl rfl rfl (by kernel_rfl) (λc8=>?_)
  refine .tO 19 rfl (.aD rfl) ?_
  refine RA.ar 20 rfl (d+r) m A rfl rfl rfl (by kernel_rfl) (λc9=>?_)
  refine .sT 21 rfl ?_
  refine .bh (d+r) m A x (λb8 b5=>?_) (m.one _ (aG G))
  refine .nil (Next.mod rfl ?_)
  refine RA.ar 22 rfl (d+j) m G rfl rfl rfl (by kernel_rfl) (λd0=>?_)
  refine .sT 23 rfl ?_
  obtain⟨zz,b6⟩:∃u,(ys.set (d+r) x)[d+j]? =some u:=⟨_,aE (by rw[acT];exact(acU.1 G).1)⟩
  refine .bh (d+j) b5 b6 H (λb0 a8=>?_) (m.one _ (aG A))
  rw[<-bP A G]at a8
  refine .nil (Next.mod rfl ?_)
  refine RA.nil (by kernel_rfl) ?_
  refine aI<|.region<|.mo rfl<|.ag rfl<|.nil<|bg ?_
  ·have b3:ap c H x=true:=by
      have Q:(!ap c H x)=false:=M
      simpa using Q
   have b1:=gE (xs:=ys) (f:=d) (i:=r) (j:=j) (by omega) (by omega)
   exact aS (j,bi ys (d+r) (d+j),b0) ⟨⟨by simp only;omega,by simp only;omega⟩,a8,E.step (by omega) (by omega) (by omega) (by omega) (by omega),λS=>by
     simp only
     rw[b1]
     exact(V S).step a5 a7 a0 a6 (by omega) a1 (by rw[cP];exact G) (by rw[cP];exact A) b3 λa z O I M h4=>Y a z O I M (by rw[<-cP];exact h4)⟩ (by simp only;omega) kE.c.c.c.c.c rH
end
end SGC
namespace SGC
section
variable{c:GP->GP->Int}{ok:GP->Prop}{f:FuncId}{caps:List Value} [e:aL prog f]
theorem hF(v:Value)(xs:List GP)(T:ay)(a b:Nat)(R:aC)(h:OS 137 9 bz v xs T)(a8:a<=b)(hb:b<=xs.length)(hl:xs.length<=1000000000)(M:bR prog f caps R (λp:GP=>Value.agg (bz p).toArray) c ok)(N:∀x∈xs,ok x)(G:SO (ap c)):
  Spec prog 338 [v,.int .i64 a,.int .i64 b,.func (.func f) #[] caps.toArray] R [T] λu H'=>∃T',H'=[T']/\u=.tuple #[]/\∃ys,OS 137 9 bz v ys T'/\RP a b xs ys/\SR (ap c) ys a b:=by
 have iv:=h.aF
 have a6:=G.rev
 obtain⟨n,hn⟩:∃n,b=a+n:=⟨b-a,by omega⟩
 subst hn
 refine Spec.body func338 rfl results338 ntmps338 rfl ?_
 refine .sr<|.mo rfl<|.ag rfl<|.z<|.ag rfl<|.z<|.mo rfl<|.mo rfl ?_
 refine .ia (n) .sub ?_
 refine .ag rfl<|.zs<|.sr<|.mo rfl ?_
 refine .q (.i64 ((n:Int)-1) .sub ⟨rfl,by omega,by omega⟩) ?_
 refine .q (.i64 (((n-1)/2:Nat):Int) .quo ⟨kM,by omega,by omega⟩) ?_
 refine .az rfl<|.block ?_
 refine .loop (X:=Nat×Int×List GP×ay) (λy=>(y.2.1=(y.1:Int)-1/\y.1<=n+1)/\OS 137 9 bz v y.2.2.1 y.2.2.2/\RP a (a+n) xs y.2.2.1/\dz (λx y=>ap c y x) (y.2.2.1.drop a) n y.1) (λy=>[(0,v),(3,.func (.func f) #[] caps.toArray),(8,iN a),(9,.int .i64 ((0:Nat):Int)),(10,iN n),(11,.int .i64 y.2.1)]) (λy=>[y.2.2.2]) (λy=>y.1) ((n-1)/2+1,(((n-1)/2:Nat):Int),xs,T) ⟨⟨by simp only;omega,by simp only;omega⟩,h,.refl _,λk V hk hp=>by simp only[aX]at hp;omega⟩ kE.c.c.c.c.c.c rH ?_
 rintro⟨m,z,ys,H⟩ ⟨⟨hz,hm⟩,C,s,B⟩
 simp only at hz hm C s B⊢
 have a9:=s.length
 refine .seq<|.sr<|.mo rfl<|.q .geq<|.zn ?_
 refine .cond rfl (λo=>?_) λo=>?_
 have a3:0<=z:=bp o
 obtain⟨k,rfl⟩:∃k,m=k+1:=⟨m-1,by omega⟩
 obtain rfl:z=(k:Int):=by omega
 refine .kn<|.seq<|.block<|.region<|.mo rfl<|.mo rfl<|.mo rfl<|.mo rfl<|.mo rfl ?_
 refine .aQ (fA (c:=c) (ok:=ok) v ys H k n a _ C (by omega) (by omega) (by omega) M (λx e=>N x (s.perm.mem_iff.1 e)) G) (λu I F=>?_)
 obtain⟨rfl,g,d,l,r⟩:=F
 refine .nil<|bg<|aI<|.region<|.mo rfl ?_
 refine .q (.i64 ((k:Int)-1) .sub ⟨rfl,by omega,by omega⟩) ?_
 refine .ag rfl<|.nil ?_
 ·exact aS (k,(k:Int)-1,g,I) ⟨⟨rfl,by simp only;omega⟩,d,s.trans l,r B.hole⟩ (by simp only;omega) kE.c.c.c.c.c.c rH
 have E:m=0:=by have:=bc o;omega
 subst E
 refine .exit<|aT<|aW<|aU<|aI<|.sr<|.mo rfl ?_
 refine .q (.i64 ((n:Int)-1) .sub ⟨rfl,by omega,by omega⟩) ?_
 refine .az rfl<|.block ?_
 refine .loop (X:=Nat×Int×List GP×ay) (λy=>(y.2.1=(y.1:Int)-1/\y.1<=n)/\OS 137 9 bz v y.2.2.1 y.2.2.2/\RP a (a+n) xs y.2.2.1/\dz (λx y=>ap c y x) (y.2.2.1.drop a) y.1 0/\OX (ap c) y.2.2.1 a (a+n) a (a+y.1)) (λy=>[(0,v),(3,.func (.func f) #[] caps.toArray),(8,iN a),(9,.int .i64 ((0:Nat):Int)),(10,iN n),(12,.int .i64 y.2.1)]) (λy=>[y.2.2.2]) (λy=>y.1) (n,(n:Int)-1,ys,H) ⟨⟨rfl,acS _⟩,C,s,B,OX.start⟩ kE.c.c.c.c.c.c rH ?_
 rintro⟨m,Q,g,I⟩ ⟨⟨a4,a1⟩,d,l,r,D⟩
 simp only at a4 a1 d l r D⊢
 have b0:=l.length
 refine .seq<|.sr<|.mo rfl<|.q .geq<|.zn ?_
 refine .cond rfl (λA=>?_) λA=>?_
 have a3:0<=Q:=bp A
 obtain⟨k,rfl⟩:∃k,m=k+1:=⟨m-1,by omega⟩
 obtain rfl:Q=(k:Int):=by omega
 obtain⟨x,e⟩:∃x,g[a]? =some x:=⟨_,aE (by omega)⟩
 obtain⟨y,t⟩:∃x,g[a+k]? =some x:=⟨_,aE (by omega)⟩
 refine .kn<|.seq<|.block<|.seq<|.bN [17,19] mixed ?_
 refine .tO 0 rfl .move<|.tO 1 rfl .move<|.tK 2 rfl .move<|.tK 3 rfl .move<|.tK 4 rfl .move ?_
 refine .take 5 rfl (.i64 ((a+k:Nat):Int) .add ⟨by omega,by omega,by omega⟩) (by kernel_rfl) ?_
 refine .tO 6 rfl .move<|.tO 7 rfl .move<|.tO 8 rfl .move ?_
 refine .cA 9 rfl (.i64 ((a+k:Nat):Int) .add ⟨by omega,by omega,by omega⟩) (by kernel_rfl) ?_
 refine RA.ar 10 rfl (a+k) d t rfl rfl rfl (by kernel_rfl) (λb1=>?_)
 refine .tO 11 rfl (.aD rfl)<|.tO 12 rfl .move<|.tO 13 rfl .move ?_
 refine RA.ar 14 rfl (a) d e rfl rfl rfl (by kernel_rfl) (λb2=>?_)
 refine .tO 15 rfl (.aD rfl) ?_
 refine RA.ar 16 rfl (a) d e rfl rfl rfl (by kernel_rfl) (λb3=>?_)
 refine .sT 17 rfl ?_
 refine .bh (a) d e y (λa7 a2=>?_) (d.one _ (aG t))
 refine .nil (Next.mod rfl ?_)
 refine RA.ar 18 rfl (a+k) d t rfl rfl rfl (by kernel_rfl) (λb4=>?_)
 refine .sT 19 rfl ?_
 obtain⟨zz,a5⟩:∃u,(g.set (a) y)[a+k]? =some u:=⟨_,aE (by rw[acT];exact(acU.1 t).1)⟩
 refine .bh (a+k) a2 a5 x (λU O=>?_) (d.one _ (aG e))
 rw[<-bP e t]at O
 refine .nil (Next.mod rfl ?_)
 refine RA.nil (by kernel_rfl) ?_
 refine aI<|.region<|.mo rfl<|.mo rfl<|.mo rfl<|.mo rfl<|.mo rfl ?_
 have L:=gE (xs:=g) (f:=a) (i:=0) (j:=k) (by omega) (by omega)
 have J:=l.step (i:=a) (j:=a+k) (by omega) (by omega) (by omega) (by omega) (by omega)
 have a0:=OX.last (m:=a+k) (x:=x) D (by omega) (by omega) (by omega) e (λj w o W hw=>dz.top a6 r (by rw[acW];omega) (x:=x) (by rw[cP];exact e) (j-a) w (by omega) (by rw[cP,show a+(j-a)=j by omega];exact hw))
 refine .aQ (fA (c:=c) (ok:=ok) v (bi g a (a+k)) U 0 k a _ O (by omega) (by rw[eh];omega) (by rw[eh];omega) M (λx e=>N x (J.perm.mem_iff.1 e)) G) (λu S F=>?_)
 obtain⟨rfl,ws,Z,K,Y⟩:=F
 refine .nil<|bg<|aI<|.region<|.mo rfl ?_
 refine .q (.i64 ((k:Int)-1) .sub ⟨rfl,by omega,by omega⟩) ?_
 refine .ag rfl<|.nil ?_
 ·exact aS (k,(k:Int)-1,ws,S) ⟨⟨rfl,by simp only;omega⟩,Z,J.trans (K.mono (acS a) (by omega) (by rw[eh];omega)),Y (r.kg λj V hj=>by
   rw[Nat.add_zero]at L
   rw[L,cR (by rw[acW];omega) (by rw[acW];omega),if_neg (by omega),if_neg (by omega)]),a0.rp K (acS _) (by omega)⟩ (by simp only;omega) kE.c.c.c.c.c.c rH
 refine .exit<|aT<|aW<|aU<|cz _ .none rH ?_
 ·have E:m=0:=by have:=bc A;omega
  subst E
  exact⟨_,rfl,rfl,g,d,l,D.cS λi j o A W=>by omega⟩
theorem ie(v:Value)(xs:List GP)(T:ay)(a b:Nat)(R:aC)(k:Value)(D:One k)(h:OS 137 9 bz v xs T)(B:a<b)(C:b<=xs.length)(E:xs.length<=1000000000):
  Spec prog 341 [v,.int .i64 a,.int .i64 b,k] R [T] λu H'=>∃T',H'=[T']/\u=.tuple #[]/\∃ys,OS 137 9 bz v ys T'/\RP a b xs ys:=by
 have H:=h.aF
 refine Spec.body func341 rfl results341 ntmps341 rfl ?_
 refine .sr<|.mo rfl<|.ag rfl<|.z<|.mo rfl ?_
 refine .ia (b-1) .sub ?_
 refine .az rfl<|.block ?_
 refine .loop (X:=Nat×Nat×List GP×ay) (λy=>(a<=y.1/\y.1<=y.2.1+1/\y.2.1<b)/\OS 137 9 bz v y.2.2.1 y.2.2.2/\RP a b xs y.2.2.1) (λy=>[(0,v),(8,iN y.1),(9,iN y.2.1)]) (λy=>[y.2.2.2]) (λy=>b-y.1) (a,b-1,xs,T) ⟨⟨acS _,by simp only;omega,by simp only;omega⟩,h,.refl _⟩ kE.c.c.c rH ?_
 rintro⟨i,j,ys,w⟩ ⟨⟨o,p,r⟩,d,g⟩
 simp only at o p r d g⊢
 have F:=g.length
 refine .seq<|.sr<|.mo rfl<|.mo rfl<|.q .lss<|.zn ?_
 refine .cond rfl (λl=>?_) λl=>?_
 have G:i<j:=cO l
 obtain⟨x,e⟩:∃x,ys[i]? =some x:=⟨_,aE (by omega)⟩
 obtain⟨y,f⟩:∃x,ys[j]? =some x:=⟨_,aE (by omega)⟩
 refine .kn<|.block<|.seq<|.bN [13,15] mixed ?_
 refine .tO 0 rfl .move<|.tO 1 rfl .move<|.tK 2 rfl .move<|.tK 3 rfl .move<|.tO 4 rfl .move<|.tO 5 rfl .move ?_
 refine RA.ar 6 rfl (j) d f rfl rfl rfl (by kernel_rfl) (λI=>?_)
 refine .tO 7 rfl (.aD rfl)<|.tO 8 rfl .move<|.tO 9 rfl .move ?_
 refine RA.ar 10 rfl (i) d e rfl rfl rfl (by kernel_rfl) (λJ=>?_)
 refine .tO 11 rfl (.aD rfl) ?_
 refine RA.ar 12 rfl (i) d e rfl rfl rfl (by kernel_rfl) (λK=>?_)
 refine .sT 13 rfl ?_
 refine .bh (i) d e y (λA s=>?_) (d.one _ (aG f))
 refine .nil (Next.mod rfl ?_)
 refine RA.ar 14 rfl (j) d f rfl rfl rfl (by kernel_rfl) (λL=>?_)
 refine .sT 15 rfl ?_
 obtain⟨M,t⟩:∃u,(ys.set (i) y)[j]? =some u:=⟨_,aE (by rw[acT];exact(acU.1 f).1)⟩
 refine .bh (j) s t x (λn m=>?_) (d.one _ (aG e))
 rw[<-bP e f]at m
 refine .nil (Next.mod rfl ?_)
 refine RA.nil (by kernel_rfl) ?_
 refine aI<|.sr<|.mo rfl ?_
 refine .ia (i+1) .add ?_
 refine .az rfl<|.region<|.mo rfl ?_
 refine .ia (j-1) .sub ?_
 refine .ag rfl<|.nil<|bg ?_
 ·exact aS (i+1,j-1,bi ys i j,n) ⟨⟨by simp only;omega,by simp only;omega,by simp only;omega⟩,m,g.step (by omega) (by omega) (by omega) (by omega) (by omega)⟩ (by simp only;omega) kE.c.c.c rH
 refine .exit<|aT<|aW<|aU<|cz _ .none rH ?_
 ·exact⟨_,rfl,rfl,ys,d,g⟩
theorem gV(v:Value)(xs:List GP)(T:ay)(a b:Nat)(R:aC)(s:Value)(V:One s)(h:OS 137 9 bz v xs T)(S:a<=b)(U:b<=xs.length)(Y:xs.length<=1000000000):
  Spec prog 339 [v,.int .i64 a,.int .i64 b,s] R [T] λu H'=>∃T',H'=[T']/\u=.tuple #[]/\∃ys,OS 137 9 bz v ys T'/\RP a b xs ys:=by
 have iv:=h.aF
 obtain⟨n,J⟩:∃n,b=a+n:=⟨b-a,by omega⟩
 subst J
 refine Spec.body func339 rfl results339 ntmps339 rfl ?_
 refine .sr<|.mo rfl<|.mo rfl ?_
 refine .ia (n) .sub ?_
 refine .ag rfl<|.z<|.mo rfl<|.q .geq<|.zn ?_
 refine .cond rfl (λt=>?_) λt=>?_
 have a2:8<=n:=by have:=bp t;omega
 obtain⟨q,D⟩:∃q,q=n/4:=⟨_,rfl⟩
 refine .sr<|.mo rfl<|.q .dT ?_
 refine .gz (λe=>?_)
 refine .cC rfl rfl<|.z<|.mo rfl ?_
 refine .bx (ku n (by omega) (by omega) _) (λu r=>?_)
 obtain⟨j,rfl,a0,a1⟩:=r
 refine .ag rfl<|.z<|.mo rfl<|.mo rfl ?_
 refine .q (.i64 ((q:Nat):Int) .quo ⟨by rw[D,acV (by omega)];omega,by omega,by omega⟩) ?_
 refine .ia (q*2) .mul ?_
 refine .ia (a+q*2) .add ?_
 refine .ia (a+q*2-1) .sub ?_
 refine .az rfl<|.block ?_
 refine .loop (X:=Nat×Int×List GP×ay) (λy=>(a+q*2-1<=y.1/\y.1<=a+q*2+2)/\OS 137 9 bz v y.2.2.1 y.2.2.2/\RP a (a+n) xs y.2.2.1) (λy=>[(0,v),(1,iN a),(8,iN n),(9,pT e),(10,.int .u64 (j:Nat)),(11,iN y.1)]) (λy=>[bl e [.int .u64 y.2.1] 508,y.2.2.2]) (λy=>a+q*2+2-y.1) (a+q*2-1,_,xs,T) ⟨⟨acS _,by simp only;omega⟩,h,.refl _⟩ kE.c.c.c.c.c.c rH ?_
 rintro⟨i,z,ys,F⟩ ⟨⟨H,I⟩,d,k⟩
 simp only at H I d k⊢
 have Z:=k.length
 refine .seq<|.sr<|.mo rfl<|.mo rfl<|.mo rfl ?_
 refine .q (.i64 ((q:Nat):Int) .quo ⟨by rw[D,acV (by omega)];omega,by omega,by omega⟩) ?_
 refine .ia (q*2) .mul ?_
 refine .ia (a+q*2) .add ?_
 refine .ia (a+q*2+1) .add ?_
 refine .q .leq<|.zn ?_
 refine .cond rfl (λA=>?_) λA=>?_
 have W:i<=a+q*2+1:=by have:=bp A;omega
 refine .kn<|.seq<|.block<|.sr ?_
 refine .aQ (kA e z _) (λu O r=>?_)
 obtain⟨l,rfl,rfl⟩:=r
 refine .mo rfl ?_
 refine .q (aV.cast (v':=.int .u64 ((j-1:Nat):Int)) .sub (by rw[fN (by omega) (by omega)];congr 1;omega)) ?_
 have B:=jR (z:=l) (q:=((j-1:Nat):Int)) (by omega) (by omega)
 obtain⟨o,C⟩:∃o:Nat,IntKind.u64.wrap (BitVec.ofInt IntKind.u64.bits l&&&BitVec.ofInt IntKind.u64.bits ((j-1:Nat):Int)).toNat=(o:Int):=⟨_,(Int.toNat_of_nonneg B.1).symm⟩
 refine .q (aV.cast (v':=.int .u64 ((o:Nat):Int)) .jQ (by rw[C])) ?_
 rw[C]at B
 refine .q (aV.cast (v':=.int .i64 ((o:Nat):Int)) .dT (by rw[kP (by omega) (by omega)])) ?_
 refine .ag rfl<|.zs ?_
 refine bk.cut (X:=Nat) (λp=>p<n) (λp=>[(0,v),(1,iN a),(8,iN n),(9,pT e),(10,.int .u64 (j:Nat)),(11,iN i),(12,iN p)]) (λ_=>[bl e [.int .u64 l] 508,F]) ?_ ?_
 refine .sr<|.mo rfl<|.mo rfl<|.q .geq<|.zn ?_
 refine .cond rfl (λm=>?_) λm=>?_
 have K:n<=o:=by have:=bp m;omega
 refine .region<|.mo rfl<|.mo rfl ?_
 refine .ia (o-n) .sub ?_
 refine .ag rfl<|.nil ?_
 ·first
   |exact ax (o-n) (by omega) kE.c.c.c.c.c.c.c rH
   |exact ax o (by omega) kE.c.c.c.c.c.c.c rH
 have K:o<n:=by have:=bc m;omega
 refine .skip ?_
 ·first
   |exact ax (o-n) (by omega) kE.c.c.c.c.c.c.c rH
   |exact ax o (by omega) kE.c.c.c.c.c.c.c rH
 intro y M
 have a3:y<n:=M
 obtain⟨p,rfl⟩:∃p,p=y:=⟨_,rfl⟩
 obtain⟨x,g⟩:∃x,ys[i]? =some x:=⟨_,aE (by omega)⟩
 obtain⟨w,f⟩:∃x,ys[a+p]? =some x:=⟨_,aE (by omega)⟩
 refine aI<|.bN [17,19] mixed ?_
 refine .tO 0 rfl .move<|.tO 1 rfl .move<|.tK 2 rfl .move<|.tK 3 rfl .move<|.tK 4 rfl .move ?_
 refine .take 5 rfl (.i64 ((a+p:Nat):Int) .add ⟨by omega,by omega,by omega⟩) (by kernel_rfl) ?_
 refine .tO 6 rfl .move<|.tO 7 rfl .move<|.tO 8 rfl .move ?_
 refine .cA 9 rfl (.i64 ((a+p:Nat):Int) .add ⟨by omega,by omega,by omega⟩) (by kernel_rfl) ?_
 refine RA.ar 10 rfl (a+p) d f rfl rfl rfl (by kernel_rfl) (λa4=>?_)
 refine .tO 11 rfl (.aD rfl)<|.tO 12 rfl .move<|.tO 13 rfl .move ?_
 refine RA.ar 14 rfl (i) d g rfl rfl rfl (by kernel_rfl) (λa5=>?_)
 refine .tO 15 rfl (.aD rfl) ?_
 refine RA.ar 16 rfl (i) d g rfl rfl rfl (by kernel_rfl) (λa6=>?_)
 refine .sT 17 rfl ?_
 refine .bh (i) d g w (λQ L=>?_) (d.one _ (aG f))
 refine .nil (Next.mod rfl ?_)
 refine RA.ar 18 rfl (a+p) d f rfl rfl rfl (by kernel_rfl) (λa7=>?_)
 refine .sT 19 rfl ?_
 obtain⟨zz,N⟩:∃u,(ys.set (i) w)[a+p]? =some u:=⟨_,aE (by rw[acT];exact(acU.1 f).1)⟩
 refine .bh (a+p) L N x (λG E=>?_) (d.one _ (aG g))
 rw[<-bP g f]at E
 refine .nil (Next.mod rfl ?_)
 refine RA.nil (by kernel_rfl) ?_
 refine bg<|aI<|.region<|.mo rfl ?_
 refine .ia (i+1) .add ?_
 refine .ag rfl<|.nil ?_
 ·exact aS (i+1,l,bi ys i (a+p),G) ⟨⟨by simp only;omega,by simp only;omega⟩,E,k.step (by omega) (by omega) (by omega) (by omega) (by omega)⟩ (by simp only;omega) kE.c.c.c.c.c.c rH
 refine .exit<|aT<|aW<|aU<|cz _ .none (cw [1]) ?_
 ·exact⟨_,rfl,rfl,ys,d,k⟩
 refine .skip<|cz _ .none rH ?_
 ·exact⟨_,rfl,rfl,xs,h,.refl _⟩
end
end SGC
namespace SGC
section
variable{c:GP->GP->Int}{ok:GP->Prop}{f:FuncId}{caps:List Value} [e:aL prog f]
theorem hU(v:Value)(xs:List GP)(T:ay)(a b:Nat)(R:aC)(h:OS 137 9 bz v xs T)(b5:a<b)(V:b<=xs.length)(hl:xs.length<=1000000000)(hf:bR prog f caps R (λp:GP=>Value.agg (bz p).toArray) c ok)(W:∀x∈xs,ok x)(so:SO (ap c))(c4:LB (ap c) xs a b):
  Spec prog 342 [v,.int .i64 a,.int .i64 b,.func (.func f) #[] caps.toArray] R [T] λu H'=>∃T',H'=[T']/\∃ys m,u=.bool m/\OS 137 9 bz v ys T'/\RP a b xs ys/\(m=true->SR (ap c) ys a b):=by
 have iv:=h.aF
 refine Spec.body func342 rfl results342 ntmps342 rfl ?_
 refine .sr<|.ag rfl<|.z<|.mo rfl ?_
 refine .ia (a+1) .add ?_
 refine .ag rfl<|.zs<|.sr<|.az rfl<|.block ?_
 refine .loop (X:=Nat×Nat×List GP×ay) (λy=>(y.1<=5/\a+1<=y.2.1/\y.2.1<=b)/\OS 137 9 bz v y.2.2.1 y.2.2.2/\RP a b xs y.2.2.1/\SR (ap c) y.2.2.1 a y.2.1) (λy=>[(0,v),(1,iN a),(2,iN b),(3,.func (.func f) #[] caps.toArray),(9,iN y.2.1),(10,iN y.1)]) (λy=>[y.2.2.2]) (λy=>5-y.1) (0,a+1,xs,T) ⟨⟨by omega,acS _,b5⟩,h,.refl _,λi j S U M=>by simp only at M;omega⟩ kE.c.c.c.c.c.c rH ?_
 rintro⟨n,i,ys,T1⟩ ⟨⟨hn,I,J⟩,B,N,E⟩
 simp only at hn I J B N E⊢
 have c8:=N.length
 refine .seq<|.sr<|.mo rfl<|.q .lss<|.zn ?_
 refine .cond rfl (λS=>?_) λS=>?_
 have d1:n<5:=cO S
 refine .kn<|.seq<|.block<|.seq ?_
 refine bk.cut (X:=Nat) (λi=>(a+1<=i/\i<=b)/\SR (ap c) ys a i) (λi=>[(0,v),(1,iN a),(2,iN b),(3,.func (.func f) #[] caps.toArray),(9,iN i),(10,iN n)]) (λ_=>[T1]) ?_ ?_
 refine .block ?_
 refine .loop (X:=Nat) (λi=>(a+1<=i/\i<=b)/\SR (ap c) ys a i) (λi=>[(0,v),(1,iN a),(2,iN b),(3,.func (.func f) #[] caps.toArray),(9,iN i),(10,iN n)]) (λ_=>[T1]) (λi=>b-i) i ⟨⟨I,J⟩,E⟩ kE.c.c.c.c.c.c rH ?_
 clear I J E
 rintro i ⟨⟨I,J⟩,E⟩
 refine .seq<|.seq ?_
 refine .bO 14 mixed (by kernel_rfl) ?_
 conv=>arg 6;dsimp only[List.take]
 refine .mo rfl<|.mo rfl<|.q .lss<|.mo rfl ?_
 refine .split (t:=22) rfl (λe=>?_) (λe=>?_)
 have c3:i<b:=by have:=bp e;omega
 obtain⟨x,F⟩:∃x,ys[i]? =some x:=⟨_,aE (by omega)⟩
 obtain⟨y,D⟩:∃x,ys[i-1]? =some x:=⟨_,aE (by omega)⟩
 have c6:=W x (N.perm.mem_iff.1 (aG F))
 have c7:=W y (N.perm.mem_iff.1 (aG D))
 refine .gT e<|.mo rfl<|.gT e<|.mo rfl<|.gT e<|.mo rfl<|.gT e ?_
 refine .ar i B F (λe1=>?_)
 refine .gT e<|.q (.aD rfl)<|.gT e<|.mo rfl<|.gT e<|.mo rfl<|.gT e ?_
 refine .ia (i-1) .sub ?_
 refine .gT e ?_
 refine .ar (i-1) B D (λe2=>?_)
 refine .gT e<|.q (.aD rfl)<|.nil<|.gT e ?_
 refine .bV (first:=[]) (captured:=caps) (vs:=[(λp:GP=>Value.agg (bz p).toArray) x,(λp:GP=>Value.agg (bz p).toArray) y]) (hf x y c6 c7 _ (λb o V=>.inl V)) (λu H=>?_)
 subst H
 refine .gT e<|.q .lss<|.gT e<|.q .not<|.q (.bX e) ?_
 refine .zn ?_
 refine .cond rfl (λU=>?_) λU=>?_
 refine .kn<|.block<|.region<|.mo rfl ?_
 refine .ia (i+1) .add ?_
 refine .ag rfl<|.nil<|bg ?_
 ·have c5:ap c x y=false:=by
   have b8:(!ap c x y)=true:=U
   simpa using b8
  exact aS (i+1) ⟨⟨by omega,by omega⟩,E.snoc so (by omega) (by omega) λu w H hw=>by
   rw[D]at H;rw[F]at hw;cases H;cases hw;exact c5⟩ (by omega) kE.c.c.c.c.c.c rH
 refine .exit<|aT<|aW<|aU ?_
 exact ax i ⟨⟨I,J⟩,E⟩ kE.c.c.c.c.c.c rH
 refine .gF e<|.gF e<|.gF e<|.gF e<|.gF e<|.gF e<|.gF e<|.gF e<|.gF e<|.gF e<|.nil<|.gF e<|.gF e<|.gF e<|.q (.bU e) ?_
 refine .zn<|.bB<|.exit<|aT<|aW<|aU ?_
 exact ax i ⟨⟨I,J⟩,E⟩ kE.c.c.c.c.c.c rH
 intro x F
 obtain⟨d,b6⟩:∃d,d=x:=⟨_,rfl⟩
 rw[<-b6]at F⊢
 clear b6 x I J E
 obtain⟨⟨I,J⟩,E⟩:=F
 refine aI<|.seq<|.sr<|.mo rfl<|.mo rfl<|.q .cL<|.zn ?_
 refine .cond rfl (λM=>?_) λM=>?_
 refine .sr<|.az rfl ?_
 refine .ret (bq (bu (bq (cH (bu (bq (bb _ (.one (.tmp rfl)) rH ?_)))))))
 ·have c2:d=b:=by
   have b9:((d:Int)=b):=by simpa using M
   omega
  exact⟨_,rfl,ys,true,rfl,B,N,λ_=>c2▸E⟩
 have c3:d<b:=by
  have b9:¬((d:Int)=b):=by simpa using M
  omega
 obtain⟨x,F⟩:∃x,ys[d]? =some x:=⟨_,aE (by omega)⟩
 obtain⟨y,D⟩:∃x,ys[d-1]? =some x:=⟨_,aE (by omega)⟩
 refine .kn<|.seq<|.sr<|.mo rfl<|.mo rfl ?_
 refine .ia (b-a) .sub ?_
 refine .q .lss<|.zn ?_
 refine .cond rfl (λh4=>?_) λh4=>?_
 refine .sr<|.az rfl ?_
 refine .ret (bq (bu (bq (cH (bu (bq (bb _ (.one (.tmp rfl)) rH ?_)))))))
 ·exact⟨_,rfl,ys,false,rfl,B,N,λh=>by cases h⟩
 refine .kn<|.seq<|.bN [15,17] mixed ?_
 refine .tO 0 rfl .move<|.tO 1 rfl .move<|.tK 2 rfl .move<|.tK 3 rfl .move ?_
 refine .take 4 rfl (.i64 ((d-1:Nat):Int) .sub ⟨by omega,by omega,by omega⟩) (by kernel_rfl) ?_
 refine .tO 5 rfl .move<|.tO 6 rfl .move ?_
 refine .cA 7 rfl (.i64 ((d-1:Nat):Int) .sub ⟨by omega,by omega,by omega⟩) (by kernel_rfl) ?_
 refine RA.ar 8 rfl (d-1) B D rfl rfl rfl (by kernel_rfl) (λe3=>?_)
 refine .tO 9 rfl (.aD rfl)<|.tO 10 rfl .move<|.tO 11 rfl .move ?_
 refine RA.ar 12 rfl (d) B F rfl rfl rfl (by kernel_rfl) (λe4=>?_)
 refine .tO 13 rfl (.aD rfl) ?_
 refine RA.ar 14 rfl (d) B F rfl rfl rfl (by kernel_rfl) (λe5=>?_)
 refine .sT 15 rfl ?_
 refine .bh (d) B F y (λb1 a0=>?_) (B.one _ (aG D))
 refine .nil (Next.mod rfl ?_)
 refine RA.ar 16 rfl (d-1) B D rfl rfl rfl (by kernel_rfl) (λe6=>?_)
 refine .sT 17 rfl ?_
 obtain⟨zz,a1⟩:∃u,(ys.set (d) y)[d-1]? =some u:=⟨_,aE (by rw[acT];exact(acU.1 D).1)⟩
 refine .bh (d-1) a0 a1 x (λL G=>?_) (B.one _ (aG F))
 rw[<-bP F D]at G
 refine .nil (Next.mod rfl ?_)
 refine RA.nil (by kernel_rfl) ?_
 have a3:=N.step (i:=d) (j:=d-1) (by omega) (by omega) (by omega) (by omega) (by omega)
 have c0:=E.kJ (by omega)
 clear E
 refine aI<|.seq ?_
 refine bk.cut (X:=List GP×ay) (λz=>OS 137 9 bz v z.1 z.2/\RP a b xs z.1/\SR (ap c) z.1 a d) (λ_=>[(0,v),(1,iN a),(2,iN b),(3,.func (.func f) #[] caps.toArray),(9,iN d),(10,iN n)]) (λz=>[z.2]) ?_ ?_
 refine .sr<|.mo rfl<|.mo rfl ?_
 refine .ia (d-a) .sub ?_
 refine .q .geq<|.zn ?_
 refine .cond rfl (λh5=>?_) λh5=>?_
 refine .sr<|.mo rfl ?_
 refine .ia (d-1) .sub ?_
 refine .az rfl<|.block ?_
 refine .loop (X:=Nat×List GP×ay) (λz=>(a<=z.1/\z.1<=d-1)/\OS 137 9 bz v z.2.1 z.2.2/\RP a b xs z.2.1/\eP (ap c) z.2.1 a z.1 d) (λz=>[(0,v),(1,iN a),(2,iN b),(3,.func (.func f) #[] caps.toArray),(9,iN d),(10,iN n),(11,iN z.1)]) (λz=>[z.2.2]) (λz=>z.1) (d-1,bi ys d (d-1),L) ⟨⟨by simp only;omega,acS _⟩,G,a3,c0⟩ kE.c.c.c.c.c.c.c rH ?_
 rintro⟨q,A,K⟩ ⟨⟨a7,a8⟩,g,r,a2⟩
 simp only at a7 a8 g r a2⊢
 have c9:=r.length
 refine .seq<|.sr<|.mo rfl<|.q .geq<|.zn ?_
 refine .cond rfl (λh6=>?_) λh6=>?_
 have d2:1<=q:=by have:=bp h6;omega
 obtain⟨s,k⟩:∃x,A[q]? =some x:=⟨_,aE (by omega)⟩
 obtain⟨t,l⟩:∃x,A[q-1]? =some x:=⟨_,aE (by omega)⟩
 have a9:=W s (r.perm.mem_iff.1 (aG k))
 have b0:=W t (r.perm.mem_iff.1 (aG l))
 refine .kn<|.seq<|.block<|.seq<|.seq ?_
 refine .bO 10 mixed (by kernel_rfl) ?_
 conv=>arg 6;dsimp only[List.take]
 refine .mo rfl<|.mo rfl<|.mo rfl ?_
 refine .ar q g k (λe7=>?_)
 refine .q (.aD rfl)<|.mo rfl<|.mo rfl ?_
 refine .ia (q-1) .sub ?_
 refine .ar (q-1) g l (λe8=>?_)
 refine .q (.aD rfl)<|.nil ?_
 refine .bV (first:=[]) (captured:=caps) (vs:=[(λp:GP=>Value.agg (bz p).toArray) s,(λp:GP=>Value.agg (bz p).toArray) t]) (hf s t a9 b0 _ (λb o V=>.inl V)) (λu H=>?_)
 subst H
 refine .q .lss<|.q .not<|.zn ?_
 refine .cond rfl (λh7=>?_) λh7=>?_
 have a4:SR (ap c) A a d:=a2.done so (by omega) (by omega) (by
  have a5:(!ap c s t)=true:=h7
  rcases acX a q with hh|hh
  ·exact .inr ⟨hh,λu w H hw=>by rw[l]at H;rw[k]at hw;cases H;cases hw;simpa using a5⟩
  ·exact .inl (by omega))
 refine .exit (aT (du (aT (aW (aU ?_)))))
 ·first
   |exact ax (A,K) ⟨g,r,a4⟩ kE.c.c.c.c.c.c rH
   |exact ax (bi ys d (d-1),L) ⟨G,a3,λp q S U M=>by have:=bc h5;omega⟩ kE.c.c.c.c.c.c rH
 have a6:ap c s t=true:=by
  have a5:(!ap c s t)=false:=h7
  simpa using a5
 have c1:a<q:=by
  rcases acX a q with hh|hh
  ·exact hh
  ·have ea:q=a:=by omega
   subst ea
   have:=(c4.rp r) (by omega) q (acS _) b5 t s l k
   rw[this]at a6;cases a6
 refine .kn<|.bN [15,17] mixed ?_
 refine .tO 0 rfl .move<|.tO 1 rfl .move<|.tK 2 rfl .move<|.tK 3 rfl .move ?_
 refine .take 4 rfl (.i64 ((q-1:Nat):Int) .sub ⟨by omega,by omega,by omega⟩) (by kernel_rfl) ?_
 refine .tO 5 rfl .move<|.tO 6 rfl .move ?_
 refine .cA 7 rfl (.i64 ((q-1:Nat):Int) .sub ⟨by omega,by omega,by omega⟩) (by kernel_rfl) ?_
 refine RA.ar 8 rfl (q-1) g l rfl rfl rfl (by kernel_rfl) (λe9=>?_)
 refine .tO 9 rfl (.aD rfl)<|.tO 10 rfl .move<|.tO 11 rfl .move ?_
 refine RA.ar 12 rfl (q) g k rfl rfl rfl (by kernel_rfl) (λf0=>?_)
 refine .tO 13 rfl (.aD rfl) ?_
 refine RA.ar 14 rfl (q) g k rfl rfl rfl (by kernel_rfl) (λf1=>?_)
 refine .sT 15 rfl ?_
 refine .bh (q) g k t (λb1 a0=>?_) (g.one _ (aG l))
 refine .nil (Next.mod rfl ?_)
 refine RA.ar 16 rfl (q-1) g l rfl rfl rfl (by kernel_rfl) (λd4=>?_)
 refine .sT 17 rfl ?_
 obtain⟨zz,a1⟩:∃u,(A.set (q) t)[q-1]? =some u:=⟨_,aE (by rw[acT];exact(acU.1 l).1)⟩
 refine .bh (q-1) a0 a1 s (λL G=>?_) (g.one _ (aG k))
 rw[<-bP k l]at G
 refine .nil (Next.mod rfl ?_)
 refine RA.nil (by kernel_rfl) ?_
 refine bg<|aI<|.region<|.mo rfl ?_
 refine .ia (q-1) .sub ?_
 refine .ag rfl<|.nil ?_
 ·exact aS (q-1,bi A q (q-1),L) ⟨⟨by simp only;omega,by simp only;omega⟩,G,r.step (by omega) (by omega) (by omega) (by omega) (by omega),a2.step so (by omega) (by omega) c1 k l a6⟩ (by simp only;omega) kE.c.c.c.c.c.c.c rH
 have a4:SR (ap c) A a d:=a2.done so (by omega) (by omega) (.inl (by have:=bc h6;omega))
 refine .exit<|aT<|aW<|aU ?_
 ·first
   |exact ax (A,K) ⟨g,r,a4⟩ kE.c.c.c.c.c.c rH
   |exact ax (bi ys d (d-1),L) ⟨G,a3,λp q S U M=>by have:=bc h5;omega⟩ kE.c.c.c.c.c.c rH
 refine .skip ?_
 ·first
   |exact ax (A,K) ⟨g,r,a4⟩ kE.c.c.c.c.c.c rH
   |exact ax (bi ys d (d-1),L) ⟨G,a3,λp q S U M=>by have:=bc h5;omega⟩ kE.c.c.c.c.c.c rH
 intro y D
 obtain⟨A,K⟩:=y
 obtain⟨g,r,Y⟩:=D
 simp only at g r Y⊢
 refine aI ?_
 refine bk.cut (X:=List GP×ay) (λz=>OS 137 9 bz v z.1 z.2/\RP a b xs z.1/\SR (ap c) z.1 a d) (λ_=>[(0,v),(1,iN a),(2,iN b),(3,.func (.func f) #[] caps.toArray),(9,iN d),(10,iN n)]) (λz=>[z.2]) ?_ ?_
 refine .sr<|.mo rfl<|.mo rfl ?_
 refine .ia (b-d) .sub ?_
 refine .q .geq<|.zn ?_
 refine .cond rfl (λh8=>?_) λh8=>?_
 refine .sr<|.mo rfl ?_
 refine .ia (d+1) .add ?_
 refine .az rfl<|.block ?_
 refine .loop (X:=Nat×List GP×ay) (λz=>(d+1<=z.1/\z.1<=b)/\OS 137 9 bz v z.2.1 z.2.2/\RP a b xs z.2.1/\SR (ap c) z.2.1 a d) (λz=>[(0,v),(1,iN a),(2,iN b),(3,.func (.func f) #[] caps.toArray),(9,iN d),(10,iN n),(12,iN z.1)]) (λz=>[z.2.2]) (λz=>b-z.1) (d+1,A,K) ⟨⟨acS _,by simp only;omega⟩,g,r,Y⟩ kE.c.c.c.c.c.c.c rH ?_
 rintro⟨q,Q,T4⟩ ⟨⟨a7,a8⟩,C,O,Z⟩
 simp only at a7 a8 C O Z⊢
 have d0:=O.length
 refine .seq<|.sr<|.mo rfl<|.mo rfl<|.q .lss<|.zn ?_
 refine .cond rfl (λh9=>?_) λh9=>?_
 have d3:q<b:=cO h9
 obtain⟨s,k⟩:∃x,Q[q]? =some x:=⟨_,aE (by omega)⟩
 obtain⟨t,l⟩:∃x,Q[q-1]? =some x:=⟨_,aE (by omega)⟩
 have a9:=W s (O.perm.mem_iff.1 (aG k))
 have b0:=W t (O.perm.mem_iff.1 (aG l))
 refine .kn<|.seq<|.block<|.seq<|.seq ?_
 refine .bO 10 mixed (by kernel_rfl) ?_
 conv=>arg 6;dsimp only[List.take]
 refine .mo rfl<|.mo rfl<|.mo rfl ?_
 refine .ar q C k (λd5=>?_)
 refine .q (.aD rfl)<|.mo rfl<|.mo rfl ?_
 refine .ia (q-1) .sub ?_
 refine .ar (q-1) C l (λd6=>?_)
 refine .q (.aD rfl)<|.nil ?_
 refine .bV (first:=[]) (captured:=caps) (vs:=[(λp:GP=>Value.agg (bz p).toArray) s,(λp:GP=>Value.agg (bz p).toArray) t]) (hf s t a9 b0 _ (λb o V=>.inl V)) (λu H=>?_)
 subst H
 refine .q .lss<|.q .not<|.zn ?_
 refine .cond rfl (λb7=>?_) λb7=>?_
 refine .exit (aT (du (aT (aW (aU ?_)))))
 ·first
   |exact ax (Q,T4) ⟨C,O,Z⟩ kE.c.c.c.c.c.c rH
   |exact ax (A,K) ⟨g,r,Y⟩ kE.c.c.c.c.c.c rH
 refine .kn<|.bN [15,17] mixed ?_
 refine .tO 0 rfl .move<|.tO 1 rfl .move<|.tK 2 rfl .move<|.tK 3 rfl .move ?_
 refine .take 4 rfl (.i64 ((q-1:Nat):Int) .sub ⟨by omega,by omega,by omega⟩) (by kernel_rfl) ?_
 refine .tO 5 rfl .move<|.tO 6 rfl .move ?_
 refine .cA 7 rfl (.i64 ((q-1:Nat):Int) .sub ⟨by omega,by omega,by omega⟩) (by kernel_rfl) ?_
 refine RA.ar 8 rfl (q-1) C l rfl rfl rfl (by kernel_rfl) (λd7=>?_)
 refine .tO 9 rfl (.aD rfl)<|.tO 10 rfl .move<|.tO 11 rfl .move ?_
 refine RA.ar 12 rfl (q) C k rfl rfl rfl (by kernel_rfl) (λd8=>?_)
 refine .tO 13 rfl (.aD rfl) ?_
 refine RA.ar 14 rfl (q) C k rfl rfl rfl (by kernel_rfl) (λd9=>?_)
 refine .sT 15 rfl ?_
 refine .bh (q) C k t (λb1 a0=>?_) (C.one _ (aG l))
 refine .nil (Next.mod rfl ?_)
 refine RA.ar 16 rfl (q-1) C l rfl rfl rfl (by kernel_rfl) (λe0=>?_)
 refine .sT 17 rfl ?_
 obtain⟨zz,a1⟩:∃u,(Q.set (q) t)[q-1]? =some u:=⟨_,aE (by rw[acT];exact(acU.1 l).1)⟩
 refine .bh (q-1) a0 a1 s (λL G=>?_) (C.one _ (aG k))
 rw[<-bP k l]at G
 refine .nil (Next.mod rfl ?_)
 refine RA.nil (by kernel_rfl) ?_
 refine bg<|aI<|.region<|.mo rfl ?_
 refine .ia (q+1) .add ?_
 refine .ag rfl<|.nil ?_
 ·exact aS (q+1,bi Q q (q-1),L) ⟨⟨by simp only;omega,by simp only;omega⟩,G,O.step (by omega) (by omega) (by omega) (by omega) (by omega),Z.kK (by omega) (by omega) (by omega) (by omega)⟩ (by simp only;omega) kE.c.c.c.c.c.c.c rH
 refine .exit<|aT<|aW<|aU ?_
 ·first
   |exact ax (Q,T4) ⟨C,O,Z⟩ kE.c.c.c.c.c.c rH
   |exact ax (A,K) ⟨g,r,Y⟩ kE.c.c.c.c.c.c rH
 refine .skip ?_
 ·first
   |exact ax (Q,T4) ⟨C,O,Z⟩ kE.c.c.c.c.c.c rH
   |exact ax (A,K) ⟨g,r,Y⟩ kE.c.c.c.c.c.c rH
 intro y D
 obtain⟨us,T5⟩:=y
 obtain⟨b2,b3,b4⟩:=D
 simp only at b2 b3 b4⊢
 refine bg<|aI<|.region<|.mo rfl ?_
 refine .ia (n+1) .add ?_
 refine .ag rfl<|.nil ?_
 ·exact aS (n+1,d,us,T5) ⟨⟨by simp only;omega,I,J⟩,b2,b3,b4⟩ (by simp only;omega) kE.c.c.c.c.c.c rH
 refine .exit<|aT<|aW<|aU<|aI<|.sr<|.az rfl ?_
 refine .ret (bb _ (.one (.tmp rfl)) rH ?_)
 ·exact⟨_,rfl,ys,false,rfl,B,N,λh=>by cases h⟩
end
end SGC
namespace SGC
section
variable{c:GP->GP->Int}{ok:GP->Prop}{f:FuncId}{caps:List Value} [e:aL prog f]
theorem eE(v:Value)(xs:List GP)(a b lo d g:Nat)(s:Int)(R:aC)(h:RS R 9 bz v xs)(i:lo<=a/\a<d)(e:lo<=b/\b<d)(A:d<=xs.length)(n:bR prog f caps R (λp:GP=>Value.agg (bz p).toArray) c ok)(j:∀x∈xs,ok x):
  Spec prog 449 [v,.int .i64 a,.int .i64 b,pT g,.func (.func f) #[] caps.toArray] R [bl g [.int .i64 s] 3] λu H'=>∃T',H'=[T']/\∃(s':Int) (p q:Nat),u=.tuple [.int .i64 p,.int .i64 q].toArray/\T'=(bl g [.int .i64 s'] 3)/\(lo<=p/\p<d)/\(lo<=q/\q<d):=by
 have B:=h.aF
 obtain⟨x,k⟩:∃x,xs[b]? =some x:=⟨_,aE (by omega)⟩
 obtain⟨y,l⟩:∃x,xs[a]? =some x:=⟨_,aE (by omega)⟩
 have t:=j x (aG k)
 have w:=j y (aG l)
 refine Spec.body func449 rfl results449 ntmps449 rfl ?_
 refine .sr<|.ag rfl<|.ag rfl<|.zs<|.seq ?_
 refine .bO 9 mixed (by kernel_rfl) ?_
 conv=>arg 6;dsimp only[List.take]
 refine .mo rfl<|.mo rfl<|.mo rfl ?_
 refine .dm b h k (λC=>?_)
 refine .q (.aD rfl)<|.mo rfl<|.mo rfl ?_
 refine .dm a h l (λD=>?_)
 refine .q (.aD rfl)<|.nil ?_
 refine .bV (first:=[]) (captured:=caps) (vs:=[(λp:GP=>Value.agg (bz p).toArray) x,(λp:GP=>Value.agg (bz p).toArray) y]) (n x y t w _ (λb o e=>.inl e)) (λu r=>?_)
 subst r
 refine .q .lss<|.zn ?_
 refine .cond rfl (λm=>?_) λm=>?_
 refine .sr<|.mo rfl<|.nc rfl<|.lo rfl<|.q .add ?_
 refine .nc rfl<|.cC rfl rfl<|.z<|.mo rfl<|.mo rfl<|.ag rfl<|.az rfl ?_
 refine .ret (bq (bb _ (.two (.tmp rfl) (.tmp rfl)) rH ?_))
 ·exact⟨_,rfl,_,b,a,rfl,rfl,e,i⟩
 refine .kn<|.sr<|.mo rfl<|.mo rfl<|.ag rfl<|.az rfl ?_
 refine .ret (bb _ (.two (.tmp rfl) (.tmp rfl)) rH ?_)
 ·exact⟨_,rfl,_,a,b,rfl,rfl,i,e⟩
theorem fw(v:Value)(xs:List GP)(a b d lo e g:Nat)(s:Int)(R:aC)(h:RS R 9 bz v xs)(m:lo<=a/\a<e)(n:lo<=b/\b<e)(o:lo<=d/\d<e)(k:e<=xs.length)(j:bR prog f caps R (λp:GP=>Value.agg (bz p).toArray) c ok)(l:∀x∈xs,ok x):
  Spec prog 417 [v,.int .i64 a,.int .i64 b,.int .i64 d,pT g,.func (.func f) #[] caps.toArray] R [bl g [.int .i64 s] 3] λu H'=>∃T',H'=[T']/\∃(s':Int) (p:Nat),u=.int .i64 p/\T'=(bl g [.int .i64 s'] 3)/\(lo<=p/\p<e):=by
 have M:=h.aF
 refine Spec.body func417 rfl results417 ntmps417 rfl ?_
 refine .sr<|.ag rfl<|.z<|.mo rfl<|.mo rfl<|.mo rfl<|.mo rfl<|.mo rfl ?_
 refine .aQ (eE v xs a b lo e g s _ h m n k j l) (λu H i=>?_)
 obtain⟨E,A,C,rfl,rfl,r,w⟩:=i
 refine .mo rfl<|.q .extract<|.q .extract<|.ag rfl<|.ag rfl<|.z<|.mo rfl<|.mo rfl<|.mo rfl<|.mo rfl<|.mo rfl ?_
 refine .aQ (eE v xs C d lo e g E _ h w o k j l) (λu I i=>?_)
 obtain⟨F,B,O,rfl,rfl,t,L⟩:=i
 refine .mo rfl<|.q .extract<|.q .extract<|.ag rfl<|.ag rfl<|.z<|.mo rfl<|.mo rfl<|.mo rfl<|.mo rfl<|.mo rfl ?_
 refine .aQ (eE v xs A B lo e g F _ h r t k j l) (λu J i=>?_)
 obtain⟨G,N,D,rfl,rfl,K,y⟩:=i
 refine .mo rfl<|.q .extract<|.q .extract<|.ag rfl<|.ag rfl<|.z<|.mo rfl<|.az rfl ?_
 refine .ret (bb _ (.one (.tmp rfl)) rH ?_)
 ·exact⟨_,rfl,G,D,rfl,rfl,y⟩
theorem eC(v:Value)(xs:List GP)(a lo d b:Nat)(s:Int)(R:aC)(h:RS R 9 bz v xs)(o:lo+1<=a/\a+1<d)(g:d<=xs.length)(q:xs.length<=1000000000)(e:bR prog f caps R (λp:GP=>Value.agg (bz p).toArray) c ok)(i:∀x∈xs,ok x):
  Spec prog 416 [v,.int .i64 a,pT b,.func (.func f) #[] caps.toArray] R [bl b [.int .i64 s] 3] λu H'=>∃T',H'=[T']/\∃(s':Int) (p:Nat),u=.int .i64 p/\T'=(bl b [.int .i64 s'] 3)/\(lo<=p/\p<d):=by
 have r:=h.aF
 refine Spec.body func416 rfl results416 ntmps416 rfl ?_
 refine .sr<|.ag rfl<|.z<|.mo rfl<|.mo rfl ?_
 refine .ia (a-1) .sub ?_
 refine .mo rfl<|.mo rfl ?_
 refine .ia (a+1) .add ?_
 refine .mo rfl<|.mo rfl ?_
 refine .aQ (fw v xs (a-1) a (a+1) lo d b s _ h (by omega) (by omega) (by omega) g e i) (λu n k=>?_)
 obtain⟨m,l,rfl,rfl,j⟩:=k
 refine .az rfl ?_
 refine .ret (bb _ (.one (.tmp rfl)) rH ?_)
 ·exact⟨_,rfl,m,l,rfl,rfl,j⟩
theorem choose_spec(v:Value)(xs:List GP)(a b:Nat)(R:aC)(h:RS R 9 bz v xs)(Y:a<b)(l:b<=xs.length)(w:xs.length<=1000000000)(m:bR prog f caps R (λp:GP=>Value.agg (bz p).toArray) c ok)(o:∀x∈xs,ok x):
  Spec prog 340 [v,.int .i64 a,.int .i64 b,.func (.func f) #[] caps.toArray] R [] λu H'=>(∃(p:Nat) (t:Int),u=.tuple [.int .i64 p,.int .i64 t].toArray/\a<=p/\p<b)/\H'=[]:=by
 have iv:=h.aF
 obtain⟨n,U⟩:∃n,b=a+n:=⟨b-a,by omega⟩
 subst U
 obtain⟨q,A⟩:∃q,q=n/4:=⟨_,rfl⟩
 refine Spec.body func340 rfl results340 ntmps340 rfl ?_
 refine .sr<|.ag rfl<|.ag rfl<|.z<|.mo rfl<|.mo rfl ?_
 refine .ia (n) .sub ?_
 refine .ag rfl<|.z ?_
 refine .gz (λe=>?_)
 refine .z<|.mo rfl<|.mo rfl ?_
 refine .q (.i64 ((q:Nat):Int) .quo ⟨by rw[A,acV (by omega)];omega,by omega,by omega⟩) ?_
 refine .ia (q) .mul ?_
 refine .ia (a+q) .add ?_
 refine .ag rfl<|.z<|.mo rfl<|.mo rfl ?_
 refine .q (.i64 ((q:Nat):Int) .quo ⟨by rw[A,acV (by omega)];omega,by omega,by omega⟩) ?_
 refine .ia (q*2) .mul ?_
 refine .ia (a+q*2) .add ?_
 refine .ag rfl<|.z<|.mo rfl<|.mo rfl ?_
 refine .q (.i64 ((q:Nat):Int) .quo ⟨by rw[A,acV (by omega)];omega,by omega,by omega⟩) ?_
 refine .ia (q*3) .mul ?_
 refine .ia (a+q*3) .add ?_
 refine .ag rfl<|.zs ?_
 refine bk.cut (X:=Nat×Int) (λz=>a<=z.1/\z.1<a+n) (λz=>[(11,pT e),(13,iN z.1)]) (λz=>[bl e [.int .i64 z.2] 3]) ?_ ?_
 refine .sr<|.mo rfl<|.q .geq<|.zn ?_
 refine .cond rfl (λB=>?_) λB=>?_
 have a0:8<=n:=by have:=bp B;omega
 refine .seq ?_
 refine bk.cut (X:=Nat×Nat×Nat×Int) (λz=>(a<=z.1/\z.1<a+n)/\(a<=z.2.1/\z.2.1<a+n)/\(a<=z.2.2.1/\z.2.2.1<a+n)) (λz=>[(0,v),(3,.func (.func f) #[] caps.toArray),(11,pT e),(12,iN z.1),(13,iN z.2.1),(14,iN z.2.2.1)]) (λz=>[bl e [.int .i64 z.2.2.2] 3]) ?_ ?_
 refine .sr<|.mo rfl<|.q .geq<|.zn ?_
 refine .cond rfl (λC=>?_) λC=>?_
 have Z:50<=n:=by have:=bp C;omega
 refine .sr<|.mo rfl<|.mo rfl<|.mo rfl ?_
 refine .aQ (eC v xs (a+q) a (a+n) e 0 _ h (by omega) l w m o) (λu r g=>?_)
 obtain⟨V,K,rfl,rfl,G⟩:=g
 refine .ag rfl<|.z<|.mo rfl<|.mo rfl<|.mo rfl ?_
 refine .aQ (eC v xs (a+q*2) a (a+n) e V _ h (by omega) l w m o) (λu r g=>?_)
 obtain⟨W,L,rfl,rfl,H⟩:=g
 refine .az rfl<|.region<|.mo rfl<|.mo rfl<|.mo rfl ?_
 refine .aQ (eC v xs (a+q*3) a (a+n) e W _ h (by omega) l w m o) (λu r g=>?_)
 obtain⟨O,M,rfl,rfl,I⟩:=g
 refine .ag rfl<|.nil ?_
 ·first
   |exact ax (K,L,M,O) ⟨G,H,I⟩ kE.c.c.c.c.c.c rH
   |exact ax (a+q,a+q*2,a+q*3,0) ⟨by simp only;omega,by simp only;omega,by simp only;omega⟩ kE.c.c.c.c.c.c rH
 refine .skip ?_
 ·first
   |exact ax (K,L,M,O) ⟨G,H,I⟩ kE.c.c.c.c.c.c rH
   |exact ax (a+q,a+q*2,a+q*3,0) ⟨by simp only;omega,by simp only;omega,by simp only;omega⟩ kE.c.c.c.c.c.c rH
 intro y d
 obtain⟨i,j,k,s⟩:=y
 obtain⟨D,E,F⟩:=d
 simp only at D E F⊢
 refine aI<|.region<|.mo rfl<|.mo rfl<|.mo rfl<|.mo rfl<|.mo rfl ?_
 refine .aQ (fw v xs i j k a (a+n) e s _ h D E F l m o) (λu r g=>?_)
 obtain⟨Q,N,rfl,rfl,J⟩:=g
 refine .ag rfl<|.nil ?_
 ·first
   |exact ax (N,Q) J kE.c.c rH
   |exact ax (a+q*2,0) (by simp only;omega) kE.c.c rH
 refine .skip ?_
 ·first
   |exact ax (N,Q) J kE.c.c rH
   |exact ax (a+q*2,0) (by simp only;omega) kE.c.c rH
 intro y d
 obtain⟨p,s⟩:=y
 simp only at d⊢
 refine aI<|.sr<|.lo rfl<|.zn<|.block<|.sr<|.q .cL<|.az rfl ?_
 refine .cond rfl (λS=>?_) λS=>?_
 refine .sr<|.mo rfl<|.ag rfl<|.az rfl ?_
 refine .ret (bu (bb _ (.two (.tmp rfl) (.tmp rfl)) (.none _) ?_))
 ·exact⟨⟨p,_,rfl,d.1,d.2⟩,rfl⟩
 refine .sr<|.q .cL<|.az rfl ?_
 refine .cond rfl (λT=>?_) λT=>?_
 refine .sr<|.mo rfl<|.ag rfl<|.az rfl ?_
 refine .ret (bu (bb _ (.two (.tmp rfl) (.tmp rfl)) (.none _) ?_))
 ·exact⟨⟨p,_,rfl,d.1,d.2⟩,rfl⟩
 refine .sr<|.mo rfl<|.ag rfl<|.az rfl ?_
 refine .ret (bu (bb _ (.two (.tmp rfl) (.tmp rfl)) (.none _) ?_))
 ·exact⟨⟨p,_,rfl,d.1,d.2⟩,rfl⟩
end
end SGC
namespace SGC
section
variable{c:GP->GP->Int}{ok:GP->Prop}{f:FuncId}{caps:List Value} [e:aL prog f]
theorem hS(v:Value)(xs:List GP)(T:ay)(a b m:Nat)(p:GP)(R:aC)(h:OS 137 9 bz v xs T)(b1:a<b)(hm:a<=m/\m<b)(C:xs[m]? =some p)(U:b<=xs.length)(hl:xs.length<=1000000000)(hf:bR prog f caps R (λp:GP=>Value.agg (bz p).toArray) c ok)(a0:∀x∈xs,ok x)(so:SO (ap c))
  (b7:∀(k:Nat) (x:GP),a<=k->k<b->xs[k]? =some x->ap c x p=false):
  Spec prog 343 [v,.int .i64 a,.int .i64 b,.int .i64 m,.func (.func f) #[] caps.toArray] R [T] λu H'=>∃T',H'=[T']/\∃ys mid,u=iN mid/\OS 137 9 bz v ys T'/\RP a b xs ys/\iM (ap c) ys a mid b p:=by
 have iv:=h.aF
 obtain⟨x0,E⟩:∃x,xs[a]? =some x:=⟨_,aE (by omega)⟩
 have a8:=a0 p (aG C)
 refine Spec.body func343 rfl results343 ntmps343 rfl ?_
 refine .sr<|.ag rfl<|.zs<|.bN [13,15] mixed ?_
 refine .tO 0 rfl .move<|.tO 1 rfl .move<|.tK 2 rfl .move<|.tK 3 rfl .move<|.tO 4 rfl .move<|.tO 5 rfl .move ?_
 refine RA.ar 6 rfl (m) h C rfl rfl rfl (by kernel_rfl) (λd1=>?_)
 refine .tO 7 rfl (.aD rfl)<|.tO 8 rfl .move<|.tO 9 rfl .move ?_
 refine RA.ar 10 rfl (a) h E rfl rfl rfl (by kernel_rfl) (λd2=>?_)
 refine .tO 11 rfl (.aD rfl) ?_
 refine RA.ar 12 rfl (a) h E rfl rfl rfl (by kernel_rfl) (λd3=>?_)
 refine .sT 13 rfl ?_
 refine .bh (a) h E p (λa9 a1=>?_) (h.one _ (aG C))
 refine .nil (Next.mod rfl ?_)
 refine RA.ar 14 rfl (m) h C rfl rfl rfl (by kernel_rfl) (λd4=>?_)
 refine .sT 15 rfl ?_
 obtain⟨zz,a2⟩:∃u,(xs.set (a) p)[m]? =some u:=⟨_,aE (by rw[acT];exact(acU.1 C).1)⟩
 refine .bh (m) a1 a2 x0 (λY K=>?_) (h.one _ (aG E))
 rw[<-bP E C]at K
 refine .nil (Next.mod rfl ?_)
 refine RA.nil (by kernel_rfl) ?_
 have b0:RP a b xs (bi xs a m):=(RP.refl xs).step (by omega) (by omega) (by omega) (by omega) (by omega)
 have b2:(bi xs a m)[a]? =some p:=by
  rw[cR (by omega) (by omega)]
  by_cases hk:a=m
  ·rw[if_pos hk,E, <-C, <-hk,E]
  ·rw[if_neg hk,if_pos rfl,C]
 refine aI<|.sr<|.mo rfl ?_
 refine .ia (a+1) .add ?_
 refine .mo rfl ?_
 refine .ia (b-1) .sub ?_
 refine .ag rfl<|.ag rfl<|.zs<|.block ?_
 refine .loop (X:=Nat×Nat×List GP×ay) (λy=>OS 137 9 bz v y.2.2.1 y.2.2.2/\RP a b xs y.2.2.1/\PQ (λx=> !ap c p x) y.2.2.1 a y.1 y.2.1 b p) (λy=>[(0,v),(1,iN a),(4,.func (.func f) #[] caps.toArray),(11,iN y.1),(12,iN y.2.1)]) (λy=>[y.2.2.2]) (λy=>y.2.1+1-y.1) (a+1,b-1,bi xs a m,Y) ⟨K,b0,.start b1 b2⟩ kE.c.c.c.c.c rH ?_
 rintro⟨i,j,ys,N⟩ ⟨r,D,G⟩
 simp only at r D G⊢
 have d0:=D.length
 have c4:=G.i0
 have c6:=G.ij
 have c8:=G.jb
 have a7:=G.at_
 refine .block<|.seq ?_
 refine bk.cut (X:=Nat) (λs=>i<=s/\PQ (λx=> !ap c p x) ys a s j b p/\∀x,s<=j->ys[s]? =some x->(!ap c p x)=false) (λs=>[(0,v),(1,iN a),(4,.func (.func f) #[] caps.toArray),(11,.int .i64 (s:Nat)),(12,iN j)]) (λ_=>[N]) ?_ ?_
 refine .block ?_
 refine .loop (X:=Nat) (λs=>i<=s/\PQ (λx=> !ap c p x) ys a s j b p) (λs=>[(0,v),(1,iN a),(4,.func (.func f) #[] caps.toArray),(11,.int .i64 (s:Nat)),(12,iN j)]) (λ_=>[N]) (λs=>j+1-s) i ⟨acS _,G⟩ kE.c.c.c.c.c rH ?_
 rintro A ⟨V,I⟩
 refine .seq<|.seq ?_
 refine .bO 13 mixed (by kernel_rfl) ?_
 conv=>arg 6;dsimp only[List.take]
 refine .mo rfl<|.mo rfl<|.q .leq<|.mo rfl ?_
 refine .split (t:=34) rfl (λd=>?_) (λd=>?_)
 have b5:A<=j:=by have:=bp d;omega
 obtain⟨x2,L⟩:∃x,ys[A]? =some x:=⟨_,aE (by omega)⟩
 have c2:=a0 x2 (D.perm.mem_iff.1 (aG L))
 refine .gT d<|.mo rfl<|.gT d<|.mo rfl<|.gT d<|.mo rfl<|.gT d ?_
 refine .ar a r a7 (λd5=>?_)
 refine .gT d<|.q (.aD rfl)<|.gT d<|.mo rfl<|.gT d<|.mo rfl<|.gT d ?_
 refine .ar A r L (λd6=>?_)
 refine .gT d<|.q (.aD rfl)<|.nil<|.gT d ?_
 refine .bV (first:=[]) (captured:=caps) (vs:=[(λp:GP=>Value.agg (bz p).toArray) p,(λp:GP=>Value.agg (bz p).toArray) x2]) (hf p x2 a8 c2 _ (λb o U=>.inl U)) (λu hu=>?_)
 subst hu
 refine .gT d<|.q .lss<|.gT d<|.q .not<|.q (.bX d) ?_
 refine .zn ?_
 refine .cond rfl (λO=>?_) λO=>?_
 refine .kn<|.block<|.region<|.mo rfl ?_
 refine .ia (A+1) .add ?_
 refine .ag rfl<|.nil<|bg ?_
 ·exact aS (A+1) ⟨by omega,I.inc b5 L O⟩ (by omega) kE.c.c.c.c.c rH
 refine .exit<|aT<|aW<|aU ?_
 first
  |exact ax A ⟨V,I,λx g n=>by rw[L]at n;cases n;exact O⟩ kE.c.c.c.c.c rH
  |exact ax A ⟨V,I,λx g n=>by have:=bc d;omega⟩ kE.c.c.c.c.c rH
 refine .gF d<|.gF d<|.gF d<|.gF d<|.gF d<|.gF d<|.gF d<|.gF d<|.gF d<|.nil<|.gF d<|.gF d<|.gF d<|.q (.bU d) ?_
 refine .zn<|.bB<|.exit<|aT<|aW<|aU ?_
 first
  |exact ax A ⟨V,I,λx g n=>by rw[L]at n;cases n;exact O⟩ kE.c.c.c.c.c rH
  |exact ax A ⟨V,I,λx g n=>by have:=bc d;omega⟩ kE.c.c.c.c.c rH
 intro x g
 obtain⟨l,a4⟩:∃l,l=x:=⟨_,rfl⟩
 rw[<-a4]at g⊢
 clear a4 x
 obtain⟨c5,a3,c0⟩:=g
 refine aI<|.seq ?_
 refine bk.cut (X:=Nat) (λw=>w<=j/\PQ (λx=> !ap c p x) ys a l w b p/\∀x,l<=w->ys[w]? =some x->(!ap c p x)=true) (λw=>[(0,v),(1,iN a),(4,.func (.func f) #[] caps.toArray),(11,iN l),(12,.int .i64 (w:Nat))]) (λ_=>[N]) ?_ ?_
 refine .block ?_
 refine .loop (X:=Nat) (λw=>w<=j/\PQ (λx=> !ap c p x) ys a l w b p) (λw=>[(0,v),(1,iN a),(4,.func (.func f) #[] caps.toArray),(11,iN l),(12,.int .i64 (w:Nat))]) (λ_=>[N]) (λw=>w) j ⟨acS _,a3⟩ kE.c.c.c.c.c rH ?_
 rintro B ⟨W,J⟩
 have b4:=a3.i0
 refine .seq<|.seq ?_
 refine .bO 13 mixed (by kernel_rfl) ?_
 conv=>arg 6;dsimp only[List.take]
 refine .mo rfl<|.mo rfl<|.q .leq<|.mo rfl ?_
 refine .split (t:=53) rfl (λe=>?_) (λe=>?_)
 have b6:l<=B:=by have:=bp e;omega
 obtain⟨H,M⟩:∃x,ys[B]? =some x:=⟨_,aE (by omega)⟩
 have c3:=a0 H (D.perm.mem_iff.1 (aG M))
 refine .gT e<|.mo rfl<|.gT e<|.mo rfl<|.gT e<|.mo rfl<|.gT e ?_
 refine .ar a r a7 (λd7=>?_)
 refine .gT e<|.q (.aD rfl)<|.gT e<|.mo rfl<|.gT e<|.mo rfl<|.gT e ?_
 refine .ar B r M (λd8=>?_)
 refine .gT e<|.q (.aD rfl)<|.nil<|.gT e ?_
 refine .bV (first:=[]) (captured:=caps) (vs:=[(λp:GP=>Value.agg (bz p).toArray) p,(λp:GP=>Value.agg (bz p).toArray) H]) (hf p H a8 c3 _ (λb o U=>.inl U)) (λu hu=>?_)
 subst hu
 refine .gT e<|.q .lss<|.q (.bX e) ?_
 refine .zn ?_
 refine .cond rfl (λQ=>?_) λQ=>?_
 refine .kn<|.block<|.region<|.mo rfl ?_
 refine .ia (B-1) .sub ?_
 refine .ag rfl<|.nil<|bg ?_
 ·have b8:ap c p H=true:=Q
  exact aS (B-1) ⟨by omega,J.dec b6 M (by rw[b8];rfl)⟩ (by omega) kE.c.c.c.c.c rH
 refine .exit<|aT<|aW<|aU ?_
 first
  |exact ax B ⟨W,J,λx g n=>by have hh:ap c p H=false:=Q;rw[M]at n;cases n;rw[hh];rfl⟩ kE.c.c.c.c.c rH
  |exact ax B ⟨W,J,λx g n=>by have:=bc e;omega⟩ kE.c.c.c.c.c rH
 refine .gF e<|.gF e<|.gF e<|.gF e<|.gF e<|.gF e<|.gF e<|.gF e<|.gF e<|.nil<|.gF e<|.gF e<|.q (.bU e) ?_
 refine .zn<|.bB<|.exit<|aT<|aW<|aU ?_
 first
  |exact ax B ⟨W,J,λx g n=>by have hh:ap c p H=false:=Q;rw[M]at n;cases n;rw[hh];rfl⟩ kE.c.c.c.c.c rH
  |exact ax B ⟨W,J,λx g n=>by have:=bc e;omega⟩ kE.c.c.c.c.c rH
 intro x g
 obtain⟨z,a5⟩:∃z,z=x:=⟨_,rfl⟩
 rw[<-a5]at g⊢
 clear a5 x
 obtain⟨c9,S,c1⟩:=g
 have b4:=S.i0
 have c7:=S.ij
 refine aI<|.seq<|.sr<|.mo rfl<|.mo rfl<|.q .gtr<|.zn ?_
 refine .cond rfl (λZ=>?_) λZ=>?_
 refine .exit (aT (du (aW (aU ?_))))
 refine aI<|.sr<|.mo rfl<|.az rfl ?_
 refine .ret (bb _ (.one (.tmp rfl)) rH ?_)
 ·have b3:z<l:=cO Z
  exact⟨_,rfl,ys,l,rfl,r,D,S.kd so b3 (D.all (p:=λx=>ap c x p=false) b7)⟩
 have a6:l<=z:=by have:=bc Z;omega
 obtain⟨x,g⟩:∃x,ys[l]? =some x:=⟨_,aE (by omega)⟩
 obtain⟨y,F⟩:∃x,ys[z]? =some x:=⟨_,aE (by omega)⟩
 have b9:=S.sw a6 (by omega) g F (c0 x (by omega) g) (c1 y a6 F)
 refine .kn<|.seq<|.bN [13,15] mixed ?_
 refine .tO 0 rfl .move<|.tO 1 rfl .move<|.tK 2 rfl .move<|.tK 3 rfl .move<|.tO 4 rfl .move<|.tO 5 rfl .move ?_
 refine RA.ar 6 rfl (z) r F rfl rfl rfl (by kernel_rfl) (λd9=>?_)
 refine .tO 7 rfl (.aD rfl)<|.tO 8 rfl .move<|.tO 9 rfl .move ?_
 refine RA.ar 10 rfl (l) r g rfl rfl rfl (by kernel_rfl) (λe0=>?_)
 refine .tO 11 rfl (.aD rfl) ?_
 refine RA.ar 12 rfl (l) r g rfl rfl rfl (by kernel_rfl) (λe1=>?_)
 refine .sT 13 rfl ?_
 refine .bh (l) r g y (λa9 a1=>?_) (r.one _ (aG F))
 refine .nil (Next.mod rfl ?_)
 refine RA.ar 14 rfl (z) r F rfl rfl rfl (by kernel_rfl) (λe2=>?_)
 refine .sT 15 rfl ?_
 obtain⟨zz,a2⟩:∃u,(ys.set (l) y)[z]? =some u:=⟨_,aE (by rw[acT];exact(acU.1 F).1)⟩
 refine .bh (z) a1 a2 x (λY K=>?_) (r.one _ (aG g))
 rw[<-bP g F]at K
 refine .nil (Next.mod rfl ?_)
 refine RA.nil (by kernel_rfl) ?_
 refine aI<|.sr<|.mo rfl ?_
 refine .ia (l+1) .add ?_
 refine .az rfl<|.region<|.mo rfl ?_
 refine .ia (z-1) .sub ?_
 refine .ag rfl<|.nil<|bg ?_
 ·exact aS (l+1,z-1,bi ys l z,Y) ⟨K,D.step (by omega) (by omega) (by omega) (by omega) (by omega),b9.2⟩ (by simp only;omega) kE.c.c.c.c.c rH
theorem fy(v:Value)(xs:List GP)(T:ay)(a b m:Nat)(p:GP)(R:aC)(h:OS 137 9 bz v xs T)(e0:a<b)(hm:a<=m/\m<b)(U:xs[m]? =some p)(S:b<=xs.length)(hl:xs.length<=1000000000)(hf:bR prog f caps R (λp:GP=>Value.agg (bz p).toArray) c ok)(b0:∀x∈xs,ok x)(so:SO (ap c)):
  Spec prog 344 [v,.int .i64 a,.int .i64 b,.int .i64 m,.func (.func f) #[] caps.toArray] R [T] λu H'=>∃T',H'=[T']/\∃ys mid z,u=.tuple [iN mid,.bool z].toArray/\OS 137 9 bz v ys T'/\RP a b xs ys/\Part (ap c) ys a mid b p:=by
 have iv:=h.aF
 obtain⟨x0,Z⟩:∃x,xs[a]? =some x:=⟨_,aE (by omega)⟩
 have c3:=b0 p (aG U)
 refine Spec.body func344 rfl results344 ntmps344 rfl ?_
 refine .sr<|.ag rfl<|.ag rfl<|.zs<|.bN [13,15] mixed ?_
 refine .tO 0 rfl .move<|.tO 1 rfl .move<|.tK 2 rfl .move<|.tK 3 rfl .move<|.tO 4 rfl .move<|.tO 5 rfl .move ?_
 refine RA.ar 6 rfl (m) h U rfl rfl rfl (by kernel_rfl) (λk0=>?_)
 refine .tO 7 rfl (.aD rfl)<|.tO 8 rfl .move<|.tO 9 rfl .move ?_
 refine RA.ar 10 rfl (a) h Z rfl rfl rfl (by kernel_rfl) (λk1=>?_)
 refine .tO 11 rfl (.aD rfl) ?_
 refine RA.ar 12 rfl (a) h Z rfl rfl rfl (by kernel_rfl) (λk4=>?_)
 refine .sT 13 rfl ?_
 refine .bh (a) h Z p (λb7 J=>?_) (h.one _ (aG U))
 refine .nil (Next.mod rfl ?_)
 refine RA.ar 14 rfl (m) h U rfl rfl rfl (by kernel_rfl) (λk5=>?_)
 refine .sT 15 rfl ?_
 obtain⟨zz,K⟩:∃u,(xs.set (a) p)[m]? =some u:=⟨_,aE (by rw[acT];exact(acU.1 U).1)⟩
 refine .bh (m) J K x0 (λV E=>?_) (h.one _ (aG Z))
 rw[<-bP Z U]at E
 refine .nil (Next.mod rfl ?_)
 refine RA.nil (by kernel_rfl) ?_
 have a4:RP a b xs (bi xs a m):=(RP.refl xs).step (by omega) (by omega) (by omega) (by omega) (by omega)
 have I:(bi xs a m)[a]? =some p:=by
  rw[cR (by omega) (by omega)]
  by_cases hk:a=m
  ·rw[if_pos hk,Z, <-U, <-hk,Z]
  ·rw[if_neg hk,if_pos rfl,U]
 obtain⟨D,d5⟩:∃D,D=bi xs a m:=⟨_,rfl⟩
 rw[<-d5]at E a4 I
 obtain⟨T0,d9⟩:∃T0,T0=V:=⟨_,rfl⟩
 rw[<-d9]at E⊢
 have h8:=a4.length
 have A:=E
 clear E
 have d8:PQ (λx=>ap c x p) D a (a+1) (b-1) b p:=.start e0 I
 clear d5
 refine aI<|.sr<|.mo rfl ?_
 refine .ia (a+1) .add ?_
 refine .mo rfl ?_
 refine .ia (b-1) .sub ?_
 refine .ag rfl<|.ag rfl<|.zs ?_
 refine bk.cut (X:=Nat) (λs=>PQ (λx=>ap c x p) D a s (b-1) b p/\∀x,s<=b-1->D[s]? =some x->ap c x p=false) (λs=>[(0,v),(1,iN a),(4,.func (.func f) #[] caps.toArray),(12,.int .i64 (s:Nat)),(13,.int .i64 ((b-1:Nat):Int))]) (λ_=>[T0]) ?_ ?_
 refine .block ?_
 refine .loop (X:=Nat) (λs=>PQ (λx=>ap c x p) D a s (b-1) b p) (λs=>[(0,v),(1,iN a),(4,.func (.func f) #[] caps.toArray),(12,.int .i64 (s:Nat)),(13,.int .i64 ((b-1:Nat):Int))]) (λ_=>[T0]) (λs=>b-s) (a+1) d8 kE.c.c.c.c.c rH ?_
 rintro L a6
 refine .seq<|.seq ?_
 refine .bO 13 mixed (by kernel_rfl) ?_
 conv=>arg 6;dsimp only[List.take]
 refine .mo rfl<|.mo rfl<|.q .leq<|.mo rfl ?_
 refine .split (t:=35) rfl (λn=>?_) (λn=>?_)
 have e4:L<=b-1:=by have:=bp n;omega
 obtain⟨x2,b2⟩:∃x,D[L]? =some x:=⟨_,aE (by omega)⟩
 have f6:=b0 x2 (a4.perm.mem_iff.1 (aG b2))
 refine .gT n<|.mo rfl<|.gT n<|.mo rfl<|.gT n<|.mo rfl<|.gT n ?_
 refine .ar L A b2 (λk6=>?_)
 refine .gT n<|.q (.aD rfl)<|.gT n<|.mo rfl<|.gT n<|.mo rfl<|.gT n ?_
 refine .ar a A I (λk7=>?_)
 refine .gT n<|.q (.aD rfl)<|.nil<|.gT n ?_
 refine .bV (first:=[]) (captured:=caps) (vs:=[(λp:GP=>Value.agg (bz p).toArray) x2,(λp:GP=>Value.agg (bz p).toArray) p]) (hf x2 p f6 c3 _ (λb o S=>.inl S)) (λu Y=>?_)
 subst Y
 refine .gT n<|.q .lss<|.q (.bX n) ?_
 refine .zn ?_
 refine .cond rfl (λh1=>?_) λh1=>?_
 refine .kn<|.block<|.region<|.mo rfl ?_
 refine .ia (L+1) .add ?_
 refine .ag rfl<|.nil<|bg ?_
 ·exact aS (L+1) (a6.inc e4 b2 h1) (by omega) kE.c.c.c.c.c rH
 refine .exit<|aT<|aW<|aU ?_
 first
  |exact ax L ⟨a6,λx d e=>by rw[b2]at e;cases e;exact h1⟩ kE.c.c.c.c.c rH
  |exact ax L ⟨a6,λx d e=>by have:=bc n;omega⟩ kE.c.c.c.c.c rH
 refine .gF n<|.gF n<|.gF n<|.gF n<|.gF n<|.gF n<|.gF n<|.gF n<|.gF n<|.nil<|.gF n<|.gF n<|.q (.bU n) ?_
 refine .zn<|.bB<|.exit<|aT<|aW<|aU ?_
 first
  |exact ax L ⟨a6,λx d e=>by rw[b2]at e;cases e;exact h1⟩ kE.c.c.c.c.c rH
  |exact ax L ⟨a6,λx d e=>by have:=bc n;omega⟩ kE.c.c.c.c.c rH
 intro x d
 obtain⟨B,c7⟩:∃B,B=x:=⟨_,rfl⟩
 rw[<-c7]at d⊢
 clear c7 x
 obtain⟨c5,f2⟩:=d
 refine aI<|.seq ?_
 refine bk.cut (X:=Nat) (λr=>r<=b-1/\PQ (λx=>ap c x p) D a B r b p/\∀x,B<=r->D[r]? =some x->ap c x p=true) (λr=>[(0,v),(1,iN a),(4,.func (.func f) #[] caps.toArray),(12,iN B),(13,.int .i64 (r:Nat))]) (λ_=>[T0]) ?_ ?_
 refine .block ?_
 refine .loop (X:=Nat) (λr=>r<=b-1/\PQ (λx=>ap c x p) D a B r b p) (λr=>[(0,v),(1,iN a),(4,.func (.func f) #[] caps.toArray),(12,iN B),(13,.int .i64 (r:Nat))]) (λ_=>[T0]) (λr=>r) (b-1) ⟨acS _,c5⟩ kE.c.c.c.c.c rH ?_
 rintro M ⟨c0,a7⟩
 have e2:=c5.i0
 refine .seq<|.seq ?_
 refine .bO 13 mixed (by kernel_rfl) ?_
 conv=>arg 6;dsimp only[List.take]
 refine .mo rfl<|.mo rfl<|.q .leq<|.mo rfl ?_
 refine .split (t:=53) rfl (λk=>?_) (λk=>?_)
 have e5:B<=M:=by have:=bp k;omega
 obtain⟨x4,b3⟩:∃x,D[M]? =some x:=⟨_,aE (by omega)⟩
 have f7:=b0 x4 (a4.perm.mem_iff.1 (aG b3))
 refine .gT k<|.mo rfl<|.gT k<|.mo rfl<|.gT k<|.mo rfl<|.gT k ?_
 refine .ar M A b3 (λk8=>?_)
 refine .gT k<|.q (.aD rfl)<|.gT k<|.mo rfl<|.gT k<|.mo rfl<|.gT k ?_
 refine .ar a A I (λk9=>?_)
 refine .gT k<|.q (.aD rfl)<|.nil<|.gT k ?_
 refine .bV (first:=[]) (captured:=caps) (vs:=[(λp:GP=>Value.agg (bz p).toArray) x4,(λp:GP=>Value.agg (bz p).toArray) p]) (hf x4 p f7 c3 _ (λb o S=>.inl S)) (λu Y=>?_)
 subst Y
 refine .gT k<|.q .lss<|.gT k<|.q .not<|.q (.bX k) ?_
 refine .zn ?_
 refine .cond rfl (λh2=>?_) λh2=>?_
 refine .kn<|.block<|.region<|.mo rfl ?_
 refine .ia (M-1) .sub ?_
 refine .ag rfl<|.nil<|bg ?_
 ·have e8:ap c x4 p=false:=by
   have d6:(!ap c x4 p)=true:=h2
   simpa using d6
  exact aS (M-1) ⟨by omega,a7.dec e5 b3 e8⟩ (by omega) kE.c.c.c.c.c rH
 refine .exit<|aT<|aW<|aU ?_
 first
  |exact ax M ⟨c0,a7,λx d e=>by
    have W:(!ap c x4 p)=false:=h2
    rw[b3]at e;cases e
    simpa using W⟩ kE.c.c.c.c.c rH
  |exact ax M ⟨c0,a7,λx d e=>by have:=bc k;omega⟩ kE.c.c.c.c.c rH
 refine .gF k<|.gF k<|.gF k<|.gF k<|.gF k<|.gF k<|.gF k<|.gF k<|.gF k<|.nil<|.gF k<|.gF k<|.gF k<|.q (.bU k) ?_
 refine .zn<|.bB<|.exit<|aT<|aW<|aU ?_
 first
  |exact ax M ⟨c0,a7,λx d e=>by
    have W:(!ap c x4 p)=false:=h2
    rw[b3]at e;cases e
    simpa using W⟩ kE.c.c.c.c.c rH
  |exact ax M ⟨c0,a7,λx d e=>by have:=bc k;omega⟩ kE.c.c.c.c.c rH
 intro x d
 obtain⟨w,c8⟩:∃w,w=x:=⟨_,rfl⟩
 rw[<-c8]at d⊢
 clear c8 x
 obtain⟨g9,b8,f3⟩:=d
 have e2:=b8.i0
 have g3:=b8.ij
 refine aI<|.seq<|.sr<|.mo rfl<|.mo rfl<|.q .gtr<|.zn ?_
 refine .cond rfl (λh3=>?_) λh3=>?_
 have e1:w<B:=cO h3
 obtain⟨y,G⟩:∃x,D[w]? =some x:=⟨_,aE (by omega)⟩
 refine .seq<|.bN [13,15] mixed ?_
 refine .tO 0 rfl .move<|.tO 1 rfl .move<|.tK 2 rfl .move<|.tK 3 rfl .move<|.tO 4 rfl .move<|.tO 5 rfl .move ?_
 refine RA.ar 6 rfl (a) A I rfl rfl rfl (by kernel_rfl) (λl0=>?_)
 refine .tO 7 rfl (.aD rfl)<|.tO 8 rfl .move<|.tO 9 rfl .move ?_
 refine RA.ar 10 rfl (w) A G rfl rfl rfl (by kernel_rfl) (λl1=>?_)
 refine .tO 11 rfl (.aD rfl) ?_
 refine RA.ar 12 rfl (w) A G rfl rfl rfl (by kernel_rfl) (λl2=>?_)
 refine .sT 13 rfl ?_
 refine .bh (w) A G p (λb7 J=>?_) (A.one _ (aG I))
 refine .nil (Next.mod rfl ?_)
 refine RA.ar 14 rfl (a) A I rfl rfl rfl (by kernel_rfl) (λl3=>?_)
 refine .sT 15 rfl ?_
 obtain⟨zz,K⟩:∃u,(D.set (w) p)[a]? =some u:=⟨_,aE (by rw[acT];exact(acU.1 I).1)⟩
 refine .bh (a) J K y (λV E=>?_) (A.one _ (aG G))
 rw[<-bP G I]at E
 refine .nil (Next.mod rfl ?_)
 refine RA.nil (by kernel_rfl) ?_
 refine aI<|.sr<|.mo rfl<|.ag rfl<|.az rfl ?_
 refine .ret (bq (bb _ (.two (.tmp rfl) (.tmp rfl)) rH ?_))
 ·exact⟨_,rfl,bi D w a,w,true,rfl,E,a4.step (by omega) (by omega) (by omega) (by omega) (by omega),b8.fin e1 (by omega)⟩
 have d1:B<=w:=by have:=bc h3;omega
 obtain⟨x,d⟩:∃x,D[B]? =some x:=⟨_,aE (by omega)⟩
 obtain⟨y,G⟩:∃x,D[w]? =some x:=⟨_,aE (by omega)⟩
 have f0:=b8.sw d1 (by omega) d G (f2 x (by omega) d) (f3 y d1 G)
 refine .kn<|.seq<|.bN [13,15] mixed ?_
 refine .tO 0 rfl .move<|.tO 1 rfl .move<|.tK 2 rfl .move<|.tK 3 rfl .move<|.tO 4 rfl .move<|.tO 5 rfl .move ?_
 refine RA.ar 6 rfl (w) A G rfl rfl rfl (by kernel_rfl) (λl4=>?_)
 refine .tO 7 rfl (.aD rfl)<|.tO 8 rfl .move<|.tO 9 rfl .move ?_
 refine RA.ar 10 rfl (B) A d rfl rfl rfl (by kernel_rfl) (λl5=>?_)
 refine .tO 11 rfl (.aD rfl) ?_
 refine RA.ar 12 rfl (B) A d rfl rfl rfl (by kernel_rfl) (λl6=>?_)
 refine .sT 13 rfl ?_
 refine .bh (B) A d y (λb7 J=>?_) (A.one _ (aG G))
 refine .nil (Next.mod rfl ?_)
 refine RA.ar 14 rfl (w) A G rfl rfl rfl (by kernel_rfl) (λi1=>?_)
 refine .sT 15 rfl ?_
 obtain⟨zz,K⟩:∃u,(D.set (B) y)[w]? =some u:=⟨_,aE (by rw[acT];exact(acU.1 G).1)⟩
 refine .bh (w) J K x (λV E=>?_) (A.one _ (aG d))
 rw[<-bP d G]at E
 refine .nil (Next.mod rfl ?_)
 refine RA.nil (by kernel_rfl) ?_
 refine aI<|.sr<|.mo rfl ?_
 refine .ia (B+1) .add ?_
 refine .ag rfl<|.z<|.mo rfl ?_
 refine .ia (w-1) .sub ?_
 refine .ag rfl<|.zs ?_
 refine bk.cut (X:=Nat×Nat×List GP×ay) (λy=>OS 137 9 bz v y.2.2.1 y.2.2.2/\RP a b xs y.2.2.1/\PQ (λx=>ap c x p) y.2.2.1 a y.1 y.2.1 b p/\y.2.1<y.1) (λy=>[(0,v),(1,iN a),(4,.func (.func f) #[] caps.toArray),(12,iN y.1),(13,iN y.2.1)]) (λy=>[y.2.2.2]) ?_ ?_
 refine .block ?_
 refine .loop (X:=Nat×Nat×List GP×ay) (λy=>OS 137 9 bz v y.2.2.1 y.2.2.2/\RP a b xs y.2.2.1/\PQ (λx=>ap c x p) y.2.2.1 a y.1 y.2.1 b p) (λy=>[(0,v),(1,iN a),(4,.func (.func f) #[] caps.toArray),(12,iN y.1),(13,iN y.2.1)]) (λy=>[y.2.2.2]) (λy=>y.2.1+1-y.1) (B+1,w-1,bi D B w,V) ⟨E,a4.step (by omega) (by omega) (by omega) (by omega) (by omega),f0.2⟩ kE.c.c.c.c.c rH ?_
 rintro⟨i,j,ys,T1⟩ ⟨F,a5,a2⟩
 simp only at F a5 a2⊢
 have h7:=a5.length
 have g0:=a2.i0
 have g2:=a2.ij
 have g7:=a2.jb
 have d4:=a2.at_
 refine .block<|.seq ?_
 refine bk.cut (X:=Nat) (λs=>i<=s/\PQ (λx=>ap c x p) ys a s j b p/\∀x,s<=j->ys[s]? =some x->ap c x p=false) (λs=>[(0,v),(1,iN a),(4,.func (.func f) #[] caps.toArray),(12,.int .i64 (s:Nat)),(13,iN j)]) (λ_=>[T1]) ?_ ?_
 refine .block ?_
 refine .loop (X:=Nat) (λs=>i<=s/\PQ (λx=>ap c x p) ys a s j b p) (λs=>[(0,v),(1,iN a),(4,.func (.func f) #[] caps.toArray),(12,.int .i64 (s:Nat)),(13,iN j)]) (λ_=>[T1]) (λs=>j+1-s) i ⟨acS _,a2⟩ kE.c.c.c.c.c rH ?_
 rintro N ⟨c1,a8⟩
 refine .seq<|.seq ?_
 refine .bO 13 mixed (by kernel_rfl) ?_
 conv=>arg 6;dsimp only[List.take]
 refine .mo rfl<|.mo rfl<|.q .leq<|.mo rfl ?_
 refine .split (t:=108) rfl (λl=>?_) (λl=>?_)
 have e6:N<=j:=by have:=bp l;omega
 obtain⟨x6,b4⟩:∃x,ys[N]? =some x:=⟨_,aE (by omega)⟩
 have f8:=b0 x6 (a5.perm.mem_iff.1 (aG b4))
 refine .gT l<|.mo rfl<|.gT l<|.mo rfl<|.gT l<|.mo rfl<|.gT l ?_
 refine .ar N F b4 (λi4=>?_)
 refine .gT l<|.q (.aD rfl)<|.gT l<|.mo rfl<|.gT l<|.mo rfl<|.gT l ?_
 refine .ar a F d4 (λi5=>?_)
 refine .gT l<|.q (.aD rfl)<|.nil<|.gT l ?_
 refine .bV (first:=[]) (captured:=caps) (vs:=[(λp:GP=>Value.agg (bz p).toArray) x6,(λp:GP=>Value.agg (bz p).toArray) p]) (hf x6 p f8 c3 _ (λb o S=>.inl S)) (λu Y=>?_)
 subst Y
 refine .gT l<|.q .lss<|.q (.bX l) ?_
 refine .zn ?_
 refine .cond rfl (λh4=>?_) λh4=>?_
 refine .kn<|.block<|.region<|.mo rfl ?_
 refine .ia (N+1) .add ?_
 refine .ag rfl<|.nil<|bg ?_
 ·exact aS (N+1) ⟨by omega,a8.inc e6 b4 h4⟩ (by omega) kE.c.c.c.c.c rH
 refine .exit<|aT<|aW<|aU ?_
 first
  |exact ax N ⟨c1,a8,λx d e=>by rw[b4]at e;cases e;exact h4⟩ kE.c.c.c.c.c rH
  |exact ax N ⟨c1,a8,λx d e=>by have:=bc l;omega⟩ kE.c.c.c.c.c rH
 refine .gF l<|.gF l<|.gF l<|.gF l<|.gF l<|.gF l<|.gF l<|.gF l<|.gF l<|.nil<|.gF l<|.gF l<|.q (.bU l) ?_
 refine .zn<|.bB<|.exit<|aT<|aW<|aU ?_
 first
  |exact ax N ⟨c1,a8,λx d e=>by rw[b4]at e;cases e;exact h4⟩ kE.c.c.c.c.c rH
  |exact ax N ⟨c1,a8,λx d e=>by have:=bc l;omega⟩ kE.c.c.c.c.c rH
 intro x d
 obtain⟨C,d0⟩:∃C,C=x:=⟨_,rfl⟩
 rw[<-d0]at d⊢
 clear d0 x
 obtain⟨g6,c6,f4⟩:=d
 refine aI<|.seq ?_
 refine bk.cut (X:=Nat) (λr=>r<=j/\PQ (λx=>ap c x p) ys a C r b p/\∀x,C<=r->ys[r]? =some x->ap c x p=true) (λr=>[(0,v),(1,iN a),(4,.func (.func f) #[] caps.toArray),(12,iN C),(13,.int .i64 (r:Nat))]) (λ_=>[T1]) ?_ ?_
 refine .block ?_
 refine .loop (X:=Nat) (λr=>r<=j/\PQ (λx=>ap c x p) ys a C r b p) (λr=>[(0,v),(1,iN a),(4,.func (.func f) #[] caps.toArray),(12,iN C),(13,.int .i64 (r:Nat))]) (λ_=>[T1]) (λr=>r) j ⟨acS _,c6⟩ kE.c.c.c.c.c rH ?_
 rintro O ⟨c2,a9⟩
 have e3:=c6.i0
 refine .seq<|.seq ?_
 refine .bO 13 mixed (by kernel_rfl) ?_
 conv=>arg 6;dsimp only[List.take]
 refine .mo rfl<|.mo rfl<|.q .leq<|.mo rfl ?_
 refine .split (t:=126) rfl (λg=>?_) (λg=>?_)
 have e7:C<=O:=by have:=bp g;omega
 obtain⟨x7,b5⟩:∃x,ys[O]? =some x:=⟨_,aE (by omega)⟩
 have f9:=b0 x7 (a5.perm.mem_iff.1 (aG b5))
 refine .gT g<|.mo rfl<|.gT g<|.mo rfl<|.gT g<|.mo rfl<|.gT g ?_
 refine .ar O F b5 (λi6=>?_)
 refine .gT g<|.q (.aD rfl)<|.gT g<|.mo rfl<|.gT g<|.mo rfl<|.gT g ?_
 refine .ar a F d4 (λi7=>?_)
 refine .gT g<|.q (.aD rfl)<|.nil<|.gT g ?_
 refine .bV (first:=[]) (captured:=caps) (vs:=[(λp:GP=>Value.agg (bz p).toArray) x7,(λp:GP=>Value.agg (bz p).toArray) p]) (hf x7 p f9 c3 _ (λb o S=>.inl S)) (λu Y=>?_)
 subst Y
 refine .gT g<|.q .lss<|.gT g<|.q .not<|.q (.bX g) ?_
 refine .zn ?_
 refine .cond rfl (λh5=>?_) λh5=>?_
 refine .kn<|.block<|.region<|.mo rfl ?_
 refine .ia (O-1) .sub ?_
 refine .ag rfl<|.nil<|bg ?_
 ·have e9:ap c x7 p=false:=by
   have d7:(!ap c x7 p)=true:=h5
   simpa using d7
  exact aS (O-1) ⟨by omega,a9.dec e7 b5 e9⟩ (by omega) kE.c.c.c.c.c rH
 refine .exit<|aT<|aW<|aU ?_
 first
  |exact ax O ⟨c2,a9,λx d e=>by
    have W:(!ap c x7 p)=false:=h5
    rw[b5]at e;cases e
    simpa using W⟩ kE.c.c.c.c.c rH
  |exact ax O ⟨c2,a9,λx d e=>by have:=bc g;omega⟩ kE.c.c.c.c.c rH
 refine .gF g<|.gF g<|.gF g<|.gF g<|.gF g<|.gF g<|.gF g<|.gF g<|.gF g<|.nil<|.gF g<|.gF g<|.gF g<|.q (.bU g) ?_
 refine .zn<|.bB<|.exit<|aT<|aW<|aU ?_
 first
  |exact ax O ⟨c2,a9,λx d e=>by
    have W:(!ap c x7 p)=false:=h5
    rw[b5]at e;cases e
    simpa using W⟩ kE.c.c.c.c.c rH
  |exact ax O ⟨c2,a9,λx d e=>by have:=bc g;omega⟩ kE.c.c.c.c.c rH
 intro x d
 obtain⟨H,d3⟩:∃H,H=x:=⟨_,rfl⟩
 rw[<-d3]at d⊢
 clear d3 x
 obtain⟨h0,b9,f5⟩:=d
 have e3:=b9.i0
 have g4:=b9.ij
 refine aI<|.seq<|.sr<|.mo rfl<|.mo rfl<|.q .gtr<|.zn ?_
 refine .cond rfl (λh6=>?_) λh6=>?_
 refine .exit (aT (du (aW (aU ?_))))
 exact ax (C,H,ys,T1) ⟨F,a5,b9,by have:=bp h6;simp only;omega⟩ kE.c.c.c.c.c rH
 have d2:C<=H:=by have:=bc h6;omega
 obtain⟨x8,a0⟩:∃x,ys[C]? =some x:=⟨_,aE (by omega)⟩
 obtain⟨y8,a1⟩:∃x,ys[H]? =some x:=⟨_,aE (by omega)⟩
 have f1:=b9.sw d2 (by omega) a0 a1 (f4 x8 (by omega) a0) (f5 y8 d2 a1)
 refine .kn<|.seq<|.bN [13,15] mixed ?_
 refine .tO 0 rfl .move<|.tO 1 rfl .move<|.tK 2 rfl .move<|.tK 3 rfl .move<|.tO 4 rfl .move<|.tO 5 rfl .move ?_
 refine RA.ar 6 rfl (H) F a1 rfl rfl rfl (by kernel_rfl) (λi8=>?_)
 refine .tO 7 rfl (.aD rfl)<|.tO 8 rfl .move<|.tO 9 rfl .move ?_
 refine RA.ar 10 rfl (C) F a0 rfl rfl rfl (by kernel_rfl) (λj0=>?_)
 refine .tO 11 rfl (.aD rfl) ?_
 refine RA.ar 12 rfl (C) F a0 rfl rfl rfl (by kernel_rfl) (λj1=>?_)
 refine .sT 13 rfl ?_
 refine .bh (C) F a0 y8 (λb7 J=>?_) (F.one _ (aG a1))
 refine .nil (Next.mod rfl ?_)
 refine RA.ar 14 rfl (H) F a1 rfl rfl rfl (by kernel_rfl) (λj4=>?_)
 refine .sT 15 rfl ?_
 obtain⟨zz,K⟩:∃u,(ys.set (C) y8)[H]? =some u:=⟨_,aE (by rw[acT];exact(acU.1 a1).1)⟩
 refine .bh (H) J K x8 (λV E=>?_) (F.one _ (aG a0))
 rw[<-bP a0 a1]at E
 refine .nil (Next.mod rfl ?_)
 refine RA.nil (by kernel_rfl) ?_
 refine aI<|.sr<|.mo rfl ?_
 refine .ia (C+1) .add ?_
 refine .az rfl<|.region<|.mo rfl ?_
 refine .ia (H-1) .sub ?_
 refine .ag rfl<|.nil<|bg ?_
 ·exact aS (C+1,H-1,bi ys C H,V) ⟨E,a5.step (by omega) (by omega) (by omega) (by omega) (by omega),f1.2⟩ (by simp only;omega) kE.c.c.c.c.c rH
 intro x d
 obtain⟨i9,j9,zs,T9⟩:=x
 obtain⟨Q,c4,a3,c9⟩:=d
 simp only at Q c4 a3 c9⊢
 have h9:=c4.length
 have g5:=a3.ij
 have g1:=a3.i0
 have g8:=a3.jb
 have b1:=a3.at_
 obtain⟨y9,b6⟩:∃x,zs[j9]? =some x:=⟨_,aE (by omega)⟩
 refine aI<|.seq<|.bN [13,15] mixed ?_
 refine .tO 0 rfl .move<|.tO 1 rfl .move<|.tK 2 rfl .move<|.tK 3 rfl .move<|.tO 4 rfl .move<|.tO 5 rfl .move ?_
 refine RA.ar 6 rfl (a) Q b1 rfl rfl rfl (by kernel_rfl) (λj5=>?_)
 refine .tO 7 rfl (.aD rfl)<|.tO 8 rfl .move<|.tO 9 rfl .move ?_
 refine RA.ar 10 rfl (j9) Q b6 rfl rfl rfl (by kernel_rfl) (λj6=>?_)
 refine .tO 11 rfl (.aD rfl) ?_
 refine RA.ar 12 rfl (j9) Q b6 rfl rfl rfl (by kernel_rfl) (λj7=>?_)
 refine .sT 13 rfl ?_
 refine .bh (j9) Q b6 p (λb7 J=>?_) (Q.one _ (aG b1))
 refine .nil (Next.mod rfl ?_)
 refine RA.ar 14 rfl (a) Q b1 rfl rfl rfl (by kernel_rfl) (λj8=>?_)
 refine .sT 15 rfl ?_
 obtain⟨zz,K⟩:∃u,(zs.set (j9) p)[a]? =some u:=⟨_,aE (by rw[acT];exact(acU.1 b1).1)⟩
 refine .bh (a) J K y9 (λV E=>?_) (Q.one _ (aG b6))
 rw[<-bP b6 b1]at E
 refine .nil (Next.mod rfl ?_)
 refine RA.nil (by kernel_rfl) ?_
 refine aI<|.sr<|.mo rfl<|.ag rfl<|.az rfl ?_
 refine .ret (bb _ (.two (.tmp rfl) (.tmp rfl)) rH ?_)
 ·exact⟨_,rfl,bi zs j9 a,j9,false,rfl,E,c4.step (by omega) (by omega) (by omega) (by omega) (by omega),a3.fin c9 (by omega)⟩
end
end SGC
namespace SGC
section
variable{c:GP->GP->Int}{ok:GP->Prop}{f:FuncId}{caps:List Value} [e:aL prog f]
def fu(c:GP->GP->Int)(ok:GP->Prop)(f:FuncId)(caps:List Value)(n:Nat):Prop:=∀(v:Value) (xs:List GP) (T:ay) (a b lim:Nat) (R:aC),OS 137 9 bz v xs T->a<=b->b<=xs.length->xs.length<=1000000000->lim<=1000000000->bR prog f caps R (λp:GP=>Value.agg (bz p).toArray) c ok->(∀x∈xs,ok x)->LB (ap c) xs a b->b-a<n->
  Spec prog 236 [v,.int .i64 a,.int .i64 b,.int .i64 lim,.func (.func f) #[] caps.toArray] R [T] λu H'=>∃T',H'=[T']/\u=.tuple #[]/\∃ys,OS 137 9 bz v ys T'/\RP a b xs ys/\SR (ap c) ys a b
theorem hY(n:Nat)(ih:fu c ok f caps n)(D:SO (ap c))(v:Value)(xs:List GP)(T:ay)(H F c7:Nat)(R:aC)(h:OS 137 9 bz v xs T)(d6:H<=F)(hb:F<=xs.length)(hl:xs.length<=1000000000)(e0:c7<=1000000000)(O:bR prog f caps R (λp:GP=>Value.agg (bz p).toArray) c ok)(e2:∀x∈xs,ok x)(d8:LB (ap c) xs H F)(hn:F-H<n+1):
  Spec prog 236 [v,.int .i64 H,.int .i64 F,.int .i64 c7,.func (.func f) #[] caps.toArray] R [T] λu H'=>∃T',H'=[T']/\u=.tuple #[]/\∃ys,OS 137 9 bz v ys T'/\RP H F xs ys/\SR (ap c) ys H F:=by
 have iv:=h.aF
 refine Spec.body func236 rfl results236 ntmps236 rfl ?_
 refine .sr<|.ag rfl<|.z<|.az rfl<|.block ?_
 refine .loop (X:=Nat×Nat×Nat×Bool×Bool×List GP×ay) (λy=>(H<=y.1/\y.1<=y.2.1/\y.2.1<=F/\y.2.2.1<=1000000000)/\OS 137 9 bz v y.2.2.2.2.2.1 y.2.2.2.2.2.2/\RP H F xs y.2.2.2.2.2.1/\OX (ap c) y.2.2.2.2.2.1 H F y.1 y.2.1) (λy=>[(0,v),(1,iN y.1),(2,iN y.2.1),(3,iN y.2.2.1),(4,.func (.func f) #[] caps.toArray),(10,.bool y.2.2.2.1),(11,.bool y.2.2.2.2.1)]) (λy=>[y.2.2.2.2.2.2]) (λy=>y.2.1-y.1) (H,F,c7,true,true,xs,T) ⟨⟨acS _,d6,acS _,e0⟩,h,.refl _,.start⟩ kE.c.c.c.c.c.c.c rH ?_
 rintro⟨a,b,l,wb,wp,ys,T1⟩ ⟨⟨e,c1,g,d7⟩,b1,U,Z⟩
 simp only at e c1 g d7 b1 U Z⊢
 have f0:=U.length
 have b8:∀x∈ys,ok x:=λx W=>e2 x (U.perm.mem_iff.1 W)
 have d1:=Z.lb (d8.rp U) e g
 refine .block<|.sr<|.mo rfl<|.mo rfl ?_
 refine .ia (b-a) .sub ?_
 refine .ag rfl<|.zs<|.sr<|.mo rfl<|.q .leq<|.zn ?_
 refine .cond rfl (λh1=>?_) λh1=>?_
 refine .sr<|.mo rfl<|.mo rfl<|.mo rfl<|.mo rfl ?_
 refine .aQ (hG v ys T1 a b _ b1 c1 (by omega) (by omega) O b8 D) (λu T2 k=>?_)
 obtain⟨rfl,N,I,B,c0⟩:=k
 refine .zn ?_
 refine .ret (bq (bu (cH (bu (bb _ .none rH ?_)))))
 ·first
   |exact⟨_,rfl,rfl,N,I,U.trans (B.mono e g (by omega)),(Z.rp B e g).cS c0⟩
   |exact⟨_,rfl,rfl,ms,a2,U.trans ((C.trans Y).mono e g (by omega)),(Z.rp (C.trans Y) e g).cS (c4 (by assumption))⟩
 have f4:12<b-a:=by have:=bc h1;omega
 refine .kn<|.seq<|.sr<|.mo rfl<|.q .cL<|.zn ?_
 refine .cond rfl (λh2=>?_) λh2=>?_
 refine .sr<|.mo rfl<|.mo rfl<|.mo rfl<|.mo rfl ?_
 refine .aQ (hF v ys T1 a b _ b1 c1 (by omega) (by omega) O b8 D) (λu T2 k=>?_)
 obtain⟨rfl,N,I,B,c0⟩:=k
 refine .zn ?_
 refine .ret (bq (bu (cH (bu (bb _ .none rH ?_)))))
 ·first
   |exact⟨_,rfl,rfl,N,I,U.trans (B.mono e g (by omega)),(Z.rp B e g).cS c0⟩
   |exact⟨_,rfl,rfl,ms,a2,U.trans ((C.trans Y).mono e g (by omega)),(Z.rp (C.trans Y) e g).cS (c4 (by assumption))⟩
 have e9:0<l:=by
  have e8:¬((l:Int)=0):=by simpa using h2
  omega
 refine .kn<|.seq ?_
 refine bk.cut (X:=Nat×List GP×ay) (λz=>z.1<=1000000000/\OS 137 9 bz v z.2.1 z.2.2/\RP a b ys z.2.1) (λz=>[(0,v),(1,iN a),(2,iN b),(3,iN z.1),(4,.func (.func f) #[] caps.toArray),(10,.bool wb),(11,.bool wp),(12,.int .i64 ((b-a:Nat):Int))]) (λz=>[z.2.2]) ?_ ?_
 refine .sr<|.mo rfl<|.q .not<|.zn ?_
 refine .cond rfl (λh3=>?_) λh3=>?_
 refine .sr<|.mo rfl<|.mo rfl<|.mo rfl<|.mo rfl ?_
 refine .aQ (gV v ys T1 a b _ (.func (.func f) #[] caps.toArray) inferInstance b1 c1 (by omega) (by omega)) (λu T2 k=>?_)
 obtain⟨rfl,N,I,B⟩:=k
 refine .zn<|.region<|.mo rfl ?_
 refine .ia (l-1) .sub ?_
 refine .ag rfl<|.nil ?_
 ·first
   |exact ax (l-1,N,T2) ⟨by simp only;omega,I,B⟩ kE.c.c.c.c.c.c.c.c rH
   |exact ax (l,ys,T1) ⟨by simp only;omega,b1,.refl _⟩ kE.c.c.c.c.c.c.c.c rH
 refine .skip ?_
 ·first
   |exact ax (l-1,N,T2) ⟨by simp only;omega,I,B⟩ kE.c.c.c.c.c.c.c.c rH
   |exact ax (l,ys,T1) ⟨by simp only;omega,b1,.refl _⟩ kE.c.c.c.c.c.c.c.c rH
 intro y hy
 obtain⟨r,N,T2⟩:=y
 obtain⟨s,I,B⟩:=hy
 simp only at s I B⊢
 have f1:=B.length
 have e3:∀x∈N,ok x:=λx W=>b8 x (B.perm.mem_iff.1 W)
 refine aI<|.sr<|.mo rfl<|.mo rfl<|.mo rfl<|.mo rfl ?_
 refine .bx (choose_spec v N a b _ (I.rs λp hp=>.inr (by simpa using hp)) (by omega) (by omega) (by omega) (O.mono λb o hb=>.inl hb) e3) (λu k=>?_)
 obtain⟨pv,d0,rfl,d2,d3⟩:=k
 refine .mo rfl<|.q .extract<|.q .extract<|.ag rfl<|.ag rfl<|.zs ?_
 refine bk.cut (X:=Nat×Int×List GP×ay) (λz=>(a<=z.1/\z.1<b)/\OS 137 9 bz v z.2.2.1 z.2.2.2/\RP a b ys z.2.2.1) (λz=>[(0,v),(1,iN a),(2,iN b),(3,iN r),(4,.func (.func f) #[] caps.toArray),(10,.bool wb),(11,.bool wp),(12,.int .i64 ((b-a:Nat):Int)),(13,iN z.1),(14,.int .i64 z.2.1)]) (λz=>[z.2.2.2]) ?_ ?_
 refine .sr<|.mo rfl<|.q .cL<|.zn ?_
 refine .cond rfl (λh4=>?_) λh4=>?_
 refine .sr<|.mo rfl<|.mo rfl<|.mo rfl<|.mo rfl ?_
 refine .aQ (ie v N T2 a b _ (.func (.func f) #[] caps.toArray) inferInstance I (by omega) (by omega) (by omega)) (λu T3 k=>?_)
 obtain⟨rfl,ws,c8,c9⟩:=k
 refine .z<|.mo rfl ?_
 refine .ia (b-1) .sub ?_
 refine .mo rfl<|.mo rfl ?_
 refine .ia (pv-a) .sub ?_
 refine .ia ((b-1)-(pv-a)) .sub ?_
 refine .az rfl<|.region<|.ag rfl<|.nil ?_
 ·first
   |exact ax ((b-1)-(pv-a),1,ws,T3) ⟨by simp only;omega,c8,B.trans c9⟩ kE.c.c.c.c.c.c.c.c.c.c rH
   |exact ax (pv,d0,N,T2) ⟨⟨d2,d3⟩,I,B⟩ kE.c.c.c.c.c.c.c.c.c.c rH
 refine .skip ?_
 ·first
   |exact ax ((b-1)-(pv-a),1,ws,T3) ⟨by simp only;omega,c8,B.trans c9⟩ kE.c.c.c.c.c.c.c.c.c.c rH
   |exact ax (pv,d0,N,T2) ⟨⟨d2,d3⟩,I,B⟩ kE.c.c.c.c.c.c.c.c.c.c rH
 intro y hy
 obtain⟨q,f5,us,T4⟩:=y
 obtain⟨⟨c2,c3⟩,b2,C⟩:=hy
 simp only at c2 c3 b2 C⊢
 have f2:=C.length
 have e4:∀x∈us,ok x:=λx W=>b8 x (C.perm.mem_iff.1 W)
 refine aI<|.seq ?_
 refine bk.cut (X:=List GP×ay) (λz=>OS 137 9 bz v z.1 z.2/\RP a b ys z.1) (λz=>[(0,v),(1,iN a),(2,iN b),(3,iN r),(4,.func (.func f) #[] caps.toArray),(10,.bool wb),(11,.bool wp),(12,.int .i64 ((b-a:Nat):Int)),(13,iN q)]) (λz=>[z.2]) ?_ ?_
 refine .sr<|.mo rfl<|.mo rfl ?_
 refine .split (t:=69) rfl (λb5=>?_) (λb5=>?_)
 refine .gT b5<|.mo rfl<|.q (.bX b5) ?_
 refine .mo rfl ?_
 refine .split (t:=72) rfl (λa1=>?_) (λa1=>?_)
 refine .gT a1<|.mo rfl<|.gT a1<|.q .cL<|.q (.bX a1) ?_
 refine .zn ?_
 refine .cond rfl (λh5=>?_) λh5=>?_
 refine .sr<|.mo rfl<|.mo rfl<|.mo rfl<|.mo rfl ?_
 refine .aQ (hU v us T4 a b _ b2 (by omega) (by omega) (by omega) O e4 D (d1.rp C)) (λu T5 k=>?_)
 obtain⟨ms,mb,rfl,a2,Y,c4⟩:=k
 refine .zn ?_
 refine .cond rfl (λh6=>?_) λh6=>?_
 refine .ret (ki (bq (bu (cH (bu (bb _ .none rH ?_))))))
 ·first
   |exact⟨_,rfl,rfl,N,I,U.trans (B.mono e g (by omega)),(Z.rp B e g).cS c0⟩
   |exact⟨_,rfl,rfl,ms,a2,U.trans ((C.trans Y).mono e g (by omega)),(Z.rp (C.trans Y) e g).cS (c4 (by assumption))⟩
 refine .skip ?_
 ·first
   |exact ax (ms,T5) ⟨a2,C.trans Y⟩ kE.c.c.c.c.c.c.c.c.c rH
   |exact ax (us,T4) ⟨b2,C⟩ kE.c.c.c.c.c.c.c.c.c rH
 refine .skip ?_
 ·first
   |exact ax (ms,T5) ⟨a2,C.trans Y⟩ kE.c.c.c.c.c.c.c.c.c rH
   |exact ax (us,T4) ⟨b2,C⟩ kE.c.c.c.c.c.c.c.c.c rH
 refine .gF a1<|.gF a1<|.q (.bU a1) ?_
 refine .zn<|.bB<|.skip ?_
 ·first
   |exact ax (ms,T5) ⟨a2,C.trans Y⟩ kE.c.c.c.c.c.c.c.c.c rH
   |exact ax (us,T4) ⟨b2,C⟩ kE.c.c.c.c.c.c.c.c.c rH
 refine .gF b5<|.q (.bU b5) ?_
 refine .mo rfl<|.gX<|.gX<|.q .iE<|.zn<|.bB<|.skip ?_
 ·first
   |exact ax (ms,T5) ⟨a2,C.trans Y⟩ kE.c.c.c.c.c.c.c.c.c rH
   |exact ax (us,T4) ⟨b2,C⟩ kE.c.c.c.c.c.c.c.c.c rH
 intro y hy
 obtain⟨a9,T6⟩:=y
 obtain⟨b3,b4⟩:=hy
 simp only at b3 b4⊢
 have f3:=b4.length
 have a8:∀x∈a9,ok x:=λx W=>b8 x (b4.perm.mem_iff.1 W)
 have a3:RP H F xs a9:=U.trans (b4.mono e g (by omega))
 have a5:=Z.rp b4 e g
 have c5:=d1.rp b4
 obtain⟨p,hp⟩:∃x,a9[q]? =some x:=⟨_,aE (by omega)⟩
 have e5:=a8 p (aG hp)
 refine aI<|.seq<|.seq ?_
 refine .bO 13 mixed (by kernel_rfl) ?_
 conv=>arg 6;dsimp only[List.take]
 refine .mo rfl<|.q .gtr<|.mo rfl ?_
 refine .split (t:=83) rfl (λi=>?_) (λi=>?_)
 have d5:0<a:=by have:=bp i;omega
 obtain⟨w,hw⟩:∃x,a9[a-1]? =some x:=⟨_,aE (by omega)⟩
 have e6:=a8 w (aG hw)
 refine .gT i<|.mo rfl<|.gT i<|.mo rfl<|.gT i<|.mo rfl<|.gT i ?_
 refine .ia (a-1) .sub ?_
 refine .gT i ?_
 refine .ar (a-1) b3 hw (λf6=>?_)
 refine .gT i<|.q (.aD rfl)<|.gT i<|.mo rfl<|.gT i<|.mo rfl<|.gT i ?_
 refine .ar q b3 hp (λf7=>?_)
 refine .gT i<|.q (.aD rfl)<|.nil<|.gT i ?_
 refine .bV (first:=[]) (captured:=caps) (vs:=[(λp:GP=>Value.agg (bz p).toArray) w,(λp:GP=>Value.agg (bz p).toArray) p]) (O w p e6 e5 _ (λb o hb=>.inl hb)) (λu k=>?_)
 subst k
 refine .gT i<|.q .lss<|.gT i<|.q .not<|.q (.bX i) ?_
 refine .zn ?_
 refine .cond rfl (λh7=>?_) λh7=>?_
 have e1:ap c w p=false:=by
  have d4:(!ap c w p)=true:=h7
  simpa using d4
 refine .sr<|.mo rfl<|.mo rfl<|.mo rfl<|.mo rfl<|.mo rfl ?_
 refine .aQ (hS v a9 T6 a b q p _ b3 (by omega) ⟨c2,c3⟩ hp (by omega) (by omega) O a8 D (c5.kr D d5 hw e1)) (λu Q k=>?_)
 obtain⟨E,j,rfl,S,m,A⟩:=k
 have a7:=A.lo
 have a6:=A.hi
 refine .ag rfl<|.z<|.mo rfl<|.az rfl<|.exit<|aT<|aU ?_
 ·first
   |exact aS (j+1,b,r,_,_,M,G) ⟨⟨by simp only;omega,by simp only;omega,by simp only;omega,s⟩,J,K,L⟩ (by simp only;omega) (((((((kE.d rfl).d rfl).d rfl).d rfl).d rfl).d rfl).d rfl) rH
   |exact aS (a,j,r,_,_,M,G) ⟨⟨e,a7,by simp only;omega,s⟩,J,K,L⟩ (by simp only;omega) (((((((kE.d rfl).d rfl).d rfl).d rfl).d rfl).d rfl).d rfl) rH
   |exact aS (j,b,r,_,_,E,Q) ⟨⟨by simp only;omega,a6,g,s⟩,S,a3.trans (m.mono e g (by omega)),(a5.rp m e g).eqs D A⟩ (by simp only;omega) (((((((kE.d rfl).d rfl).d rfl).d rfl).d rfl).d rfl).d rfl) rH
 refine .kn<|.sr<|.mo rfl<|.mo rfl<|.mo rfl<|.mo rfl<|.mo rfl ?_
 refine .aQ (fy v a9 T6 a b q p _ b3 (by omega) ⟨c2,c3⟩ hp (by omega) (by omega) O a8 D) (λu Q k=>?_)
 obtain⟨E,j,e7,rfl,S,m,A⟩:=k
 have a7:=A.lo
 have a6:=A.hi
 have d9:=m.length
 have b9:∀x∈E,ok x:=λx W=>a8 x (m.perm.mem_iff.1 W)
 have b7:=a5.rp m e g
 have b6:RP H F xs E:=a3.trans (m.mono e g (by omega))
 have c6:=c5.rp m
 refine .mo rfl<|.q .extract<|.q .extract<|.ag rfl<|.ag rfl<|.z<|.mo rfl<|.ag rfl<|.z<|.mo rfl<|.mo rfl ?_
 refine .ia (j-a) .sub ?_
 refine .mo rfl<|.mo rfl ?_
 refine .ia (b-j) .sub ?_
 refine .ag rfl<|.ag rfl<|.z<|.mo rfl ?_
 refine .q (.i64 (((b-a)/8:Nat):Int) .quo ⟨by rw[acV (by omega)];omega,by omega,by omega⟩) ?_
 refine .ag rfl<|.z<|.mo rfl<|.mo rfl<|.q .lss<|.zn ?_
 refine .cond rfl (λh8=>?_) λh8=>?_
 refine .sr<|.mo rfl<|.mo rfl<|.q .geq<|.ag rfl<|.z<|.mo rfl<|.mo rfl<|.mo rfl<|.mo rfl<|.mo rfl ?_
 refine .aQ (ih v E Q a j r _ S (by omega) (by omega) (by omega) s O b9 (c6.less (by omega)) (by omega)) (λu G k=>?_)
 obtain⟨rfl,M,J,V,a4⟩:=k
 have L:=b7.left D A V a4 e g (by omega)
 have K:=b6.trans (V.mono e (by omega) (by omega))
 refine .zn<|.region<|.mo rfl ?_
 refine .ia (j+1) .add ?_
 refine .ag rfl<|.nil<|bg ?_
 ·first
   |exact aS (j+1,b,r,_,_,M,G) ⟨⟨by simp only;omega,by simp only;omega,by simp only;omega,s⟩,J,K,L⟩ (by simp only;omega) (((((((kE.d rfl).d rfl).d rfl).d rfl).d rfl).d rfl).d rfl) rH
   |exact aS (a,j,r,_,_,M,G) ⟨⟨e,a7,by simp only;omega,s⟩,J,K,L⟩ (by simp only;omega) (((((((kE.d rfl).d rfl).d rfl).d rfl).d rfl).d rfl).d rfl) rH
   |exact aS (j,b,r,_,_,E,Q) ⟨⟨by simp only;omega,a6,g,s⟩,S,a3.trans (m.mono e g (by omega)),(a5.rp m e g).eqs D A⟩ (by simp only;omega) (((((((kE.d rfl).d rfl).d rfl).d rfl).d rfl).d rfl).d rfl) rH
 refine .sr<|.mo rfl<|.mo rfl<|.q .geq<|.ag rfl<|.z<|.mo rfl<|.mo rfl ?_
 refine .ia (j+1) .add ?_
 refine .mo rfl<|.mo rfl<|.mo rfl ?_
 refine .aQ (ih v E Q (j+1) b r _ S (by omega) (by omega) (by omega) s O b9 A.lb (by omega)) (λu G k=>?_)
 obtain⟨rfl,M,J,V,a4⟩:=k
 have L:=b7.right D A V a4 e g (by omega)
 have K:=b6.trans (V.mono (by omega) g (by omega))
 refine .zn<|.region<|.mo rfl<|.ag rfl<|.nil<|bg ?_
 ·first
   |exact aS (j+1,b,r,_,_,M,G) ⟨⟨by simp only;omega,by simp only;omega,by simp only;omega,s⟩,J,K,L⟩ (by simp only;omega) (((((((kE.d rfl).d rfl).d rfl).d rfl).d rfl).d rfl).d rfl) rH
   |exact aS (a,j,r,_,_,M,G) ⟨⟨e,a7,by simp only;omega,s⟩,J,K,L⟩ (by simp only;omega) (((((((kE.d rfl).d rfl).d rfl).d rfl).d rfl).d rfl).d rfl) rH
   |exact aS (j,b,r,_,_,E,Q) ⟨⟨by simp only;omega,a6,g,s⟩,S,a3.trans (m.mono e g (by omega)),(a5.rp m e g).eqs D A⟩ (by simp only;omega) (((((((kE.d rfl).d rfl).d rfl).d rfl).d rfl).d rfl).d rfl) rH
 refine .gF i<|.gF i<|.gF i<|.gF i<|.gF i<|.gF i<|.gF i<|.gF i<|.gF i<|.gF i<|.nil<|.gF i<|.gF i<|.gF i<|.q (.bU i) ?_
 refine .zn<|.bB<|.kn<|.sr<|.mo rfl<|.mo rfl<|.mo rfl<|.mo rfl<|.mo rfl ?_
 refine .aQ (fy v a9 T6 a b q p _ b3 (by omega) ⟨c2,c3⟩ hp (by omega) (by omega) O a8 D) (λu Q k=>?_)
 obtain⟨E,j,e7,rfl,S,m,A⟩:=k
 have a7:=A.lo
 have a6:=A.hi
 have d9:=m.length
 have b9:∀x∈E,ok x:=λx W=>a8 x (m.perm.mem_iff.1 W)
 have b7:=a5.rp m e g
 have b6:RP H F xs E:=a3.trans (m.mono e g (by omega))
 have c6:=c5.rp m
 refine .mo rfl<|.q .extract<|.q .extract<|.ag rfl<|.ag rfl<|.z<|.mo rfl<|.ag rfl<|.z<|.mo rfl<|.mo rfl ?_
 refine .ia (j-a) .sub ?_
 refine .mo rfl<|.mo rfl ?_
 refine .ia (b-j) .sub ?_
 refine .ag rfl<|.ag rfl<|.z<|.mo rfl ?_
 refine .q (.i64 (((b-a)/8:Nat):Int) .quo ⟨by rw[acV (by omega)];omega,by omega,by omega⟩) ?_
 refine .ag rfl<|.z<|.mo rfl<|.mo rfl<|.q .lss<|.zn ?_
 refine .cond rfl (λh8=>?_) λh8=>?_
 refine .sr<|.mo rfl<|.mo rfl<|.q .geq<|.ag rfl<|.z<|.mo rfl<|.mo rfl<|.mo rfl<|.mo rfl<|.mo rfl ?_
 refine .aQ (ih v E Q a j r _ S (by omega) (by omega) (by omega) s O b9 (c6.less (by omega)) (by omega)) (λu G k=>?_)
 obtain⟨rfl,M,J,V,a4⟩:=k
 have L:=b7.left D A V a4 e g (by omega)
 have K:=b6.trans (V.mono e (by omega) (by omega))
 refine .zn<|.region<|.mo rfl ?_
 refine .ia (j+1) .add ?_
 refine .ag rfl<|.nil<|bg ?_
 ·first
   |exact aS (j+1,b,r,_,_,M,G) ⟨⟨by simp only;omega,by simp only;omega,by simp only;omega,s⟩,J,K,L⟩ (by simp only;omega) (((((((kE.d rfl).d rfl).d rfl).d rfl).d rfl).d rfl).d rfl) rH
   |exact aS (a,j,r,_,_,M,G) ⟨⟨e,a7,by simp only;omega,s⟩,J,K,L⟩ (by simp only;omega) (((((((kE.d rfl).d rfl).d rfl).d rfl).d rfl).d rfl).d rfl) rH
   |exact aS (j,b,r,_,_,E,Q) ⟨⟨by simp only;omega,a6,g,s⟩,S,a3.trans (m.mono e g (by omega)),(a5.rp m e g).eqs D A⟩ (by simp only;omega) (((((((kE.d rfl).d rfl).d rfl).d rfl).d rfl).d rfl).d rfl) rH
 refine .sr<|.mo rfl<|.mo rfl<|.q .geq<|.ag rfl<|.z<|.mo rfl<|.mo rfl ?_
 refine .ia (j+1) .add ?_
 refine .mo rfl<|.mo rfl<|.mo rfl ?_
 refine .aQ (ih v E Q (j+1) b r _ S (by omega) (by omega) (by omega) s O b9 A.lb (by omega)) (λu G k=>?_)
 obtain⟨rfl,M,J,V,a4⟩:=k
 have L:=b7.right D A V a4 e g (by omega)
 have K:=b6.trans (V.mono (by omega) g (by omega))
 refine .zn<|.region<|.mo rfl<|.ag rfl<|.nil<|bg ?_
 ·first
   |exact aS (j+1,b,r,_,_,M,G) ⟨⟨by simp only;omega,by simp only;omega,by simp only;omega,s⟩,J,K,L⟩ (by simp only;omega) (((((((kE.d rfl).d rfl).d rfl).d rfl).d rfl).d rfl).d rfl) rH
   |exact aS (a,j,r,_,_,M,G) ⟨⟨e,a7,by simp only;omega,s⟩,J,K,L⟩ (by simp only;omega) (((((((kE.d rfl).d rfl).d rfl).d rfl).d rfl).d rfl).d rfl) rH
   |exact aS (j,b,r,_,_,E,Q) ⟨⟨by simp only;omega,a6,g,s⟩,S,a3.trans (m.mono e g (by omega)),(a5.rp m e g).eqs D A⟩ (by simp only;omega) (((((((kE.d rfl).d rfl).d rfl).d rfl).d rfl).d rfl).d rfl) rH
theorem hX(q:SO (ap c))(n:Nat):fu c ok f caps n:=by
 induction n with
 |zero=>exact λv e T a b d R _ _ _ _ _ _ _ _ r=>by omega
 |succ n ih=>exact λv e T a b d R g h i j k l m o p=>hY n ih q v e T a b d R g h i j k l m o p
end
end SGC
namespace SGC
section
variable{c:GP->GP->Int}{ok:GP->Prop}{f:FuncId}{caps:List Value} [e:aL prog f]
theorem il(v:Value)(xs:List GP)(T:ay)(R:aC)(h:OS 137 9 bz v xs T)(k:xs.length<=1000000000)(j:bR prog f caps R (λp:GP=>Value.agg (bz p).toArray) c ok)(l:∀x∈xs,ok x)(m:SO (ap c)):
  Spec prog 156 [v,.func (.func f) #[] caps.toArray] R [T] λu H'=>∃T',H'=[T']/\u=.tuple #[]/\∃ys,OS 137 9 bz v ys T'/\ys.Perm xs/\SR (ap c) ys 0 ys.length:=by
 have s:=h.aF
 have i:Lib.bitLen xs.length<=1000000000:=by
  have r:=bitLen_le 64 xs.length
  have o:Lib.bitLen xs.length=Lib.bitLenAux 64 xs.length:=rfl
  omega
 refine Spec.body func156 rfl results156 ntmps156 rfl ?_
 refine .sr<|.mo rfl<|.q (.gL h) ?_
 refine .az rfl<|.region<|.mo rfl<|.mo rfl<|.mo rfl ?_
 refine .q (aV.cast (v':=.int .u64 ((xs.length:Nat):Int)) .dT (by rw[fN (by omega) (by omega)])) ?_
 refine .bx (js xs.length (by omega) _) (λu a=>?_)
 subst a
 refine .mo rfl ?_
 refine .aQ (hX m (xs.length+1) v xs T 0 xs.length (Lib.bitLen xs.length) _ h (Nat.zero_le _) (acS _) k i j l (λd=>absurd d (by omega)) (by omega)) (λu n a=>?_)
 obtain⟨rfl,ys,e,b,g⟩:=a
 refine .nil<|cz _ .none rH ?_
 ·exact⟨_,rfl,rfl,ys,e,b.perm,b.length▸g⟩
end
end SGC
end Go.Proofs.YtgppncmdpcefhaaGreatDoor
