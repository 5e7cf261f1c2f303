/- What the law 'OpNobody' uses. No condition. -/
import Derived.Test.YtgppncmdpcefhaaGreatDoorKOpNobodyB
import Derived.Test.YtgppncmdpcefhaaGreatDoorKOpNobodyF
import Derived.Test.YtgppncmdpcefhaaGreatDoorKOpNobodyH
import Derived.Test.YtgppncmdpcefhaaGreatDoorKOpNobodyN
namespace Go.Proofs.YtgppncmdpcefhaaGreatDoor
set_option linter.defProp false
def adq:=@Nat.le_refl
def adr:=@List.length_set
def ads:=@List.getElem?_eq_some_iff
def adt:=@Int.tdiv_eq_ediv_of_nonneg
def adu:=@List.length_drop
def adv:=@Nat.lt_or_ge
open Tryz
set_option linter.unusedVariables false
set_option linter.unusedSimpArgs false
set_option maxRecDepth 4000
namespace SGC
section
variable{c:GP->GP->Int}{ok:GP->Prop}{f:FuncId}{caps:List Value} [e:aI prog f]
theorem iJ(v:Value)(xs:List GP)(T:ay)(a b:Nat)(R:aA)(h:OS 137 9 bG v xs T)(a3:a<=b)(J:b<=xs.length)(hl:xs.length<=1000000000)(O:cf prog f caps R (λp:GP=>Value.agg (bG p).toArray) c ok)(K:∀x∈xs,ok x)(G:SO (ap c)):
  Spec prog 337 [v,.int .i64 a,.int .i64 b,.func (.func f) #[] caps.toArray] R [T] λu H'=>∃T',H'=[T']/\u=.tuple #[]/\∃ys,OS 137 9 bG v ys T'/\RP a b xs ys/\SR (ap c) ys a b:=by
 have iv:=h.aL
 refine Spec.body func337 rfl results337 ntmps337 rfl ?_
 refine .sr<|.mo rfl ?_
 refine .ia (a+1) .add ?_
 refine .az rfl<|.block ?_
 refine .loop (X:=Nat×List GP×ay) (λy=>(a+1<=y.1/\(y.1<=b\/y.1=a+1))/\OS 137 9 bG v y.2.1 y.2.2/\RP a b xs y.2.1/\SR (ap c) y.2.1 a y.1) (λy=>[(0,v),(1,iN a),(2,iN b),(3,.func (.func f) #[] caps.toArray),(8,iN y.1)]) (λy=>[y.2.2]) (λy=>b-y.1) (a+1,xs,T) ⟨⟨by simp only;omega,.inr rfl⟩,h,.refl _,λi j s m I=>by simp only at I;omega⟩ kE.c.c.c.c.c rH ?_
 rintro⟨i,ys,M⟩ ⟨⟨Q,S⟩,D,C,E⟩
 simp only at Q S D C E⊢
 have a6:=C.length
 refine .seq<|.sr<|.mo rfl<|.mo rfl<|.q .lss<|.zn ?_
 refine .cond rfl (λs=>?_) λs=>?_
 have a5:i<b:=by simp at s;omega
 refine .kn<|.seq<|.block<|.sr<|.mo rfl<|.az rfl<|.block ?_
 refine .loop (X:=Nat×List GP×ay) (λy=>(a<=y.1/\y.1<=i)/\OS 137 9 bG v y.2.1 y.2.2/\RP a b xs y.2.1/\fg (ap c) y.2.1 a y.1 (i+1)) (λy=>[(0,v),(1,iN a),(2,iN b),(3,.func (.func f) #[] caps.toArray),(8,iN i),(9,iN y.1)]) (λy=>[y.2.2]) (λy=>y.1) (i,ys,M) ⟨⟨by simp only;omega,adq _⟩,D,C,E.ins⟩ kE.c.c.c.c.c.c rH ?_
 rintro⟨j,z,H⟩ ⟨⟨U,V⟩,e,n,B⟩
 simp only at U V e n B⊢
 have a7:=n.length
 refine .seq<|.seq ?_
 refine .bQ 14 mixed (by kernel_rfl) ?_
 conv=>arg 6;dsimp only[List.take]
 refine .mo rfl<|.mo rfl<|.q .gtr<|.mo rfl ?_
 refine .split (t:=21) rfl (λd=>?_) (λd=>?_)
 have F:a<j:=by have:=bo d;omega
 obtain⟨x,g⟩:∃x,z[j]? =some x:=⟨_,aC (by omega)⟩
 obtain⟨y,l⟩:∃x,z[j-1]? =some x:=⟨_,aC (by omega)⟩
 have a0:=K x (n.perm.mem_iff.1 (aF g))
 have a1:=K y (n.perm.mem_iff.1 (aF l))
 refine .gT d<|.mo rfl<|.gT d<|.mo rfl<|.gT d<|.mo rfl<|.gT d ?_
 refine .au j e g (λa8=>?_)
 refine .gT d<|.q (.aE rfl)<|.gT d<|.mo rfl<|.gT d<|.mo rfl<|.gT d ?_
 refine .ia (j-1) .sub ?_
 refine .gT d ?_
 refine .au (j-1) e l (λa9=>?_)
 refine .gT d<|.q (.aE rfl)<|.nil<|.gT d ?_
 refine .cj (first:=[]) (captured:=caps) (vs:=[(λp:GP=>Value.agg (bG p).toArray) x,(λp:GP=>Value.agg (bG p).toArray) y]) (O x y a0 a1 _ (λb o J=>.inl J)) (λu r=>?_)
 subst r
 refine .gT d<|.q .lss<|.q (.bu d) ?_
 refine .zn ?_
 refine .cond rfl (λm=>?_) λm=>?_
 refine .kn<|.seq<|.block<|.bF [15,17] mixed ?_
 refine .tO 0 rfl .move<|.tO 1 rfl .move<|.tK 2 rfl .move<|.tK 3 rfl .move ?_
 refine .take 4 rfl (.i64 ((j-1:Nat):Int) .sub ⟨by omega,by omega,by omega⟩) (by kernel_rfl) ?_
 refine .tO 5 rfl .move<|.tO 6 rfl .move ?_
 refine .cH 7 rfl (.i64 ((j-1:Nat):Int) .sub ⟨by omega,by omega,by omega⟩) (by kernel_rfl) ?_
 refine RA.au 8 rfl (j-1) e l rfl rfl rfl (by kernel_rfl) (λb0=>?_)
 refine .tO 9 rfl (.aE rfl)<|.tO 10 rfl .move<|.tO 11 rfl .move ?_
 refine RA.au 12 rfl (j) e g rfl rfl rfl (by kernel_rfl) (λb1=>?_)
 refine .tO 13 rfl (.aE rfl) ?_
 refine RA.au 14 rfl (j) e g rfl rfl rfl (by kernel_rfl) (λb2=>?_)
 refine .sT 15 rfl ?_
 refine .bt (j) e g y (λa2 Y=>?_) (e.one _ (aF l))
 refine .nil (Next.mod rfl ?_)
 refine RA.au 16 rfl (j-1) e l rfl rfl rfl (by kernel_rfl) (λb3=>?_)
 refine .sT 17 rfl ?_
 obtain⟨zz,Z⟩:∃u,(z.set (j) y)[j-1]? =some u:=⟨_,aC (by rw[adr];exact(ads.1 l).1)⟩
 refine .bt (j-1) Y Z x (λN L=>?_) (e.one _ (aF g))
 rw[<-bS g l]at L
 refine .nil (Next.mod rfl ?_)
 refine RA.nil (by kernel_rfl) ?_
 refine bi<|aD<|.region<|.mo rfl ?_
 refine .ia (j-1) .sub ?_
 refine .ag rfl<|.nil ?_
 ·have W:ap c x y=true:=m
  exact aN (j-1,bn z j (j-1),N) ⟨⟨by simp only;omega,by simp only;omega⟩,L,n.step (by omega) (by omega) (by omega) (by omega) (by omega),B.step G (by omega) (by omega) F g l W⟩ (by simp only;omega) kE.c.c.c.c.c.c rH
 refine .exit<|aP<|aV<|aR<|bi<|aD<|.region<|.mo rfl ?_
 refine .ia (i+1) .add ?_
 refine .ag rfl<|.nil ?_
 ·refine aN (i+1,z,H) ⟨⟨by simp only;omega,.inl (by simp only;omega)⟩,e,n,B.done G (by omega) (by omega) ?_⟩ (by simp only;omega) kE.c.c.c.c.c rH
  first
   |exact .inr ⟨F,λu w r A=>by
     rw[l]at r;rw[g]at A;cases r;cases A;exact m⟩
   |exact .inl (by have:=aY d;omega)
 refine .gF d<|.gF d<|.gF d<|.gF d<|.gF d<|.gF d<|.gF d<|.gF d<|.gF d<|.gF d<|.nil<|.gF d<|.gF d<|.q (.bq d) ?_
 refine .zn<|.bB<|.exit<|aP<|aV<|aR<|bi<|aD<|.region<|.mo rfl ?_
 refine .ia (i+1) .add ?_
 refine .ag rfl<|.nil ?_
 ·refine aN (i+1,z,H) ⟨⟨by simp only;omega,.inl (by simp only;omega)⟩,e,n,B.done G (by omega) (by omega) ?_⟩ (by simp only;omega) kE.c.c.c.c.c rH
  first
   |exact .inr ⟨F,λu w r A=>by
     rw[l]at r;rw[g]at A;cases r;cases A;exact m⟩
   |exact .inl (by have:=aY d;omega)
 refine .exit<|aP<|aV<|aR<|ct _ .none rH ?_
 ·have a4:b<=i:=by simp at s;omega
  exact⟨_,rfl,rfl,ys,D,C,λj k s m I=>E j k s m (by omega)⟩
theorem fL(v:Value)(xs:List GP)(T:ay)(lo k d:Nat)(R:aA)(h:OS 137 9 bG v xs T)(b2:lo<=k)(W:d+k<=xs.length)(hl:xs.length<=1000000000)(hf:cf prog f caps R (λp:GP=>Value.agg (bG p).toArray) c ok)(a4:∀x∈xs,ok x)(K:SO (ap c)):
    Spec prog 415 [v,.int .i64 lo,.int .i64 k,.int .i64 d,.func (.func f) #[] caps.toArray] R [T] λu H'=>∃T',H'=[T']/\u=.tuple #[]/\∃ys,OS 137 9 bG v ys T'/\RP d (d+k) xs ys/\
      (ew (λx y=>ap c y x) (xs.drop d) k lo lo->dI (λx y=>ap c y x) (ys.drop d) k lo):=by
  have iv:=h.aL
  have a5:=K.rev
  refine Spec.body func415 rfl results415 ntmps415 rfl ?_
  refine .sr<|.mo rfl<|.az rfl<|.block ?_
  refine .loop (X:=Nat×List GP×ay) (λy=>(lo<=y.1/\y.1<=k)/\OS 137 9 bG v y.2.1 y.2.2/\RP d (d+k) xs y.2.1/\(ew (λx y=>ap c y x) (xs.drop d) k lo lo->ew (λx y=>ap c y x) (y.2.1.drop d) k lo y.1)) (λy=>[(0,v),(2,iN k),(3,iN d),(4,.func (.func f) #[] caps.toArray),(10,iN y.1)]) (λy=>[y.2.2]) (λy=>k-y.1) (lo,xs,T) ⟨⟨adq _,b2⟩,h,.refl _,λh=>h⟩ kE.c.c.c.c.c rH ?_
  rintro⟨r,ys,T1⟩ ⟨⟨a7,b4⟩,m,E,V⟩
  simp only at a7 b4 m E V⊢
  have c2:=E.length
  have c1:(ys.drop d).length=ys.length-d:=adu
  refine .block<|.sr<|.mo rfl ?_
  refine .ia (2*r) .mul ?_
  refine .ia (2*r+1) .add ?_
  refine .ag rfl<|.zs<|.sr<|.mo rfl<|.mo rfl<|.q .geq<|.zn ?_
  refine .cond rfl (λO=>?_) λO=>?_
  have b9:k<=2*r+1:=by have:=bo O;omega
  refine .exit (aP (dn (aV (aR ?_))))
  refine ct _ .none rH ?_
  ·refine⟨_,rfl,rfl,ys,m,E,λS=>(V S).stop λa D F l u w g U=>?_⟩
   first
     |(simp only[aX]at l;omega)
     |(rw[cQ]at g U
       rw[A]at g;cases g
       have Q:(!ap c H x)=true:=M
       exact a5.dW _ _ _ (Y a w D F l U) (by simpa using Q))
  have N:2*r+1<k:=by have:=aY O;omega
  obtain⟨H,A⟩:∃y,ys[d+r]? =some y:=⟨_,aC (by omega)⟩
  obtain⟨s,n⟩:∃y,ys[d+(2*r+1)]? =some y:=⟨_,aC (by omega)⟩
  have b7:=a4 H (E.perm.mem_iff.1 (aF A))
  have J:=a4 s (E.perm.mem_iff.1 (aF n))
  refine .kn<|.seq ?_
  refine bp.cut (X:=Nat×GP) (λz=>0<z.1/\z.1<k/\aX z.1=r/\ys[d+z.1]? =some z.2/\ok z.2/\∀a u,0<a->a<k->aX a=r->ys[d+a]? =some u->ap c z.2 u=false) (λz=>[(0,v),(2,iN k),(3,iN d),(4,.func (.func f) #[] caps.toArray),(10,iN r),(11,iN z.1)]) (λz=>[T1]) ?_ ?_
  refine .seq ?_
  refine .bQ 19 mixed (by kernel_rfl) ?_
  conv=>arg 6;dsimp only[List.take]
  refine .mo rfl ?_
  refine .ia (2*r+2) .add ?_
  refine .mo rfl<|.q .lss<|.mo rfl ?_
  refine .split (t:=23) rfl (λe=>?_) (λe=>?_)
  have a2:2*r+2<k:=by have:=bo e;omega
  obtain⟨L,C⟩:∃y,ys[d+(2*r+2)]? =some y:=⟨_,aC (by omega)⟩
  have Z:=a4 L (E.perm.mem_iff.1 (aF C))
  refine .gT e<|.mo rfl<|.gT e<|.mo rfl<|.gT e<|.mo rfl<|.gT e<|.mo rfl<|.gT e ?_
  refine .ia (d+(2*r+1)) .add ?_
  refine .gT e ?_
  refine .au (d+(2*r+1)) m n (λc3=>?_)
  refine .gT e<|.q (.aE rfl)<|.gT e<|.mo rfl<|.gT e<|.mo rfl<|.gT e<|.mo rfl<|.gT e ?_
  refine .ia (d+(2*r+1)) .add ?_
  refine .gT e ?_
  refine .ia (d+(2*r+2)) .add ?_
  refine .gT e ?_
  refine .au (d+(2*r+2)) m C (λc4=>?_)
  refine .gT e<|.q (.aE rfl)<|.nil<|.gT e ?_
  refine .cj (first:=[]) (captured:=caps) (vs:=[(λp:GP=>Value.agg (bG p).toArray) s,(λp:GP=>Value.agg (bG p).toArray) L]) (hf s L J Z _ (λb o W=>.inl W)) (λu g=>?_)
  subst g
  refine .gT e<|.q .lss<|.q (.bu e) ?_
  refine .zn ?_
  refine .cond rfl (λI=>?_) λI=>?_
  have a3:∀a u,0<a->a<k->aX a=r->ys[d+a]? =some u->ap c L u=false:=λa u D F l g=>by
    have:a=2*r+1\/a=2*r+2:=by simp only[aX]at l;omega
    rcases this with rfl|rfl
    ·rw[n]at g;cases g;exact K.gx I
    ·rw[C]at g;cases g;exact K.cP _
  refine .region<|.mo rfl ?_
  refine .ia (2*r+2) .add ?_
  refine .ag rfl<|.nil ?_
  ·first
      |exact ax (2*r+2,L) ⟨by simp only;omega,a2,by simp only[aX];omega,C,Z,a3⟩ kE.c.c.c.c.c.c rH
      |exact ax (2*r+1,s) ⟨by simp only;omega,N,by simp only[aX];omega,n,J,B⟩ kE.c.c.c.c.c.c rH
      |(have B:∀a u,0<a->a<k->aX a=r->ys[d+a]? =some u->ap c s u=false:=λa u D F l g=>by
           have:a=2*r+1\/a=2*r+2:=by simp only[aX]at l;omega
           rcases this with rfl|rfl
           ·rw[n]at g;cases g;exact K.cP _
           ·rw[C]at g;cases g;exact I
        exact ax (2*r+1,s) ⟨by simp only;omega,N,by simp only[aX];omega,n,J,B⟩ kE.c.c.c.c.c.c rH)
  refine .skip ?_
  ·first
      |exact ax (2*r+2,L) ⟨by simp only;omega,a2,by simp only[aX];omega,C,Z,a3⟩ kE.c.c.c.c.c.c rH
      |exact ax (2*r+1,s) ⟨by simp only;omega,N,by simp only[aX];omega,n,J,B⟩ kE.c.c.c.c.c.c rH
      |(have B:∀a u,0<a->a<k->aX a=r->ys[d+a]? =some u->ap c s u=false:=λa u D F l g=>by
           have:a=2*r+1\/a=2*r+2:=by simp only[aX]at l;omega
           rcases this with rfl|rfl
           ·rw[n]at g;cases g;exact K.cP _
           ·rw[C]at g;cases g;exact I
        exact ax (2*r+1,s) ⟨by simp only;omega,N,by simp only[aX];omega,n,J,B⟩ kE.c.c.c.c.c.c rH)
  have B:∀a u,0<a->a<k->aX a=r->ys[d+a]? =some u->ap c s u=false:=λa u D F l g=>by
    have:a=2*r+1:=by have:=aY e;simp only[aX]at l;omega
    subst this
    rw[n]at g;cases g;exact K.cP _
  refine .gF e<|.gF e<|.gF e<|.gF e<|.gF e<|.gF e<|.gF e<|.gF e<|.gF e<|.gF e<|.gF e<|.gF e<|.gF e<|.gF e<|.nil<|.gF e<|.gF e<|.q (.bq e) ?_
  refine .zn<|.bB<|.skip ?_
  ·first
      |exact ax (2*r+2,L) ⟨by simp only;omega,a2,by simp only[aX];omega,C,Z,a3⟩ kE.c.c.c.c.c.c rH
      |exact ax (2*r+1,s) ⟨by simp only;omega,N,by simp only[aX];omega,n,J,B⟩ kE.c.c.c.c.c.c rH
      |(have B:∀a u,0<a->a<k->aX a=r->ys[d+a]? =some u->ap c s u=false:=λa u D F l g=>by
           have:a=2*r+1\/a=2*r+2:=by simp only[aX]at l;omega
           rcases this with rfl|rfl
           ·rw[n]at g;cases g;exact K.cP _
           ·rw[C]at g;cases g;exact I
        exact ax (2*r+1,s) ⟨by simp only;omega,N,by simp only[aX];omega,n,J,B⟩ kE.c.c.c.c.c.c rH)
  intro y hy
  obtain⟨j,x⟩:=y
  obtain⟨a0,a6,a1,G,a9,Y⟩:=hy
  simp only at a0 a6 a1 G a9 Y⊢
  have c0:r<j:=a1▸dO a0
  refine aD<|.seq<|.seq ?_
  refine .bQ 13 mixed (by kernel_rfl) ?_
  conv=>arg 6;dsimp only[List.take]
  refine .mo rfl<|.mo rfl<|.mo rfl<|.mo rfl ?_
  refine .ia (d+r) .add ?_
  refine .au (d+r) m A (λc5=>?_)
  refine .q (.aE rfl)<|.mo rfl<|.mo rfl<|.mo rfl ?_
  refine .ia (d+j) .add ?_
  refine .au (d+j) m G (λc6=>?_)
  refine .q (.aE rfl)<|.nil ?_
  refine .cj (first:=[]) (captured:=caps) (vs:=[(λp:GP=>Value.agg (bG p).toArray) H,(λp:GP=>Value.agg (bG p).toArray) x]) (hf H x b7 a9 _ (λb o W=>.inl W)) (λu g=>?_)
  subst g
  refine .q .lss<|.q .not<|.zn ?_
  refine .cond rfl (λM=>?_) λM=>?_
  refine .ret (aT (bg (cc (bg (aZ _ .none rH ?_)))))
  ·refine⟨_,rfl,rfl,ys,m,E,λS=>(V S).stop λa D F l u w g U=>?_⟩
   first
     |(simp only[aX]at l;omega)
     |(rw[cQ]at g U
       rw[A]at g;cases g
       have Q:(!ap c H x)=true:=M
       exact a5.dW _ _ _ (Y a w D F l U) (by simpa using Q))
  refine .kn<|.seq<|.bF [21,23] mixed ?_
  refine .tO 0 rfl .move<|.tO 1 rfl .move<|.tO 2 rfl .move ?_
  refine .cH 3 rfl (.i64 ((d+r:Nat):Int) .add ⟨by omega,by omega,by omega⟩) (by kernel_rfl) ?_
  refine .tK 4 rfl .move<|.tK 5 rfl .move<|.tK 6 rfl .move ?_
  refine .take 7 rfl (.i64 ((d+j:Nat):Int) .add ⟨by omega,by omega,by omega⟩) (by kernel_rfl) ?_
  refine .tO 8 rfl .move<|.tO 9 rfl .move<|.tO 10 rfl .move ?_
  refine .cH 11 rfl (.i64 ((d+j:Nat):Int) .add ⟨by omega,by omega,by omega⟩) (by kernel_rfl) ?_
  refine RA.au 12 rfl (d+j) m G rfl rfl rfl (by kernel_rfl) (λc7=>?_)
  refine .tO 13 rfl (.aE rfl)<|.tO 14 rfl .move<|.tO 15 rfl .move<|.tO 16 rfl .move ?_
  refine .cH 17 rfl (.i64 ((d+r:Nat):Int) .add ⟨by omega,by omega,by omega⟩) (by kernel_rfl) ?_
  refine RA.au 18 rfl (d+r) m A rfl rfl rfl (by kernel_rfl) (λc8=>?_)
  refine .tO 19 rfl (.aE rfl) ?_
  refine RA.au 20 rfl (d+r) m A rfl rfl rfl (by kernel_rfl) (λc9=>?_)
  refine .sT 21 rfl ?_
  refine .bt (d+r) m A x (λb8 b5=>?_) (m.one _ (aF G))
  refine .nil (Next.mod rfl ?_)
  refine RA.au 22 rfl (d+j) m G rfl rfl rfl (by kernel_rfl) (λd0=>?_)
  refine .sT 23 rfl ?_
  obtain⟨zz,b6⟩:∃u,(ys.set (d+r) x)[d+j]? =some u:=⟨_,aC (by rw[adr];exact(ads.1 G).1)⟩
  refine .bt (d+j) b5 b6 H (λb0 a8=>?_) (m.one _ (aF A))
  rw[<-bS A G]at a8
  refine .nil (Next.mod rfl ?_)
  refine RA.nil (by kernel_rfl) ?_
  refine aD<|.region<|.mo rfl<|.ag rfl<|.nil<|bi ?_
  ·have b3:ap c H x=true:=by
      have Q:(!ap c H x)=false:=M
      simpa using Q
   have b1:=hS (xs:=ys) (f:=d) (i:=r) (j:=j) (by omega) (by omega)
   exact aN (j,bn ys (d+r) (d+j),b0) ⟨⟨by simp only;omega,by simp only;omega⟩,a8,E.step (by omega) (by omega) (by omega) (by omega) (by omega),λS=>by
     simp only
     rw[b1]
     exact(V S).step a5 a7 a0 a6 (by omega) a1 (by rw[cQ];exact G) (by rw[cQ];exact A) b3 λa z O I M h4=>Y a z O I M (by rw[<-cQ];exact h4)⟩ (by simp only;omega) kE.c.c.c.c.c rH
end
end SGC
namespace SGC
section
variable{c:GP->GP->Int}{ok:GP->Prop}{f:FuncId}{caps:List Value} [e:aI prog f]
theorem iI(v:Value)(xs:List GP)(T:ay)(a b:Nat)(R:aA)(h:OS 137 9 bG v xs T)(a8:a<=b)(hb:b<=xs.length)(hl:xs.length<=1000000000)(M:cf prog f caps R (λp:GP=>Value.agg (bG p).toArray) c ok)(N:∀x∈xs,ok x)(G:SO (ap c)):
  Spec prog 338 [v,.int .i64 a,.int .i64 b,.func (.func f) #[] caps.toArray] R [T] λu H'=>∃T',H'=[T']/\u=.tuple #[]/\∃ys,OS 137 9 bG v ys T'/\RP a b xs ys/\SR (ap c) ys a b:=by
 have iv:=h.aL
 have a6:=G.rev
 obtain⟨n,hn⟩:∃n,b=a+n:=⟨b-a,by omega⟩
 subst hn
 refine Spec.body func338 rfl results338 ntmps338 rfl ?_
 refine .sr<|.mo rfl<|.ag rfl<|.z<|.ag rfl<|.z<|.mo rfl<|.mo rfl ?_
 refine .ia (n) .sub ?_
 refine .ag rfl<|.zs<|.sr<|.mo rfl ?_
 refine .q (.i64 ((n:Int)-1) .sub ⟨rfl,by omega,by omega⟩) ?_
 refine .q (.i64 (((n-1)/2:Nat):Int) .quo ⟨kB,by omega,by omega⟩) ?_
 refine .az rfl<|.block ?_
 refine .loop (X:=Nat×Int×List GP×ay) (λy=>(y.2.1=(y.1:Int)-1/\y.1<=n+1)/\OS 137 9 bG v y.2.2.1 y.2.2.2/\RP a (a+n) xs y.2.2.1/\dI (λx y=>ap c y x) (y.2.2.1.drop a) n y.1) (λy=>[(0,v),(3,.func (.func f) #[] caps.toArray),(8,iN a),(9,.int .i64 ((0:Nat):Int)),(10,iN n),(11,.int .i64 y.2.1)]) (λy=>[y.2.2.2]) (λy=>y.1) ((n-1)/2+1,(((n-1)/2:Nat):Int),xs,T) ⟨⟨by simp only;omega,by simp only;omega⟩,h,.refl _,λk V hk hp=>by simp only[aX]at hp;omega⟩ kE.c.c.c.c.c.c rH ?_
 rintro⟨m,z,ys,H⟩ ⟨⟨hz,hm⟩,C,s,B⟩
 simp only at hz hm C s B⊢
 have a9:=s.length
 refine .seq<|.sr<|.mo rfl<|.q .geq<|.zn ?_
 refine .cond rfl (λo=>?_) λo=>?_
 have a3:0<=z:=bo o
 obtain⟨k,rfl⟩:∃k,m=k+1:=⟨m-1,by omega⟩
 obtain rfl:z=(k:Int):=by omega
 refine .kn<|.seq<|.block<|.region<|.mo rfl<|.mo rfl<|.mo rfl<|.mo rfl<|.mo rfl ?_
 refine .bb (fL (c:=c) (ok:=ok) v ys H k n a _ C (by omega) (by omega) (by omega) M (λx e=>N x (s.perm.mem_iff.1 e)) G) (λu I F=>?_)
 obtain⟨rfl,g,d,l,r⟩:=F
 refine .nil<|bi<|aD<|.region<|.mo rfl ?_
 refine .q (.i64 ((k:Int)-1) .sub ⟨rfl,by omega,by omega⟩) ?_
 refine .ag rfl<|.nil ?_
 ·exact aN (k,(k:Int)-1,g,I) ⟨⟨rfl,by simp only;omega⟩,d,s.trans l,r B.hole⟩ (by simp only;omega) kE.c.c.c.c.c.c rH
 have E:m=0:=by have:=aY o;omega
 subst E
 refine .exit<|aP<|aV<|aR<|aD<|.sr<|.mo rfl ?_
 refine .q (.i64 ((n:Int)-1) .sub ⟨rfl,by omega,by omega⟩) ?_
 refine .az rfl<|.block ?_
 refine .loop (X:=Nat×Int×List GP×ay) (λy=>(y.2.1=(y.1:Int)-1/\y.1<=n)/\OS 137 9 bG v y.2.2.1 y.2.2.2/\RP a (a+n) xs y.2.2.1/\dI (λx y=>ap c y x) (y.2.2.1.drop a) y.1 0/\OX (ap c) y.2.2.1 a (a+n) a (a+y.1)) (λy=>[(0,v),(3,.func (.func f) #[] caps.toArray),(8,iN a),(9,.int .i64 ((0:Nat):Int)),(10,iN n),(12,.int .i64 y.2.1)]) (λy=>[y.2.2.2]) (λy=>y.1) (n,(n:Int)-1,ys,H) ⟨⟨rfl,adq _⟩,C,s,B,OX.start⟩ kE.c.c.c.c.c.c rH ?_
 rintro⟨m,Q,g,I⟩ ⟨⟨a4,a1⟩,d,l,r,D⟩
 simp only at a4 a1 d l r D⊢
 have b0:=l.length
 refine .seq<|.sr<|.mo rfl<|.q .geq<|.zn ?_
 refine .cond rfl (λA=>?_) λA=>?_
 have a3:0<=Q:=bo A
 obtain⟨k,rfl⟩:∃k,m=k+1:=⟨m-1,by omega⟩
 obtain rfl:Q=(k:Int):=by omega
 obtain⟨x,e⟩:∃x,g[a]? =some x:=⟨_,aC (by omega)⟩
 obtain⟨y,t⟩:∃x,g[a+k]? =some x:=⟨_,aC (by omega)⟩
 refine .kn<|.seq<|.block<|.seq<|.bF [17,19] mixed ?_
 refine .tO 0 rfl .move<|.tO 1 rfl .move<|.tK 2 rfl .move<|.tK 3 rfl .move<|.tK 4 rfl .move ?_
 refine .take 5 rfl (.i64 ((a+k:Nat):Int) .add ⟨by omega,by omega,by omega⟩) (by kernel_rfl) ?_
 refine .tO 6 rfl .move<|.tO 7 rfl .move<|.tO 8 rfl .move ?_
 refine .cH 9 rfl (.i64 ((a+k:Nat):Int) .add ⟨by omega,by omega,by omega⟩) (by kernel_rfl) ?_
 refine RA.au 10 rfl (a+k) d t rfl rfl rfl (by kernel_rfl) (λb1=>?_)
 refine .tO 11 rfl (.aE rfl)<|.tO 12 rfl .move<|.tO 13 rfl .move ?_
 refine RA.au 14 rfl (a) d e rfl rfl rfl (by kernel_rfl) (λb2=>?_)
 refine .tO 15 rfl (.aE rfl) ?_
 refine RA.au 16 rfl (a) d e rfl rfl rfl (by kernel_rfl) (λb3=>?_)
 refine .sT 17 rfl ?_
 refine .bt (a) d e y (λa7 a2=>?_) (d.one _ (aF t))
 refine .nil (Next.mod rfl ?_)
 refine RA.au 18 rfl (a+k) d t rfl rfl rfl (by kernel_rfl) (λb4=>?_)
 refine .sT 19 rfl ?_
 obtain⟨zz,a5⟩:∃u,(g.set (a) y)[a+k]? =some u:=⟨_,aC (by rw[adr];exact(ads.1 t).1)⟩
 refine .bt (a+k) a2 a5 x (λU O=>?_) (d.one _ (aF e))
 rw[<-bS e t]at O
 refine .nil (Next.mod rfl ?_)
 refine RA.nil (by kernel_rfl) ?_
 refine aD<|.region<|.mo rfl<|.mo rfl<|.mo rfl<|.mo rfl<|.mo rfl ?_
 have L:=hS (xs:=g) (f:=a) (i:=0) (j:=k) (by omega) (by omega)
 have J:=l.step (i:=a) (j:=a+k) (by omega) (by omega) (by omega) (by omega) (by omega)
 have a0:=OX.last (m:=a+k) (x:=x) D (by omega) (by omega) (by omega) e (λj w o W hw=>dI.top a6 r (by rw[adu];omega) (x:=x) (by rw[cQ];exact e) (j-a) w (by omega) (by rw[cQ,show a+(j-a)=j by omega];exact hw))
 refine .bb (fL (c:=c) (ok:=ok) v (bn g a (a+k)) U 0 k a _ O (by omega) (by rw[eI];omega) (by rw[eI];omega) M (λx e=>N x (J.perm.mem_iff.1 e)) G) (λu S F=>?_)
 obtain⟨rfl,ws,Z,K,Y⟩:=F
 refine .nil<|bi<|aD<|.region<|.mo rfl ?_
 refine .q (.i64 ((k:Int)-1) .sub ⟨rfl,by omega,by omega⟩) ?_
 refine .ag rfl<|.nil ?_
 ·exact aN (k,(k:Int)-1,ws,S) ⟨⟨rfl,by simp only;omega⟩,Z,J.trans (K.mono (adq a) (by omega) (by rw[eI];omega)),Y (r.kX λj V hj=>by
   rw[Nat.add_zero]at L
   rw[L,cX (by rw[adu];omega) (by rw[adu];omega),if_neg (by omega),if_neg (by omega)]),a0.rp K (adq _) (by omega)⟩ (by simp only;omega) kE.c.c.c.c.c.c rH
 refine .exit<|aP<|aV<|aR<|ct _ .none rH ?_
 ·have E:m=0:=by have:=aY A;omega
  subst E
  exact⟨_,rfl,rfl,g,d,l,D.cZ λi j o A W=>by omega⟩
theorem iT(v:Value)(xs:List GP)(T:ay)(a b:Nat)(R:aA)(k:Value)(D:One k)(h:OS 137 9 bG v xs T)(B:a<b)(C:b<=xs.length)(E:xs.length<=1000000000):
  Spec prog 341 [v,.int .i64 a,.int .i64 b,k] R [T] λu H'=>∃T',H'=[T']/\u=.tuple #[]/\∃ys,OS 137 9 bG v ys T'/\RP a b xs ys:=by
 have H:=h.aL
 refine Spec.body func341 rfl results341 ntmps341 rfl ?_
 refine .sr<|.mo rfl<|.ag rfl<|.z<|.mo rfl ?_
 refine .ia (b-1) .sub ?_
 refine .az rfl<|.block ?_
 refine .loop (X:=Nat×Nat×List GP×ay) (λy=>(a<=y.1/\y.1<=y.2.1+1/\y.2.1<b)/\OS 137 9 bG v y.2.2.1 y.2.2.2/\RP a b xs y.2.2.1) (λy=>[(0,v),(8,iN y.1),(9,iN y.2.1)]) (λy=>[y.2.2.2]) (λy=>b-y.1) (a,b-1,xs,T) ⟨⟨adq _,by simp only;omega,by simp only;omega⟩,h,.refl _⟩ kE.c.c.c rH ?_
 rintro⟨i,j,ys,w⟩ ⟨⟨o,p,r⟩,d,g⟩
 simp only at o p r d g⊢
 have F:=g.length
 refine .seq<|.sr<|.mo rfl<|.mo rfl<|.q .lss<|.zn ?_
 refine .cond rfl (λl=>?_) λl=>?_
 have G:i<j:=de l
 obtain⟨x,e⟩:∃x,ys[i]? =some x:=⟨_,aC (by omega)⟩
 obtain⟨y,f⟩:∃x,ys[j]? =some x:=⟨_,aC (by omega)⟩
 refine .kn<|.block<|.seq<|.bF [13,15] mixed ?_
 refine .tO 0 rfl .move<|.tO 1 rfl .move<|.tK 2 rfl .move<|.tK 3 rfl .move<|.tO 4 rfl .move<|.tO 5 rfl .move ?_
 refine RA.au 6 rfl (j) d f rfl rfl rfl (by kernel_rfl) (λI=>?_)
 refine .tO 7 rfl (.aE rfl)<|.tO 8 rfl .move<|.tO 9 rfl .move ?_
 refine RA.au 10 rfl (i) d e rfl rfl rfl (by kernel_rfl) (λJ=>?_)
 refine .tO 11 rfl (.aE rfl) ?_
 refine RA.au 12 rfl (i) d e rfl rfl rfl (by kernel_rfl) (λK=>?_)
 refine .sT 13 rfl ?_
 refine .bt (i) d e y (λA s=>?_) (d.one _ (aF f))
 refine .nil (Next.mod rfl ?_)
 refine RA.au 14 rfl (j) d f rfl rfl rfl (by kernel_rfl) (λL=>?_)
 refine .sT 15 rfl ?_
 obtain⟨M,t⟩:∃u,(ys.set (i) y)[j]? =some u:=⟨_,aC (by rw[adr];exact(ads.1 f).1)⟩
 refine .bt (j) s t x (λn m=>?_) (d.one _ (aF e))
 rw[<-bS e f]at m
 refine .nil (Next.mod rfl ?_)
 refine RA.nil (by kernel_rfl) ?_
 refine aD<|.sr<|.mo rfl ?_
 refine .ia (i+1) .add ?_
 refine .az rfl<|.region<|.mo rfl ?_
 refine .ia (j-1) .sub ?_
 refine .ag rfl<|.nil<|bi ?_
 ·exact aN (i+1,j-1,bn ys i j,n) ⟨⟨by simp only;omega,by simp only;omega,by simp only;omega⟩,m,g.step (by omega) (by omega) (by omega) (by omega) (by omega)⟩ (by simp only;omega) kE.c.c.c rH
 refine .exit<|aP<|aV<|aR<|ct _ .none rH ?_
 ·exact⟨_,rfl,rfl,ys,d,g⟩
theorem iF(v:Value)(xs:List GP)(T:ay)(a b:Nat)(R:aA)(s:Value)(V:One s)(h:OS 137 9 bG v xs T)(S:a<=b)(U:b<=xs.length)(Y:xs.length<=1000000000):
  Spec prog 339 [v,.int .i64 a,.int .i64 b,s] R [T] λu H'=>∃T',H'=[T']/\u=.tuple #[]/\∃ys,OS 137 9 bG v ys T'/\RP a b xs ys:=by
 have iv:=h.aL
 obtain⟨n,J⟩:∃n,b=a+n:=⟨b-a,by omega⟩
 subst J
 refine Spec.body func339 rfl results339 ntmps339 rfl ?_
 refine .sr<|.mo rfl<|.mo rfl ?_
 refine .ia (n) .sub ?_
 refine .ag rfl<|.z<|.mo rfl<|.q .geq<|.zn ?_
 refine .cond rfl (λt=>?_) λt=>?_
 have a2:8<=n:=by have:=bo t;omega
 obtain⟨q,D⟩:∃q,q=n/4:=⟨_,rfl⟩
 refine .sr<|.mo rfl<|.q .ez ?_
 refine .hK (λe=>?_)
 refine .cO rfl rfl<|.z<|.mo rfl ?_
 refine .bc (ld n (by omega) (by omega) _) (λu r=>?_)
 obtain⟨j,rfl,a0,a1⟩:=r
 refine .ag rfl<|.z<|.mo rfl<|.mo rfl ?_
 refine .q (.i64 ((q:Nat):Int) .quo ⟨by rw[D,adt (by omega)];omega,by omega,by omega⟩) ?_
 refine .ia (q*2) .mul ?_
 refine .ia (a+q*2) .add ?_
 refine .ia (a+q*2-1) .sub ?_
 refine .az rfl<|.block ?_
 refine .loop (X:=Nat×Int×List GP×ay) (λy=>(a+q*2-1<=y.1/\y.1<=a+q*2+2)/\OS 137 9 bG v y.2.2.1 y.2.2.2/\RP a (a+n) xs y.2.2.1) (λy=>[(0,v),(1,iN a),(8,iN n),(9,pT e),(10,.int .u64 (j:Nat)),(11,iN y.1)]) (λy=>[bl e [.int .u64 y.2.1] 508,y.2.2.2]) (λy=>a+q*2+2-y.1) (a+q*2-1,_,xs,T) ⟨⟨adq _,by simp only;omega⟩,h,.refl _⟩ kE.c.c.c.c.c.c rH ?_
 rintro⟨i,z,ys,F⟩ ⟨⟨H,I⟩,d,k⟩
 simp only at H I d k⊢
 have Z:=k.length
 refine .seq<|.sr<|.mo rfl<|.mo rfl<|.mo rfl ?_
 refine .q (.i64 ((q:Nat):Int) .quo ⟨by rw[D,adt (by omega)];omega,by omega,by omega⟩) ?_
 refine .ia (q*2) .mul ?_
 refine .ia (a+q*2) .add ?_
 refine .ia (a+q*2+1) .add ?_
 refine .q .leq<|.zn ?_
 refine .cond rfl (λA=>?_) λA=>?_
 have W:i<=a+q*2+1:=by have:=bo A;omega
 refine .kn<|.seq<|.block<|.sr ?_
 refine .bb (ln e z _) (λu O r=>?_)
 obtain⟨l,rfl,rfl⟩:=r
 refine .mo rfl ?_
 refine .q (bd.cast (v':=.int .u64 ((j-1:Nat):Int)) .sub (by rw[gr (by omega) (by omega)];congr 1;omega)) ?_
 have B:=kH (z:=l) (q:=((j-1:Nat):Int)) (by omega) (by omega)
 obtain⟨o,C⟩:∃o:Nat,IntKind.u64.wrap (BitVec.ofInt IntKind.u64.bits l&&&BitVec.ofInt IntKind.u64.bits ((j-1:Nat):Int)).toNat=(o:Int):=⟨_,(Int.toNat_of_nonneg B.1).symm⟩
 refine .q (bd.cast (v':=.int .u64 ((o:Nat):Int)) .kG (by rw[C])) ?_
 rw[C]at B
 refine .q (bd.cast (v':=.int .i64 ((o:Nat):Int)) .ez (by rw[lE (by omega) (by omega)])) ?_
 refine .ag rfl<|.zs ?_
 refine bp.cut (X:=Nat) (λp=>p<n) (λp=>[(0,v),(1,iN a),(8,iN n),(9,pT e),(10,.int .u64 (j:Nat)),(11,iN i),(12,iN p)]) (λ_=>[bl e [.int .u64 l] 508,F]) ?_ ?_
 refine .sr<|.mo rfl<|.mo rfl<|.q .geq<|.zn ?_
 refine .cond rfl (λm=>?_) λm=>?_
 have K:n<=o:=by have:=bo m;omega
 refine .region<|.mo rfl<|.mo rfl ?_
 refine .ia (o-n) .sub ?_
 refine .ag rfl<|.nil ?_
 ·first
   |exact ax (o-n) (by omega) kE.c.c.c.c.c.c.c rH
   |exact ax o (by omega) kE.c.c.c.c.c.c.c rH
 have K:o<n:=by have:=aY m;omega
 refine .skip ?_
 ·first
   |exact ax (o-n) (by omega) kE.c.c.c.c.c.c.c rH
   |exact ax o (by omega) kE.c.c.c.c.c.c.c rH
 intro y M
 have a3:y<n:=M
 obtain⟨p,rfl⟩:∃p,p=y:=⟨_,rfl⟩
 obtain⟨x,g⟩:∃x,ys[i]? =some x:=⟨_,aC (by omega)⟩
 obtain⟨w,f⟩:∃x,ys[a+p]? =some x:=⟨_,aC (by omega)⟩
 refine aD<|.bF [17,19] mixed ?_
 refine .tO 0 rfl .move<|.tO 1 rfl .move<|.tK 2 rfl .move<|.tK 3 rfl .move<|.tK 4 rfl .move ?_
 refine .take 5 rfl (.i64 ((a+p:Nat):Int) .add ⟨by omega,by omega,by omega⟩) (by kernel_rfl) ?_
 refine .tO 6 rfl .move<|.tO 7 rfl .move<|.tO 8 rfl .move ?_
 refine .cH 9 rfl (.i64 ((a+p:Nat):Int) .add ⟨by omega,by omega,by omega⟩) (by kernel_rfl) ?_
 refine RA.au 10 rfl (a+p) d f rfl rfl rfl (by kernel_rfl) (λa4=>?_)
 refine .tO 11 rfl (.aE rfl)<|.tO 12 rfl .move<|.tO 13 rfl .move ?_
 refine RA.au 14 rfl (i) d g rfl rfl rfl (by kernel_rfl) (λa5=>?_)
 refine .tO 15 rfl (.aE rfl) ?_
 refine RA.au 16 rfl (i) d g rfl rfl rfl (by kernel_rfl) (λa6=>?_)
 refine .sT 17 rfl ?_
 refine .bt (i) d g w (λQ L=>?_) (d.one _ (aF f))
 refine .nil (Next.mod rfl ?_)
 refine RA.au 18 rfl (a+p) d f rfl rfl rfl (by kernel_rfl) (λa7=>?_)
 refine .sT 19 rfl ?_
 obtain⟨zz,N⟩:∃u,(ys.set (i) w)[a+p]? =some u:=⟨_,aC (by rw[adr];exact(ads.1 f).1)⟩
 refine .bt (a+p) L N x (λG E=>?_) (d.one _ (aF g))
 rw[<-bS g f]at E
 refine .nil (Next.mod rfl ?_)
 refine RA.nil (by kernel_rfl) ?_
 refine bi<|aD<|.region<|.mo rfl ?_
 refine .ia (i+1) .add ?_
 refine .ag rfl<|.nil ?_
 ·exact aN (i+1,l,bn ys i (a+p),G) ⟨⟨by simp only;omega,by simp only;omega⟩,E,k.step (by omega) (by omega) (by omega) (by omega) (by omega)⟩ (by simp only;omega) kE.c.c.c.c.c.c rH
 refine .exit<|aP<|aV<|aR<|ct _ .none (cu [1]) ?_
 ·exact⟨_,rfl,rfl,ys,d,k⟩
 refine .skip<|ct _ .none rH ?_
 ·exact⟨_,rfl,rfl,xs,h,.refl _⟩
end
end SGC
namespace SGC
section
variable{c:GP->GP->Int}{ok:GP->Prop}{f:FuncId}{caps:List Value} [e:aI prog f]
theorem iQ(v:Value)(xs:List GP)(T:ay)(a b:Nat)(R:aA)(h:OS 137 9 bG v xs T)(b5:a<b)(V:b<=xs.length)(hl:xs.length<=1000000000)(hf:cf prog f caps R (λp:GP=>Value.agg (bG p).toArray) c ok)(W:∀x∈xs,ok x)(so:SO (ap c))(c4:LB (ap c) xs a b):
  Spec prog 342 [v,.int .i64 a,.int .i64 b,.func (.func f) #[] caps.toArray] R [T] λu H'=>∃T',H'=[T']/\∃ys m,u=.bool m/\OS 137 9 bG v ys T'/\RP a b xs ys/\(m=true->SR (ap c) ys a b):=by
 have iv:=h.aL
 refine Spec.body func342 rfl results342 ntmps342 rfl ?_
 refine .sr<|.ag rfl<|.z<|.mo rfl ?_
 refine .ia (a+1) .add ?_
 refine .ag rfl<|.zs<|.sr<|.az rfl<|.block ?_
 refine .loop (X:=Nat×Nat×List GP×ay) (λy=>(y.1<=5/\a+1<=y.2.1/\y.2.1<=b)/\OS 137 9 bG v y.2.2.1 y.2.2.2/\RP a b xs y.2.2.1/\SR (ap c) y.2.2.1 a y.2.1) (λy=>[(0,v),(1,iN a),(2,iN b),(3,.func (.func f) #[] caps.toArray),(9,iN y.2.1),(10,iN y.1)]) (λy=>[y.2.2.2]) (λy=>5-y.1) (0,a+1,xs,T) ⟨⟨by omega,adq _,b5⟩,h,.refl _,λi j S U M=>by simp only at M;omega⟩ kE.c.c.c.c.c.c rH ?_
 rintro⟨n,i,ys,T1⟩ ⟨⟨hn,I,J⟩,B,N,E⟩
 simp only at hn I J B N E⊢
 have c8:=N.length
 refine .seq<|.sr<|.mo rfl<|.q .lss<|.zn ?_
 refine .cond rfl (λS=>?_) λS=>?_
 have d1:n<5:=de S
 refine .kn<|.seq<|.block<|.seq ?_
 refine bp.cut (X:=Nat) (λi=>(a+1<=i/\i<=b)/\SR (ap c) ys a i) (λi=>[(0,v),(1,iN a),(2,iN b),(3,.func (.func f) #[] caps.toArray),(9,iN i),(10,iN n)]) (λ_=>[T1]) ?_ ?_
 refine .block ?_
 refine .loop (X:=Nat) (λi=>(a+1<=i/\i<=b)/\SR (ap c) ys a i) (λi=>[(0,v),(1,iN a),(2,iN b),(3,.func (.func f) #[] caps.toArray),(9,iN i),(10,iN n)]) (λ_=>[T1]) (λi=>b-i) i ⟨⟨I,J⟩,E⟩ kE.c.c.c.c.c.c rH ?_
 clear I J E
 rintro i ⟨⟨I,J⟩,E⟩
 refine .seq<|.seq ?_
 refine .bQ 14 mixed (by kernel_rfl) ?_
 conv=>arg 6;dsimp only[List.take]
 refine .mo rfl<|.mo rfl<|.q .lss<|.mo rfl ?_
 refine .split (t:=22) rfl (λe=>?_) (λe=>?_)
 have c3:i<b:=by have:=bo e;omega
 obtain⟨x,F⟩:∃x,ys[i]? =some x:=⟨_,aC (by omega)⟩
 obtain⟨y,D⟩:∃x,ys[i-1]? =some x:=⟨_,aC (by omega)⟩
 have c6:=W x (N.perm.mem_iff.1 (aF F))
 have c7:=W y (N.perm.mem_iff.1 (aF D))
 refine .gT e<|.mo rfl<|.gT e<|.mo rfl<|.gT e<|.mo rfl<|.gT e ?_
 refine .au i B F (λe1=>?_)
 refine .gT e<|.q (.aE rfl)<|.gT e<|.mo rfl<|.gT e<|.mo rfl<|.gT e ?_
 refine .ia (i-1) .sub ?_
 refine .gT e ?_
 refine .au (i-1) B D (λe2=>?_)
 refine .gT e<|.q (.aE rfl)<|.nil<|.gT e ?_
 refine .cj (first:=[]) (captured:=caps) (vs:=[(λp:GP=>Value.agg (bG p).toArray) x,(λp:GP=>Value.agg (bG p).toArray) y]) (hf x y c6 c7 _ (λb o V=>.inl V)) (λu H=>?_)
 subst H
 refine .gT e<|.q .lss<|.gT e<|.q .not<|.q (.bu e) ?_
 refine .zn ?_
 refine .cond rfl (λU=>?_) λU=>?_
 refine .kn<|.block<|.region<|.mo rfl ?_
 refine .ia (i+1) .add ?_
 refine .ag rfl<|.nil<|bi ?_
 ·have c5:ap c x y=false:=by
   have b8:(!ap c x y)=true:=U
   simpa using b8
  exact aN (i+1) ⟨⟨by omega,by omega⟩,E.snoc so (by omega) (by omega) λu w H hw=>by
   rw[D]at H;rw[F]at hw;cases H;cases hw;exact c5⟩ (by omega) kE.c.c.c.c.c.c rH
 refine .exit<|aP<|aV<|aR ?_
 exact ax i ⟨⟨I,J⟩,E⟩ kE.c.c.c.c.c.c rH
 refine .gF e<|.gF e<|.gF e<|.gF e<|.gF e<|.gF e<|.gF e<|.gF e<|.gF e<|.gF e<|.nil<|.gF e<|.gF e<|.gF e<|.q (.bq e) ?_
 refine .zn<|.bB<|.exit<|aP<|aV<|aR ?_
 exact ax i ⟨⟨I,J⟩,E⟩ kE.c.c.c.c.c.c rH
 intro x F
 obtain⟨d,b6⟩:∃d,d=x:=⟨_,rfl⟩
 rw[<-b6]at F⊢
 clear b6 x I J E
 obtain⟨⟨I,J⟩,E⟩:=F
 refine aD<|.seq<|.sr<|.mo rfl<|.mo rfl<|.q .cA<|.zn ?_
 refine .cond rfl (λM=>?_) λM=>?_
 refine .sr<|.az rfl ?_
 refine .ret (aT (bg (aT (cc (bg (aT (aZ _ (.one (.tmp rfl)) rH ?_)))))))
 ·have c2:d=b:=by
   have b9:((d:Int)=b):=by simpa using M
   omega
  exact⟨_,rfl,ys,true,rfl,B,N,λ_=>c2▸E⟩
 have c3:d<b:=by
  have b9:¬((d:Int)=b):=by simpa using M
  omega
 obtain⟨x,F⟩:∃x,ys[d]? =some x:=⟨_,aC (by omega)⟩
 obtain⟨y,D⟩:∃x,ys[d-1]? =some x:=⟨_,aC (by omega)⟩
 refine .kn<|.seq<|.sr<|.mo rfl<|.mo rfl ?_
 refine .ia (b-a) .sub ?_
 refine .q .lss<|.zn ?_
 refine .cond rfl (λh4=>?_) λh4=>?_
 refine .sr<|.az rfl ?_
 refine .ret (aT (bg (aT (cc (bg (aT (aZ _ (.one (.tmp rfl)) rH ?_)))))))
 ·exact⟨_,rfl,ys,false,rfl,B,N,λh=>by cases h⟩
 refine .kn<|.seq<|.bF [15,17] mixed ?_
 refine .tO 0 rfl .move<|.tO 1 rfl .move<|.tK 2 rfl .move<|.tK 3 rfl .move ?_
 refine .take 4 rfl (.i64 ((d-1:Nat):Int) .sub ⟨by omega,by omega,by omega⟩) (by kernel_rfl) ?_
 refine .tO 5 rfl .move<|.tO 6 rfl .move ?_
 refine .cH 7 rfl (.i64 ((d-1:Nat):Int) .sub ⟨by omega,by omega,by omega⟩) (by kernel_rfl) ?_
 refine RA.au 8 rfl (d-1) B D rfl rfl rfl (by kernel_rfl) (λe3=>?_)
 refine .tO 9 rfl (.aE rfl)<|.tO 10 rfl .move<|.tO 11 rfl .move ?_
 refine RA.au 12 rfl (d) B F rfl rfl rfl (by kernel_rfl) (λe4=>?_)
 refine .tO 13 rfl (.aE rfl) ?_
 refine RA.au 14 rfl (d) B F rfl rfl rfl (by kernel_rfl) (λe5=>?_)
 refine .sT 15 rfl ?_
 refine .bt (d) B F y (λb1 a0=>?_) (B.one _ (aF D))
 refine .nil (Next.mod rfl ?_)
 refine RA.au 16 rfl (d-1) B D rfl rfl rfl (by kernel_rfl) (λe6=>?_)
 refine .sT 17 rfl ?_
 obtain⟨zz,a1⟩:∃u,(ys.set (d) y)[d-1]? =some u:=⟨_,aC (by rw[adr];exact(ads.1 D).1)⟩
 refine .bt (d-1) a0 a1 x (λL G=>?_) (B.one _ (aF F))
 rw[<-bS F D]at G
 refine .nil (Next.mod rfl ?_)
 refine RA.nil (by kernel_rfl) ?_
 have a3:=N.step (i:=d) (j:=d-1) (by omega) (by omega) (by omega) (by omega) (by omega)
 have c0:=E.lB (by omega)
 clear E
 refine aD<|.seq ?_
 refine bp.cut (X:=List GP×ay) (λz=>OS 137 9 bG v z.1 z.2/\RP a b xs z.1/\SR (ap c) z.1 a d) (λ_=>[(0,v),(1,iN a),(2,iN b),(3,.func (.func f) #[] caps.toArray),(9,iN d),(10,iN n)]) (λz=>[z.2]) ?_ ?_
 refine .sr<|.mo rfl<|.mo rfl ?_
 refine .ia (d-a) .sub ?_
 refine .q .geq<|.zn ?_
 refine .cond rfl (λh5=>?_) λh5=>?_
 refine .sr<|.mo rfl ?_
 refine .ia (d-1) .sub ?_
 refine .az rfl<|.block ?_
 refine .loop (X:=Nat×List GP×ay) (λz=>(a<=z.1/\z.1<=d-1)/\OS 137 9 bG v z.2.1 z.2.2/\RP a b xs z.2.1/\fg (ap c) z.2.1 a z.1 d) (λz=>[(0,v),(1,iN a),(2,iN b),(3,.func (.func f) #[] caps.toArray),(9,iN d),(10,iN n),(11,iN z.1)]) (λz=>[z.2.2]) (λz=>z.1) (d-1,bn ys d (d-1),L) ⟨⟨by simp only;omega,adq _⟩,G,a3,c0⟩ kE.c.c.c.c.c.c.c rH ?_
 rintro⟨q,A,K⟩ ⟨⟨a7,a8⟩,g,r,a2⟩
 simp only at a7 a8 g r a2⊢
 have c9:=r.length
 refine .seq<|.sr<|.mo rfl<|.q .geq<|.zn ?_
 refine .cond rfl (λh6=>?_) λh6=>?_
 have d2:1<=q:=by have:=bo h6;omega
 obtain⟨s,k⟩:∃x,A[q]? =some x:=⟨_,aC (by omega)⟩
 obtain⟨t,l⟩:∃x,A[q-1]? =some x:=⟨_,aC (by omega)⟩
 have a9:=W s (r.perm.mem_iff.1 (aF k))
 have b0:=W t (r.perm.mem_iff.1 (aF l))
 refine .kn<|.seq<|.block<|.seq<|.seq ?_
 refine .bQ 10 mixed (by kernel_rfl) ?_
 conv=>arg 6;dsimp only[List.take]
 refine .mo rfl<|.mo rfl<|.mo rfl ?_
 refine .au q g k (λe7=>?_)
 refine .q (.aE rfl)<|.mo rfl<|.mo rfl ?_
 refine .ia (q-1) .sub ?_
 refine .au (q-1) g l (λe8=>?_)
 refine .q (.aE rfl)<|.nil ?_
 refine .cj (first:=[]) (captured:=caps) (vs:=[(λp:GP=>Value.agg (bG p).toArray) s,(λp:GP=>Value.agg (bG p).toArray) t]) (hf s t a9 b0 _ (λb o V=>.inl V)) (λu H=>?_)
 subst H
 refine .q .lss<|.q .not<|.zn ?_
 refine .cond rfl (λh7=>?_) λh7=>?_
 have a4:SR (ap c) A a d:=a2.done so (by omega) (by omega) (by
  have a5:(!ap c s t)=true:=h7
  rcases adv a q with hh|hh
  ·exact .inr ⟨hh,λu w H hw=>by rw[l]at H;rw[k]at hw;cases H;cases hw;simpa using a5⟩
  ·exact .inl (by omega))
 refine .exit (aP (dn (aP (aV (aR ?_)))))
 ·first
   |exact ax (A,K) ⟨g,r,a4⟩ kE.c.c.c.c.c.c rH
   |exact ax (bn ys d (d-1),L) ⟨G,a3,λp q S U M=>by have:=aY h5;omega⟩ kE.c.c.c.c.c.c rH
 have a6:ap c s t=true:=by
  have a5:(!ap c s t)=false:=h7
  simpa using a5
 have c1:a<q:=by
  rcases adv a q with hh|hh
  ·exact hh
  ·have ea:q=a:=by omega
   subst ea
   have:=(c4.rp r) (by omega) q (adq _) b5 t s l k
   rw[this]at a6;cases a6
 refine .kn<|.bF [15,17] mixed ?_
 refine .tO 0 rfl .move<|.tO 1 rfl .move<|.tK 2 rfl .move<|.tK 3 rfl .move ?_
 refine .take 4 rfl (.i64 ((q-1:Nat):Int) .sub ⟨by omega,by omega,by omega⟩) (by kernel_rfl) ?_
 refine .tO 5 rfl .move<|.tO 6 rfl .move ?_
 refine .cH 7 rfl (.i64 ((q-1:Nat):Int) .sub ⟨by omega,by omega,by omega⟩) (by kernel_rfl) ?_
 refine RA.au 8 rfl (q-1) g l rfl rfl rfl (by kernel_rfl) (λe9=>?_)
 refine .tO 9 rfl (.aE rfl)<|.tO 10 rfl .move<|.tO 11 rfl .move ?_
 refine RA.au 12 rfl (q) g k rfl rfl rfl (by kernel_rfl) (λf0=>?_)
 refine .tO 13 rfl (.aE rfl) ?_
 refine RA.au 14 rfl (q) g k rfl rfl rfl (by kernel_rfl) (λf1=>?_)
 refine .sT 15 rfl ?_
 refine .bt (q) g k t (λb1 a0=>?_) (g.one _ (aF l))
 refine .nil (Next.mod rfl ?_)
 refine RA.au 16 rfl (q-1) g l rfl rfl rfl (by kernel_rfl) (λd4=>?_)
 refine .sT 17 rfl ?_
 obtain⟨zz,a1⟩:∃u,(A.set (q) t)[q-1]? =some u:=⟨_,aC (by rw[adr];exact(ads.1 l).1)⟩
 refine .bt (q-1) a0 a1 s (λL G=>?_) (g.one _ (aF k))
 rw[<-bS k l]at G
 refine .nil (Next.mod rfl ?_)
 refine RA.nil (by kernel_rfl) ?_
 refine bi<|aD<|.region<|.mo rfl ?_
 refine .ia (q-1) .sub ?_
 refine .ag rfl<|.nil ?_
 ·exact aN (q-1,bn A q (q-1),L) ⟨⟨by simp only;omega,by simp only;omega⟩,G,r.step (by omega) (by omega) (by omega) (by omega) (by omega),a2.step so (by omega) (by omega) c1 k l a6⟩ (by simp only;omega) kE.c.c.c.c.c.c.c rH
 have a4:SR (ap c) A a d:=a2.done so (by omega) (by omega) (.inl (by have:=aY h6;omega))
 refine .exit<|aP<|aV<|aR ?_
 ·first
   |exact ax (A,K) ⟨g,r,a4⟩ kE.c.c.c.c.c.c rH
   |exact ax (bn ys d (d-1),L) ⟨G,a3,λp q S U M=>by have:=aY h5;omega⟩ kE.c.c.c.c.c.c rH
 refine .skip ?_
 ·first
   |exact ax (A,K) ⟨g,r,a4⟩ kE.c.c.c.c.c.c rH
   |exact ax (bn ys d (d-1),L) ⟨G,a3,λp q S U M=>by have:=aY h5;omega⟩ kE.c.c.c.c.c.c rH
 intro y D
 obtain⟨A,K⟩:=y
 obtain⟨g,r,Y⟩:=D
 simp only at g r Y⊢
 refine aD ?_
 refine bp.cut (X:=List GP×ay) (λz=>OS 137 9 bG v z.1 z.2/\RP a b xs z.1/\SR (ap c) z.1 a d) (λ_=>[(0,v),(1,iN a),(2,iN b),(3,.func (.func f) #[] caps.toArray),(9,iN d),(10,iN n)]) (λz=>[z.2]) ?_ ?_
 refine .sr<|.mo rfl<|.mo rfl ?_
 refine .ia (b-d) .sub ?_
 refine .q .geq<|.zn ?_
 refine .cond rfl (λh8=>?_) λh8=>?_
 refine .sr<|.mo rfl ?_
 refine .ia (d+1) .add ?_
 refine .az rfl<|.block ?_
 refine .loop (X:=Nat×List GP×ay) (λz=>(d+1<=z.1/\z.1<=b)/\OS 137 9 bG v z.2.1 z.2.2/\RP a b xs z.2.1/\SR (ap c) z.2.1 a d) (λz=>[(0,v),(1,iN a),(2,iN b),(3,.func (.func f) #[] caps.toArray),(9,iN d),(10,iN n),(12,iN z.1)]) (λz=>[z.2.2]) (λz=>b-z.1) (d+1,A,K) ⟨⟨adq _,by simp only;omega⟩,g,r,Y⟩ kE.c.c.c.c.c.c.c rH ?_
 rintro⟨q,Q,T4⟩ ⟨⟨a7,a8⟩,C,O,Z⟩
 simp only at a7 a8 C O Z⊢
 have d0:=O.length
 refine .seq<|.sr<|.mo rfl<|.mo rfl<|.q .lss<|.zn ?_
 refine .cond rfl (λh9=>?_) λh9=>?_
 have d3:q<b:=de h9
 obtain⟨s,k⟩:∃x,Q[q]? =some x:=⟨_,aC (by omega)⟩
 obtain⟨t,l⟩:∃x,Q[q-1]? =some x:=⟨_,aC (by omega)⟩
 have a9:=W s (O.perm.mem_iff.1 (aF k))
 have b0:=W t (O.perm.mem_iff.1 (aF l))
 refine .kn<|.seq<|.block<|.seq<|.seq ?_
 refine .bQ 10 mixed (by kernel_rfl) ?_
 conv=>arg 6;dsimp only[List.take]
 refine .mo rfl<|.mo rfl<|.mo rfl ?_
 refine .au q C k (λd5=>?_)
 refine .q (.aE rfl)<|.mo rfl<|.mo rfl ?_
 refine .ia (q-1) .sub ?_
 refine .au (q-1) C l (λd6=>?_)
 refine .q (.aE rfl)<|.nil ?_
 refine .cj (first:=[]) (captured:=caps) (vs:=[(λp:GP=>Value.agg (bG p).toArray) s,(λp:GP=>Value.agg (bG p).toArray) t]) (hf s t a9 b0 _ (λb o V=>.inl V)) (λu H=>?_)
 subst H
 refine .q .lss<|.q .not<|.zn ?_
 refine .cond rfl (λb7=>?_) λb7=>?_
 refine .exit (aP (dn (aP (aV (aR ?_)))))
 ·first
   |exact ax (Q,T4) ⟨C,O,Z⟩ kE.c.c.c.c.c.c rH
   |exact ax (A,K) ⟨g,r,Y⟩ kE.c.c.c.c.c.c rH
 refine .kn<|.bF [15,17] mixed ?_
 refine .tO 0 rfl .move<|.tO 1 rfl .move<|.tK 2 rfl .move<|.tK 3 rfl .move ?_
 refine .take 4 rfl (.i64 ((q-1:Nat):Int) .sub ⟨by omega,by omega,by omega⟩) (by kernel_rfl) ?_
 refine .tO 5 rfl .move<|.tO 6 rfl .move ?_
 refine .cH 7 rfl (.i64 ((q-1:Nat):Int) .sub ⟨by omega,by omega,by omega⟩) (by kernel_rfl) ?_
 refine RA.au 8 rfl (q-1) C l rfl rfl rfl (by kernel_rfl) (λd7=>?_)
 refine .tO 9 rfl (.aE rfl)<|.tO 10 rfl .move<|.tO 11 rfl .move ?_
 refine RA.au 12 rfl (q) C k rfl rfl rfl (by kernel_rfl) (λd8=>?_)
 refine .tO 13 rfl (.aE rfl) ?_
 refine RA.au 14 rfl (q) C k rfl rfl rfl (by kernel_rfl) (λd9=>?_)
 refine .sT 15 rfl ?_
 refine .bt (q) C k t (λb1 a0=>?_) (C.one _ (aF l))
 refine .nil (Next.mod rfl ?_)
 refine RA.au 16 rfl (q-1) C l rfl rfl rfl (by kernel_rfl) (λe0=>?_)
 refine .sT 17 rfl ?_
 obtain⟨zz,a1⟩:∃u,(Q.set (q) t)[q-1]? =some u:=⟨_,aC (by rw[adr];exact(ads.1 l).1)⟩
 refine .bt (q-1) a0 a1 s (λL G=>?_) (C.one _ (aF k))
 rw[<-bS k l]at G
 refine .nil (Next.mod rfl ?_)
 refine RA.nil (by kernel_rfl) ?_
 refine bi<|aD<|.region<|.mo rfl ?_
 refine .ia (q+1) .add ?_
 refine .ag rfl<|.nil ?_
 ·exact aN (q+1,bn Q q (q-1),L) ⟨⟨by simp only;omega,by simp only;omega⟩,G,O.step (by omega) (by omega) (by omega) (by omega) (by omega),Z.lC (by omega) (by omega) (by omega) (by omega)⟩ (by simp only;omega) kE.c.c.c.c.c.c.c rH
 refine .exit<|aP<|aV<|aR ?_
 ·first
   |exact ax (Q,T4) ⟨C,O,Z⟩ kE.c.c.c.c.c.c rH
   |exact ax (A,K) ⟨g,r,Y⟩ kE.c.c.c.c.c.c rH
 refine .skip ?_
 ·first
   |exact ax (Q,T4) ⟨C,O,Z⟩ kE.c.c.c.c.c.c rH
   |exact ax (A,K) ⟨g,r,Y⟩ kE.c.c.c.c.c.c rH
 intro y D
 obtain⟨us,T5⟩:=y
 obtain⟨b2,b3,b4⟩:=D
 simp only at b2 b3 b4⊢
 refine bi<|aD<|.region<|.mo rfl ?_
 refine .ia (n+1) .add ?_
 refine .ag rfl<|.nil ?_
 ·exact aN (n+1,d,us,T5) ⟨⟨by simp only;omega,I,J⟩,b2,b3,b4⟩ (by simp only;omega) kE.c.c.c.c.c.c rH
 refine .exit<|aP<|aV<|aR<|aD<|.sr<|.az rfl ?_
 refine .ret (aZ _ (.one (.tmp rfl)) rH ?_)
 ·exact⟨_,rfl,ys,false,rfl,B,N,λh=>by cases h⟩
end
end SGC
namespace SGC
section
variable{c:GP->GP->Int}{ok:GP->Prop}{f:FuncId}{caps:List Value} [e:aI prog f]
theorem eQ(v:Value)(xs:List GP)(a b lo d g:Nat)(s:Int)(R:aA)(h:RS R 9 bG v xs)(i:lo<=a/\a<d)(e:lo<=b/\b<d)(A:d<=xs.length)(n:cf prog f caps R (λp:GP=>Value.agg (bG p).toArray) c ok)(j:∀x∈xs,ok x):
  Spec prog 449 [v,.int .i64 a,.int .i64 b,pT g,.func (.func f) #[] caps.toArray] R [bl g [.int .i64 s] 3] λu H'=>∃T',H'=[T']/\∃(s':Int) (p q:Nat),u=.tuple [.int .i64 p,.int .i64 q].toArray/\T'=(bl g [.int .i64 s'] 3)/\(lo<=p/\p<d)/\(lo<=q/\q<d):=by
 have B:=h.aL
 obtain⟨x,k⟩:∃x,xs[b]? =some x:=⟨_,aC (by omega)⟩
 obtain⟨y,l⟩:∃x,xs[a]? =some x:=⟨_,aC (by omega)⟩
 have t:=j x (aF k)
 have w:=j y (aF l)
 refine Spec.body func449 rfl results449 ntmps449 rfl ?_
 refine .sr<|.ag rfl<|.ag rfl<|.zs<|.seq ?_
 refine .bQ 9 mixed (by kernel_rfl) ?_
 conv=>arg 6;dsimp only[List.take]
 refine .mo rfl<|.mo rfl<|.mo rfl ?_
 refine .cR b h k (λC=>?_)
 refine .q (.aE rfl)<|.mo rfl<|.mo rfl ?_
 refine .cR a h l (λD=>?_)
 refine .q (.aE rfl)<|.nil ?_
 refine .cj (first:=[]) (captured:=caps) (vs:=[(λp:GP=>Value.agg (bG p).toArray) x,(λp:GP=>Value.agg (bG p).toArray) y]) (n x y t w _ (λb o e=>.inl e)) (λu r=>?_)
 subst r
 refine .q .lss<|.zn ?_
 refine .cond rfl (λm=>?_) λm=>?_
 refine .sr<|.mo rfl<|.nc rfl<|.lo rfl<|.q .add ?_
 refine .nc rfl<|.cO rfl rfl<|.z<|.mo rfl<|.mo rfl<|.ag rfl<|.az rfl ?_
 refine .ret (aT (aZ _ (.two (.tmp rfl) (.tmp rfl)) rH ?_))
 ·exact⟨_,rfl,_,b,a,rfl,rfl,e,i⟩
 refine .kn<|.sr<|.mo rfl<|.mo rfl<|.ag rfl<|.az rfl ?_
 refine .ret (aZ _ (.two (.tmp rfl) (.tmp rfl)) rH ?_)
 ·exact⟨_,rfl,_,a,b,rfl,rfl,i,e⟩
theorem fI(v:Value)(xs:List GP)(a b d lo e g:Nat)(s:Int)(R:aA)(h:RS R 9 bG v xs)(m:lo<=a/\a<e)(n:lo<=b/\b<e)(o:lo<=d/\d<e)(k:e<=xs.length)(j:cf prog f caps R (λp:GP=>Value.agg (bG p).toArray) c ok)(l:∀x∈xs,ok x):
  Spec prog 417 [v,.int .i64 a,.int .i64 b,.int .i64 d,pT g,.func (.func f) #[] caps.toArray] R [bl g [.int .i64 s] 3] λu H'=>∃T',H'=[T']/\∃(s':Int) (p:Nat),u=.int .i64 p/\T'=(bl g [.int .i64 s'] 3)/\(lo<=p/\p<e):=by
 have M:=h.aL
 refine Spec.body func417 rfl results417 ntmps417 rfl ?_
 refine .sr<|.ag rfl<|.z<|.mo rfl<|.mo rfl<|.mo rfl<|.mo rfl<|.mo rfl ?_
 refine .bb (eQ v xs a b lo e g s _ h m n k j l) (λu H i=>?_)
 obtain⟨E,A,C,rfl,rfl,r,w⟩:=i
 refine .mo rfl<|.q .extract<|.q .extract<|.ag rfl<|.ag rfl<|.z<|.mo rfl<|.mo rfl<|.mo rfl<|.mo rfl<|.mo rfl ?_
 refine .bb (eQ v xs C d lo e g E _ h w o k j l) (λu I i=>?_)
 obtain⟨F,B,O,rfl,rfl,t,L⟩:=i
 refine .mo rfl<|.q .extract<|.q .extract<|.ag rfl<|.ag rfl<|.z<|.mo rfl<|.mo rfl<|.mo rfl<|.mo rfl<|.mo rfl ?_
 refine .bb (eQ v xs A B lo e g F _ h r t k j l) (λu J i=>?_)
 obtain⟨G,N,D,rfl,rfl,K,y⟩:=i
 refine .mo rfl<|.q .extract<|.q .extract<|.ag rfl<|.ag rfl<|.z<|.mo rfl<|.az rfl ?_
 refine .ret (aZ _ (.one (.tmp rfl)) rH ?_)
 ·exact⟨_,rfl,G,D,rfl,rfl,y⟩
theorem eP(v:Value)(xs:List GP)(a lo d b:Nat)(s:Int)(R:aA)(h:RS R 9 bG v xs)(o:lo+1<=a/\a+1<d)(g:d<=xs.length)(q:xs.length<=1000000000)(e:cf prog f caps R (λp:GP=>Value.agg (bG p).toArray) c ok)(i:∀x∈xs,ok x):
  Spec prog 416 [v,.int .i64 a,pT b,.func (.func f) #[] caps.toArray] R [bl b [.int .i64 s] 3] λu H'=>∃T',H'=[T']/\∃(s':Int) (p:Nat),u=.int .i64 p/\T'=(bl b [.int .i64 s'] 3)/\(lo<=p/\p<d):=by
 have r:=h.aL
 refine Spec.body func416 rfl results416 ntmps416 rfl ?_
 refine .sr<|.ag rfl<|.z<|.mo rfl<|.mo rfl ?_
 refine .ia (a-1) .sub ?_
 refine .mo rfl<|.mo rfl ?_
 refine .ia (a+1) .add ?_
 refine .mo rfl<|.mo rfl ?_
 refine .bb (fI v xs (a-1) a (a+1) lo d b s _ h (by omega) (by omega) (by omega) g e i) (λu n k=>?_)
 obtain⟨m,l,rfl,rfl,j⟩:=k
 refine .az rfl ?_
 refine .ret (aZ _ (.one (.tmp rfl)) rH ?_)
 ·exact⟨_,rfl,m,l,rfl,rfl,j⟩
theorem choose_spec(v:Value)(xs:List GP)(a b:Nat)(R:aA)(h:RS R 9 bG v xs)(Y:a<b)(l:b<=xs.length)(w:xs.length<=1000000000)(m:cf prog f caps R (λp:GP=>Value.agg (bG p).toArray) c ok)(o:∀x∈xs,ok x):
  Spec prog 340 [v,.int .i64 a,.int .i64 b,.func (.func f) #[] caps.toArray] R [] λu H'=>(∃(p:Nat) (t:Int),u=.tuple [.int .i64 p,.int .i64 t].toArray/\a<=p/\p<b)/\H'=[]:=by
 have iv:=h.aL
 obtain⟨n,U⟩:∃n,b=a+n:=⟨b-a,by omega⟩
 subst U
 obtain⟨q,A⟩:∃q,q=n/4:=⟨_,rfl⟩
 refine Spec.body func340 rfl results340 ntmps340 rfl ?_
 refine .sr<|.ag rfl<|.ag rfl<|.z<|.mo rfl<|.mo rfl ?_
 refine .ia (n) .sub ?_
 refine .ag rfl<|.z ?_
 refine .hK (λe=>?_)
 refine .z<|.mo rfl<|.mo rfl ?_
 refine .q (.i64 ((q:Nat):Int) .quo ⟨by rw[A,adt (by omega)];omega,by omega,by omega⟩) ?_
 refine .ia (q) .mul ?_
 refine .ia (a+q) .add ?_
 refine .ag rfl<|.z<|.mo rfl<|.mo rfl ?_
 refine .q (.i64 ((q:Nat):Int) .quo ⟨by rw[A,adt (by omega)];omega,by omega,by omega⟩) ?_
 refine .ia (q*2) .mul ?_
 refine .ia (a+q*2) .add ?_
 refine .ag rfl<|.z<|.mo rfl<|.mo rfl ?_
 refine .q (.i64 ((q:Nat):Int) .quo ⟨by rw[A,adt (by omega)];omega,by omega,by omega⟩) ?_
 refine .ia (q*3) .mul ?_
 refine .ia (a+q*3) .add ?_
 refine .ag rfl<|.zs ?_
 refine bp.cut (X:=Nat×Int) (λz=>a<=z.1/\z.1<a+n) (λz=>[(11,pT e),(13,iN z.1)]) (λz=>[bl e [.int .i64 z.2] 3]) ?_ ?_
 refine .sr<|.mo rfl<|.q .geq<|.zn ?_
 refine .cond rfl (λB=>?_) λB=>?_
 have a0:8<=n:=by have:=bo B;omega
 refine .seq ?_
 refine bp.cut (X:=Nat×Nat×Nat×Int) (λz=>(a<=z.1/\z.1<a+n)/\(a<=z.2.1/\z.2.1<a+n)/\(a<=z.2.2.1/\z.2.2.1<a+n)) (λz=>[(0,v),(3,.func (.func f) #[] caps.toArray),(11,pT e),(12,iN z.1),(13,iN z.2.1),(14,iN z.2.2.1)]) (λz=>[bl e [.int .i64 z.2.2.2] 3]) ?_ ?_
 refine .sr<|.mo rfl<|.q .geq<|.zn ?_
 refine .cond rfl (λC=>?_) λC=>?_
 have Z:50<=n:=by have:=bo C;omega
 refine .sr<|.mo rfl<|.mo rfl<|.mo rfl ?_
 refine .bb (eP v xs (a+q) a (a+n) e 0 _ h (by omega) l w m o) (λu r g=>?_)
 obtain⟨V,K,rfl,rfl,G⟩:=g
 refine .ag rfl<|.z<|.mo rfl<|.mo rfl<|.mo rfl ?_
 refine .bb (eP v xs (a+q*2) a (a+n) e V _ h (by omega) l w m o) (λu r g=>?_)
 obtain⟨W,L,rfl,rfl,H⟩:=g
 refine .az rfl<|.region<|.mo rfl<|.mo rfl<|.mo rfl ?_
 refine .bb (eP v xs (a+q*3) a (a+n) e W _ h (by omega) l w m o) (λu r g=>?_)
 obtain⟨O,M,rfl,rfl,I⟩:=g
 refine .ag rfl<|.nil ?_
 ·first
   |exact ax (K,L,M,O) ⟨G,H,I⟩ kE.c.c.c.c.c.c rH
   |exact ax (a+q,a+q*2,a+q*3,0) ⟨by simp only;omega,by simp only;omega,by simp only;omega⟩ kE.c.c.c.c.c.c rH
 refine .skip ?_
 ·first
   |exact ax (K,L,M,O) ⟨G,H,I⟩ kE.c.c.c.c.c.c rH
   |exact ax (a+q,a+q*2,a+q*3,0) ⟨by simp only;omega,by simp only;omega,by simp only;omega⟩ kE.c.c.c.c.c.c rH
 intro y d
 obtain⟨i,j,k,s⟩:=y
 obtain⟨D,E,F⟩:=d
 simp only at D E F⊢
 refine aD<|.region<|.mo rfl<|.mo rfl<|.mo rfl<|.mo rfl<|.mo rfl ?_
 refine .bb (fI v xs i j k a (a+n) e s _ h D E F l m o) (λu r g=>?_)
 obtain⟨Q,N,rfl,rfl,J⟩:=g
 refine .ag rfl<|.nil ?_
 ·first
   |exact ax (N,Q) J kE.c.c rH
   |exact ax (a+q*2,0) (by simp only;omega) kE.c.c rH
 refine .skip ?_
 ·first
   |exact ax (N,Q) J kE.c.c rH
   |exact ax (a+q*2,0) (by simp only;omega) kE.c.c rH
 intro y d
 obtain⟨p,s⟩:=y
 simp only at d⊢
 refine aD<|.sr<|.lo rfl<|.zn<|.block<|.sr<|.q .cA<|.az rfl ?_
 refine .cond rfl (λS=>?_) λS=>?_
 refine .sr<|.mo rfl<|.ag rfl<|.az rfl ?_
 refine .ret (bg (aZ _ (.two (.tmp rfl) (.tmp rfl)) (.none _) ?_))
 ·exact⟨⟨p,_,rfl,d.1,d.2⟩,rfl⟩
 refine .sr<|.q .cA<|.az rfl ?_
 refine .cond rfl (λT=>?_) λT=>?_
 refine .sr<|.mo rfl<|.ag rfl<|.az rfl ?_
 refine .ret (bg (aZ _ (.two (.tmp rfl) (.tmp rfl)) (.none _) ?_))
 ·exact⟨⟨p,_,rfl,d.1,d.2⟩,rfl⟩
 refine .sr<|.mo rfl<|.ag rfl<|.az rfl ?_
 refine .ret (bg (aZ _ (.two (.tmp rfl) (.tmp rfl)) (.none _) ?_))
 ·exact⟨⟨p,_,rfl,d.1,d.2⟩,rfl⟩
end
end SGC
namespace SGC
section
variable{c:GP->GP->Int}{ok:GP->Prop}{f:FuncId}{caps:List Value} [e:aI prog f]
theorem iP(v:Value)(xs:List GP)(T:ay)(a b m:Nat)(p:GP)(R:aA)(h:OS 137 9 bG v xs T)(b1:a<b)(hm:a<=m/\m<b)(C:xs[m]? =some p)(U:b<=xs.length)(hl:xs.length<=1000000000)(hf:cf prog f caps R (λp:GP=>Value.agg (bG p).toArray) c ok)(a0:∀x∈xs,ok x)(so:SO (ap c))
  (b7:∀(k:Nat) (x:GP),a<=k->k<b->xs[k]? =some x->ap c x p=false):
  Spec prog 343 [v,.int .i64 a,.int .i64 b,.int .i64 m,.func (.func f) #[] caps.toArray] R [T] λu H'=>∃T',H'=[T']/\∃ys mid,u=iN mid/\OS 137 9 bG v ys T'/\RP a b xs ys/\jG (ap c) ys a mid b p:=by
 have iv:=h.aL
 obtain⟨x0,E⟩:∃x,xs[a]? =some x:=⟨_,aC (by omega)⟩
 have a8:=a0 p (aF C)
 refine Spec.body func343 rfl results343 ntmps343 rfl ?_
 refine .sr<|.ag rfl<|.zs<|.bF [13,15] mixed ?_
 refine .tO 0 rfl .move<|.tO 1 rfl .move<|.tK 2 rfl .move<|.tK 3 rfl .move<|.tO 4 rfl .move<|.tO 5 rfl .move ?_
 refine RA.au 6 rfl (m) h C rfl rfl rfl (by kernel_rfl) (λd1=>?_)
 refine .tO 7 rfl (.aE rfl)<|.tO 8 rfl .move<|.tO 9 rfl .move ?_
 refine RA.au 10 rfl (a) h E rfl rfl rfl (by kernel_rfl) (λd2=>?_)
 refine .tO 11 rfl (.aE rfl) ?_
 refine RA.au 12 rfl (a) h E rfl rfl rfl (by kernel_rfl) (λd3=>?_)
 refine .sT 13 rfl ?_
 refine .bt (a) h E p (λa9 a1=>?_) (h.one _ (aF C))
 refine .nil (Next.mod rfl ?_)
 refine RA.au 14 rfl (m) h C rfl rfl rfl (by kernel_rfl) (λd4=>?_)
 refine .sT 15 rfl ?_
 obtain⟨zz,a2⟩:∃u,(xs.set (a) p)[m]? =some u:=⟨_,aC (by rw[adr];exact(ads.1 C).1)⟩
 refine .bt (m) a1 a2 x0 (λY K=>?_) (h.one _ (aF E))
 rw[<-bS E C]at K
 refine .nil (Next.mod rfl ?_)
 refine RA.nil (by kernel_rfl) ?_
 have b0:RP a b xs (bn xs a m):=(RP.refl xs).step (by omega) (by omega) (by omega) (by omega) (by omega)
 have b2:(bn xs a m)[a]? =some p:=by
  rw[cX (by omega) (by omega)]
  by_cases hk:a=m
  ·rw[if_pos hk,E, <-C, <-hk,E]
  ·rw[if_neg hk,if_pos rfl,C]
 refine aD<|.sr<|.mo rfl ?_
 refine .ia (a+1) .add ?_
 refine .mo rfl ?_
 refine .ia (b-1) .sub ?_
 refine .ag rfl<|.ag rfl<|.zs<|.block ?_
 refine .loop (X:=Nat×Nat×List GP×ay) (λy=>OS 137 9 bG v y.2.2.1 y.2.2.2/\RP a b xs y.2.2.1/\PQ (λx=> !ap c p x) y.2.2.1 a y.1 y.2.1 b p) (λy=>[(0,v),(1,iN a),(4,.func (.func f) #[] caps.toArray),(11,iN y.1),(12,iN y.2.1)]) (λy=>[y.2.2.2]) (λy=>y.2.1+1-y.1) (a+1,b-1,bn xs a m,Y) ⟨K,b0,.start b1 b2⟩ kE.c.c.c.c.c rH ?_
 rintro⟨i,j,ys,N⟩ ⟨r,D,G⟩
 simp only at r D G⊢
 have d0:=D.length
 have c4:=G.i0
 have c6:=G.ij
 have c8:=G.jb
 have a7:=G.at_
 refine .block<|.seq ?_
 refine bp.cut (X:=Nat) (λs=>i<=s/\PQ (λx=> !ap c p x) ys a s j b p/\∀x,s<=j->ys[s]? =some x->(!ap c p x)=false) (λs=>[(0,v),(1,iN a),(4,.func (.func f) #[] caps.toArray),(11,.int .i64 (s:Nat)),(12,iN j)]) (λ_=>[N]) ?_ ?_
 refine .block ?_
 refine .loop (X:=Nat) (λs=>i<=s/\PQ (λx=> !ap c p x) ys a s j b p) (λs=>[(0,v),(1,iN a),(4,.func (.func f) #[] caps.toArray),(11,.int .i64 (s:Nat)),(12,iN j)]) (λ_=>[N]) (λs=>j+1-s) i ⟨adq _,G⟩ kE.c.c.c.c.c rH ?_
 rintro A ⟨V,I⟩
 refine .seq<|.seq ?_
 refine .bQ 13 mixed (by kernel_rfl) ?_
 conv=>arg 6;dsimp only[List.take]
 refine .mo rfl<|.mo rfl<|.q .leq<|.mo rfl ?_
 refine .split (t:=34) rfl (λd=>?_) (λd=>?_)
 have b5:A<=j:=by have:=bo d;omega
 obtain⟨x2,L⟩:∃x,ys[A]? =some x:=⟨_,aC (by omega)⟩
 have c2:=a0 x2 (D.perm.mem_iff.1 (aF L))
 refine .gT d<|.mo rfl<|.gT d<|.mo rfl<|.gT d<|.mo rfl<|.gT d ?_
 refine .au a r a7 (λd5=>?_)
 refine .gT d<|.q (.aE rfl)<|.gT d<|.mo rfl<|.gT d<|.mo rfl<|.gT d ?_
 refine .au A r L (λd6=>?_)
 refine .gT d<|.q (.aE rfl)<|.nil<|.gT d ?_
 refine .cj (first:=[]) (captured:=caps) (vs:=[(λp:GP=>Value.agg (bG p).toArray) p,(λp:GP=>Value.agg (bG p).toArray) x2]) (hf p x2 a8 c2 _ (λb o U=>.inl U)) (λu hu=>?_)
 subst hu
 refine .gT d<|.q .lss<|.gT d<|.q .not<|.q (.bu d) ?_
 refine .zn ?_
 refine .cond rfl (λO=>?_) λO=>?_
 refine .kn<|.block<|.region<|.mo rfl ?_
 refine .ia (A+1) .add ?_
 refine .ag rfl<|.nil<|bi ?_
 ·exact aN (A+1) ⟨by omega,I.inc b5 L O⟩ (by omega) kE.c.c.c.c.c rH
 refine .exit<|aP<|aV<|aR ?_
 first
  |exact ax A ⟨V,I,λx g n=>by rw[L]at n;cases n;exact O⟩ kE.c.c.c.c.c rH
  |exact ax A ⟨V,I,λx g n=>by have:=aY d;omega⟩ kE.c.c.c.c.c rH
 refine .gF d<|.gF d<|.gF d<|.gF d<|.gF d<|.gF d<|.gF d<|.gF d<|.gF d<|.nil<|.gF d<|.gF d<|.gF d<|.q (.bq d) ?_
 refine .zn<|.bB<|.exit<|aP<|aV<|aR ?_
 first
  |exact ax A ⟨V,I,λx g n=>by rw[L]at n;cases n;exact O⟩ kE.c.c.c.c.c rH
  |exact ax A ⟨V,I,λx g n=>by have:=aY d;omega⟩ kE.c.c.c.c.c rH
 intro x g
 obtain⟨l,a4⟩:∃l,l=x:=⟨_,rfl⟩
 rw[<-a4]at g⊢
 clear a4 x
 obtain⟨c5,a3,c0⟩:=g
 refine aD<|.seq ?_
 refine bp.cut (X:=Nat) (λw=>w<=j/\PQ (λx=> !ap c p x) ys a l w b p/\∀x,l<=w->ys[w]? =some x->(!ap c p x)=true) (λw=>[(0,v),(1,iN a),(4,.func (.func f) #[] caps.toArray),(11,iN l),(12,.int .i64 (w:Nat))]) (λ_=>[N]) ?_ ?_
 refine .block ?_
 refine .loop (X:=Nat) (λw=>w<=j/\PQ (λx=> !ap c p x) ys a l w b p) (λw=>[(0,v),(1,iN a),(4,.func (.func f) #[] caps.toArray),(11,iN l),(12,.int .i64 (w:Nat))]) (λ_=>[N]) (λw=>w) j ⟨adq _,a3⟩ kE.c.c.c.c.c rH ?_
 rintro B ⟨W,J⟩
 have b4:=a3.i0
 refine .seq<|.seq ?_
 refine .bQ 13 mixed (by kernel_rfl) ?_
 conv=>arg 6;dsimp only[List.take]
 refine .mo rfl<|.mo rfl<|.q .leq<|.mo rfl ?_
 refine .split (t:=53) rfl (λe=>?_) (λe=>?_)
 have b6:l<=B:=by have:=bo e;omega
 obtain⟨H,M⟩:∃x,ys[B]? =some x:=⟨_,aC (by omega)⟩
 have c3:=a0 H (D.perm.mem_iff.1 (aF M))
 refine .gT e<|.mo rfl<|.gT e<|.mo rfl<|.gT e<|.mo rfl<|.gT e ?_
 refine .au a r a7 (λd7=>?_)
 refine .gT e<|.q (.aE rfl)<|.gT e<|.mo rfl<|.gT e<|.mo rfl<|.gT e ?_
 refine .au B r M (λd8=>?_)
 refine .gT e<|.q (.aE rfl)<|.nil<|.gT e ?_
 refine .cj (first:=[]) (captured:=caps) (vs:=[(λp:GP=>Value.agg (bG p).toArray) p,(λp:GP=>Value.agg (bG p).toArray) H]) (hf p H a8 c3 _ (λb o U=>.inl U)) (λu hu=>?_)
 subst hu
 refine .gT e<|.q .lss<|.q (.bu e) ?_
 refine .zn ?_
 refine .cond rfl (λQ=>?_) λQ=>?_
 refine .kn<|.block<|.region<|.mo rfl ?_
 refine .ia (B-1) .sub ?_
 refine .ag rfl<|.nil<|bi ?_
 ·have b8:ap c p H=true:=Q
  exact aN (B-1) ⟨by omega,J.dec b6 M (by rw[b8];rfl)⟩ (by omega) kE.c.c.c.c.c rH
 refine .exit<|aP<|aV<|aR ?_
 first
  |exact ax B ⟨W,J,λx g n=>by have hh:ap c p H=false:=Q;rw[M]at n;cases n;rw[hh];rfl⟩ kE.c.c.c.c.c rH
  |exact ax B ⟨W,J,λx g n=>by have:=aY e;omega⟩ kE.c.c.c.c.c rH
 refine .gF e<|.gF e<|.gF e<|.gF e<|.gF e<|.gF e<|.gF e<|.gF e<|.gF e<|.nil<|.gF e<|.gF e<|.q (.bq e) ?_
 refine .zn<|.bB<|.exit<|aP<|aV<|aR ?_
 first
  |exact ax B ⟨W,J,λx g n=>by have hh:ap c p H=false:=Q;rw[M]at n;cases n;rw[hh];rfl⟩ kE.c.c.c.c.c rH
  |exact ax B ⟨W,J,λx g n=>by have:=aY e;omega⟩ kE.c.c.c.c.c rH
 intro x g
 obtain⟨z,a5⟩:∃z,z=x:=⟨_,rfl⟩
 rw[<-a5]at g⊢
 clear a5 x
 obtain⟨c9,S,c1⟩:=g
 have b4:=S.i0
 have c7:=S.ij
 refine aD<|.seq<|.sr<|.mo rfl<|.mo rfl<|.q .gtr<|.zn ?_
 refine .cond rfl (λZ=>?_) λZ=>?_
 refine .exit (aP (dn (aV (aR ?_))))
 refine aD<|.sr<|.mo rfl<|.az rfl ?_
 refine .ret (aZ _ (.one (.tmp rfl)) rH ?_)
 ·have b3:z<l:=de Z
  exact⟨_,rfl,ys,l,rfl,r,D,S.kU so b3 (D.all (p:=λx=>ap c x p=false) b7)⟩
 have a6:l<=z:=by have:=aY Z;omega
 obtain⟨x,g⟩:∃x,ys[l]? =some x:=⟨_,aC (by omega)⟩
 obtain⟨y,F⟩:∃x,ys[z]? =some x:=⟨_,aC (by omega)⟩
 have b9:=S.sw a6 (by omega) g F (c0 x (by omega) g) (c1 y a6 F)
 refine .kn<|.seq<|.bF [13,15] mixed ?_
 refine .tO 0 rfl .move<|.tO 1 rfl .move<|.tK 2 rfl .move<|.tK 3 rfl .move<|.tO 4 rfl .move<|.tO 5 rfl .move ?_
 refine RA.au 6 rfl (z) r F rfl rfl rfl (by kernel_rfl) (λd9=>?_)
 refine .tO 7 rfl (.aE rfl)<|.tO 8 rfl .move<|.tO 9 rfl .move ?_
 refine RA.au 10 rfl (l) r g rfl rfl rfl (by kernel_rfl) (λe0=>?_)
 refine .tO 11 rfl (.aE rfl) ?_
 refine RA.au 12 rfl (l) r g rfl rfl rfl (by kernel_rfl) (λe1=>?_)
 refine .sT 13 rfl ?_
 refine .bt (l) r g y (λa9 a1=>?_) (r.one _ (aF F))
 refine .nil (Next.mod rfl ?_)
 refine RA.au 14 rfl (z) r F rfl rfl rfl (by kernel_rfl) (λe2=>?_)
 refine .sT 15 rfl ?_
 obtain⟨zz,a2⟩:∃u,(ys.set (l) y)[z]? =some u:=⟨_,aC (by rw[adr];exact(ads.1 F).1)⟩
 refine .bt (z) a1 a2 x (λY K=>?_) (r.one _ (aF g))
 rw[<-bS g F]at K
 refine .nil (Next.mod rfl ?_)
 refine RA.nil (by kernel_rfl) ?_
 refine aD<|.sr<|.mo rfl ?_
 refine .ia (l+1) .add ?_
 refine .az rfl<|.region<|.mo rfl ?_
 refine .ia (z-1) .sub ?_
 refine .ag rfl<|.nil<|bi ?_
 ·exact aN (l+1,z-1,bn ys l z,Y) ⟨K,D.step (by omega) (by omega) (by omega) (by omega) (by omega),b9.2⟩ (by simp only;omega) kE.c.c.c.c.c rH
theorem fJ(v:Value)(xs:List GP)(T:ay)(a b m:Nat)(p:GP)(R:aA)(h:OS 137 9 bG v xs T)(e0:a<b)(hm:a<=m/\m<b)(U:xs[m]? =some p)(S:b<=xs.length)(hl:xs.length<=1000000000)(hf:cf prog f caps R (λp:GP=>Value.agg (bG p).toArray) c ok)(b0:∀x∈xs,ok x)(so:SO (ap c)):
  Spec prog 344 [v,.int .i64 a,.int .i64 b,.int .i64 m,.func (.func f) #[] caps.toArray] R [T] λu H'=>∃T',H'=[T']/\∃ys mid z,u=.tuple [iN mid,.bool z].toArray/\OS 137 9 bG v ys T'/\RP a b xs ys/\Part (ap c) ys a mid b p:=by
 have iv:=h.aL
 obtain⟨x0,Z⟩:∃x,xs[a]? =some x:=⟨_,aC (by omega)⟩
 have c3:=b0 p (aF U)
 refine Spec.body func344 rfl results344 ntmps344 rfl ?_
 refine .sr<|.ag rfl<|.ag rfl<|.zs<|.bF [13,15] mixed ?_
 refine .tO 0 rfl .move<|.tO 1 rfl .move<|.tK 2 rfl .move<|.tK 3 rfl .move<|.tO 4 rfl .move<|.tO 5 rfl .move ?_
 refine RA.au 6 rfl (m) h U rfl rfl rfl (by kernel_rfl) (λk0=>?_)
 refine .tO 7 rfl (.aE rfl)<|.tO 8 rfl .move<|.tO 9 rfl .move ?_
 refine RA.au 10 rfl (a) h Z rfl rfl rfl (by kernel_rfl) (λk1=>?_)
 refine .tO 11 rfl (.aE rfl) ?_
 refine RA.au 12 rfl (a) h Z rfl rfl rfl (by kernel_rfl) (λk4=>?_)
 refine .sT 13 rfl ?_
 refine .bt (a) h Z p (λb7 J=>?_) (h.one _ (aF U))
 refine .nil (Next.mod rfl ?_)
 refine RA.au 14 rfl (m) h U rfl rfl rfl (by kernel_rfl) (λk5=>?_)
 refine .sT 15 rfl ?_
 obtain⟨zz,K⟩:∃u,(xs.set (a) p)[m]? =some u:=⟨_,aC (by rw[adr];exact(ads.1 U).1)⟩
 refine .bt (m) J K x0 (λV E=>?_) (h.one _ (aF Z))
 rw[<-bS Z U]at E
 refine .nil (Next.mod rfl ?_)
 refine RA.nil (by kernel_rfl) ?_
 have a4:RP a b xs (bn xs a m):=(RP.refl xs).step (by omega) (by omega) (by omega) (by omega) (by omega)
 have I:(bn xs a m)[a]? =some p:=by
  rw[cX (by omega) (by omega)]
  by_cases hk:a=m
  ·rw[if_pos hk,Z, <-U, <-hk,Z]
  ·rw[if_neg hk,if_pos rfl,U]
 obtain⟨D,d5⟩:∃D,D=bn xs a m:=⟨_,rfl⟩
 rw[<-d5]at E a4 I
 obtain⟨T0,d9⟩:∃T0,T0=V:=⟨_,rfl⟩
 rw[<-d9]at E⊢
 have h8:=a4.length
 have A:=E
 clear E
 have d8:PQ (λx=>ap c x p) D a (a+1) (b-1) b p:=.start e0 I
 clear d5
 refine aD<|.sr<|.mo rfl ?_
 refine .ia (a+1) .add ?_
 refine .mo rfl ?_
 refine .ia (b-1) .sub ?_
 refine .ag rfl<|.ag rfl<|.zs ?_
 refine bp.cut (X:=Nat) (λs=>PQ (λx=>ap c x p) D a s (b-1) b p/\∀x,s<=b-1->D[s]? =some x->ap c x p=false) (λs=>[(0,v),(1,iN a),(4,.func (.func f) #[] caps.toArray),(12,.int .i64 (s:Nat)),(13,.int .i64 ((b-1:Nat):Int))]) (λ_=>[T0]) ?_ ?_
 refine .block ?_
 refine .loop (X:=Nat) (λs=>PQ (λx=>ap c x p) D a s (b-1) b p) (λs=>[(0,v),(1,iN a),(4,.func (.func f) #[] caps.toArray),(12,.int .i64 (s:Nat)),(13,.int .i64 ((b-1:Nat):Int))]) (λ_=>[T0]) (λs=>b-s) (a+1) d8 kE.c.c.c.c.c rH ?_
 rintro L a6
 refine .seq<|.seq ?_
 refine .bQ 13 mixed (by kernel_rfl) ?_
 conv=>arg 6;dsimp only[List.take]
 refine .mo rfl<|.mo rfl<|.q .leq<|.mo rfl ?_
 refine .split (t:=35) rfl (λn=>?_) (λn=>?_)
 have e4:L<=b-1:=by have:=bo n;omega
 obtain⟨x2,b2⟩:∃x,D[L]? =some x:=⟨_,aC (by omega)⟩
 have f6:=b0 x2 (a4.perm.mem_iff.1 (aF b2))
 refine .gT n<|.mo rfl<|.gT n<|.mo rfl<|.gT n<|.mo rfl<|.gT n ?_
 refine .au L A b2 (λk6=>?_)
 refine .gT n<|.q (.aE rfl)<|.gT n<|.mo rfl<|.gT n<|.mo rfl<|.gT n ?_
 refine .au a A I (λk7=>?_)
 refine .gT n<|.q (.aE rfl)<|.nil<|.gT n ?_
 refine .cj (first:=[]) (captured:=caps) (vs:=[(λp:GP=>Value.agg (bG p).toArray) x2,(λp:GP=>Value.agg (bG p).toArray) p]) (hf x2 p f6 c3 _ (λb o S=>.inl S)) (λu Y=>?_)
 subst Y
 refine .gT n<|.q .lss<|.q (.bu n) ?_
 refine .zn ?_
 refine .cond rfl (λh1=>?_) λh1=>?_
 refine .kn<|.block<|.region<|.mo rfl ?_
 refine .ia (L+1) .add ?_
 refine .ag rfl<|.nil<|bi ?_
 ·exact aN (L+1) (a6.inc e4 b2 h1) (by omega) kE.c.c.c.c.c rH
 refine .exit<|aP<|aV<|aR ?_
 first
  |exact ax L ⟨a6,λx d e=>by rw[b2]at e;cases e;exact h1⟩ kE.c.c.c.c.c rH
  |exact ax L ⟨a6,λx d e=>by have:=aY n;omega⟩ kE.c.c.c.c.c rH
 refine .gF n<|.gF n<|.gF n<|.gF n<|.gF n<|.gF n<|.gF n<|.gF n<|.gF n<|.nil<|.gF n<|.gF n<|.q (.bq n) ?_
 refine .zn<|.bB<|.exit<|aP<|aV<|aR ?_
 first
  |exact ax L ⟨a6,λx d e=>by rw[b2]at e;cases e;exact h1⟩ kE.c.c.c.c.c rH
  |exact ax L ⟨a6,λx d e=>by have:=aY n;omega⟩ kE.c.c.c.c.c rH
 intro x d
 obtain⟨B,c7⟩:∃B,B=x:=⟨_,rfl⟩
 rw[<-c7]at d⊢
 clear c7 x
 obtain⟨c5,f2⟩:=d
 refine aD<|.seq ?_
 refine bp.cut (X:=Nat) (λr=>r<=b-1/\PQ (λx=>ap c x p) D a B r b p/\∀x,B<=r->D[r]? =some x->ap c x p=true) (λr=>[(0,v),(1,iN a),(4,.func (.func f) #[] caps.toArray),(12,iN B),(13,.int .i64 (r:Nat))]) (λ_=>[T0]) ?_ ?_
 refine .block ?_
 refine .loop (X:=Nat) (λr=>r<=b-1/\PQ (λx=>ap c x p) D a B r b p) (λr=>[(0,v),(1,iN a),(4,.func (.func f) #[] caps.toArray),(12,iN B),(13,.int .i64 (r:Nat))]) (λ_=>[T0]) (λr=>r) (b-1) ⟨adq _,c5⟩ kE.c.c.c.c.c rH ?_
 rintro M ⟨c0,a7⟩
 have e2:=c5.i0
 refine .seq<|.seq ?_
 refine .bQ 13 mixed (by kernel_rfl) ?_
 conv=>arg 6;dsimp only[List.take]
 refine .mo rfl<|.mo rfl<|.q .leq<|.mo rfl ?_
 refine .split (t:=53) rfl (λk=>?_) (λk=>?_)
 have e5:B<=M:=by have:=bo k;omega
 obtain⟨x4,b3⟩:∃x,D[M]? =some x:=⟨_,aC (by omega)⟩
 have f7:=b0 x4 (a4.perm.mem_iff.1 (aF b3))
 refine .gT k<|.mo rfl<|.gT k<|.mo rfl<|.gT k<|.mo rfl<|.gT k ?_
 refine .au M A b3 (λk8=>?_)
 refine .gT k<|.q (.aE rfl)<|.gT k<|.mo rfl<|.gT k<|.mo rfl<|.gT k ?_
 refine .au a A I (λk9=>?_)
 refine .gT k<|.q (.aE rfl)<|.nil<|.gT k ?_
 refine .cj (first:=[]) (captured:=caps) (vs:=[(λp:GP=>Value.agg (bG p).toArray) x4,(λp:GP=>Value.agg (bG p).toArray) p]) (hf x4 p f7 c3 _ (λb o S=>.inl S)) (λu Y=>?_)
 subst Y
 refine .gT k<|.q .lss<|.gT k<|.q .not<|.q (.bu k) ?_
 refine .zn ?_
 refine .cond rfl (λh2=>?_) λh2=>?_
 refine .kn<|.block<|.region<|.mo rfl ?_
 refine .ia (M-1) .sub ?_
 refine .ag rfl<|.nil<|bi ?_
 ·have e8:ap c x4 p=false:=by
   have d6:(!ap c x4 p)=true:=h2
   simpa using d6
  exact aN (M-1) ⟨by omega,a7.dec e5 b3 e8⟩ (by omega) kE.c.c.c.c.c rH
 refine .exit<|aP<|aV<|aR ?_
 first
  |exact ax M ⟨c0,a7,λx d e=>by
    have W:(!ap c x4 p)=false:=h2
    rw[b3]at e;cases e
    simpa using W⟩ kE.c.c.c.c.c rH
  |exact ax M ⟨c0,a7,λx d e=>by have:=aY k;omega⟩ kE.c.c.c.c.c rH
 refine .gF k<|.gF k<|.gF k<|.gF k<|.gF k<|.gF k<|.gF k<|.gF k<|.gF k<|.nil<|.gF k<|.gF k<|.gF k<|.q (.bq k) ?_
 refine .zn<|.bB<|.exit<|aP<|aV<|aR ?_
 first
  |exact ax M ⟨c0,a7,λx d e=>by
    have W:(!ap c x4 p)=false:=h2
    rw[b3]at e;cases e
    simpa using W⟩ kE.c.c.c.c.c rH
  |exact ax M ⟨c0,a7,λx d e=>by have:=aY k;omega⟩ kE.c.c.c.c.c rH
 intro x d
 obtain⟨w,c8⟩:∃w,w=x:=⟨_,rfl⟩
 rw[<-c8]at d⊢
 clear c8 x
 obtain⟨g9,b8,f3⟩:=d
 have e2:=b8.i0
 have g3:=b8.ij
 refine aD<|.seq<|.sr<|.mo rfl<|.mo rfl<|.q .gtr<|.zn ?_
 refine .cond rfl (λh3=>?_) λh3=>?_
 have e1:w<B:=de h3
 obtain⟨y,G⟩:∃x,D[w]? =some x:=⟨_,aC (by omega)⟩
 refine .seq<|.bF [13,15] mixed ?_
 refine .tO 0 rfl .move<|.tO 1 rfl .move<|.tK 2 rfl .move<|.tK 3 rfl .move<|.tO 4 rfl .move<|.tO 5 rfl .move ?_
 refine RA.au 6 rfl (a) A I rfl rfl rfl (by kernel_rfl) (λl0=>?_)
 refine .tO 7 rfl (.aE rfl)<|.tO 8 rfl .move<|.tO 9 rfl .move ?_
 refine RA.au 10 rfl (w) A G rfl rfl rfl (by kernel_rfl) (λl1=>?_)
 refine .tO 11 rfl (.aE rfl) ?_
 refine RA.au 12 rfl (w) A G rfl rfl rfl (by kernel_rfl) (λl2=>?_)
 refine .sT 13 rfl ?_
 refine .bt (w) A G p (λb7 J=>?_) (A.one _ (aF I))
 refine .nil (Next.mod rfl ?_)
 refine RA.au 14 rfl (a) A I rfl rfl rfl (by kernel_rfl) (λl3=>?_)
 refine .sT 15 rfl ?_
 obtain⟨zz,K⟩:∃u,(D.set (w) p)[a]? =some u:=⟨_,aC (by rw[adr];exact(ads.1 I).1)⟩
 refine .bt (a) J K y (λV E=>?_) (A.one _ (aF G))
 rw[<-bS G I]at E
 refine .nil (Next.mod rfl ?_)
 refine RA.nil (by kernel_rfl) ?_
 refine aD<|.sr<|.mo rfl<|.ag rfl<|.az rfl ?_
 refine .ret (aT (aZ _ (.two (.tmp rfl) (.tmp rfl)) rH ?_))
 ·exact⟨_,rfl,bn D w a,w,true,rfl,E,a4.step (by omega) (by omega) (by omega) (by omega) (by omega),b8.fin e1 (by omega)⟩
 have d1:B<=w:=by have:=aY h3;omega
 obtain⟨x,d⟩:∃x,D[B]? =some x:=⟨_,aC (by omega)⟩
 obtain⟨y,G⟩:∃x,D[w]? =some x:=⟨_,aC (by omega)⟩
 have f0:=b8.sw d1 (by omega) d G (f2 x (by omega) d) (f3 y d1 G)
 refine .kn<|.seq<|.bF [13,15] mixed ?_
 refine .tO 0 rfl .move<|.tO 1 rfl .move<|.tK 2 rfl .move<|.tK 3 rfl .move<|.tO 4 rfl .move<|.tO 5 rfl .move ?_
 refine RA.au 6 rfl (w) A G rfl rfl rfl (by kernel_rfl) (λl4=>?_)
 refine .tO 7 rfl (.aE rfl)<|.tO 8 rfl .move<|.tO 9 rfl .move ?_
 refine RA.au 10 rfl (B) A d rfl rfl rfl (by kernel_rfl) (λl5=>?_)
 refine .tO 11 rfl (.aE rfl) ?_
 refine RA.au 12 rfl (B) A d rfl rfl rfl (by kernel_rfl) (λl6=>?_)
 refine .sT 13 rfl ?_
 refine .bt (B) A d y (λb7 J=>?_) (A.one _ (aF G))
 refine .nil (Next.mod rfl ?_)
 refine RA.au 14 rfl (w) A G rfl rfl rfl (by kernel_rfl) (λi1=>?_)
 refine .sT 15 rfl ?_
 obtain⟨zz,K⟩:∃u,(D.set (B) y)[w]? =some u:=⟨_,aC (by rw[adr];exact(ads.1 G).1)⟩
 refine .bt (w) J K x (λV E=>?_) (A.one _ (aF d))
 rw[<-bS d G]at E
 refine .nil (Next.mod rfl ?_)
 refine RA.nil (by kernel_rfl) ?_
 refine aD<|.sr<|.mo rfl ?_
 refine .ia (B+1) .add ?_
 refine .ag rfl<|.z<|.mo rfl ?_
 refine .ia (w-1) .sub ?_
 refine .ag rfl<|.zs ?_
 refine bp.cut (X:=Nat×Nat×List GP×ay) (λy=>OS 137 9 bG v y.2.2.1 y.2.2.2/\RP a b xs y.2.2.1/\PQ (λx=>ap c x p) y.2.2.1 a y.1 y.2.1 b p/\y.2.1<y.1) (λy=>[(0,v),(1,iN a),(4,.func (.func f) #[] caps.toArray),(12,iN y.1),(13,iN y.2.1)]) (λy=>[y.2.2.2]) ?_ ?_
 refine .block ?_
 refine .loop (X:=Nat×Nat×List GP×ay) (λy=>OS 137 9 bG v y.2.2.1 y.2.2.2/\RP a b xs y.2.2.1/\PQ (λx=>ap c x p) y.2.2.1 a y.1 y.2.1 b p) (λy=>[(0,v),(1,iN a),(4,.func (.func f) #[] caps.toArray),(12,iN y.1),(13,iN y.2.1)]) (λy=>[y.2.2.2]) (λy=>y.2.1+1-y.1) (B+1,w-1,bn D B w,V) ⟨E,a4.step (by omega) (by omega) (by omega) (by omega) (by omega),f0.2⟩ kE.c.c.c.c.c rH ?_
 rintro⟨i,j,ys,T1⟩ ⟨F,a5,a2⟩
 simp only at F a5 a2⊢
 have h7:=a5.length
 have g0:=a2.i0
 have g2:=a2.ij
 have g7:=a2.jb
 have d4:=a2.at_
 refine .block<|.seq ?_
 refine bp.cut (X:=Nat) (λs=>i<=s/\PQ (λx=>ap c x p) ys a s j b p/\∀x,s<=j->ys[s]? =some x->ap c x p=false) (λs=>[(0,v),(1,iN a),(4,.func (.func f) #[] caps.toArray),(12,.int .i64 (s:Nat)),(13,iN j)]) (λ_=>[T1]) ?_ ?_
 refine .block ?_
 refine .loop (X:=Nat) (λs=>i<=s/\PQ (λx=>ap c x p) ys a s j b p) (λs=>[(0,v),(1,iN a),(4,.func (.func f) #[] caps.toArray),(12,.int .i64 (s:Nat)),(13,iN j)]) (λ_=>[T1]) (λs=>j+1-s) i ⟨adq _,a2⟩ kE.c.c.c.c.c rH ?_
 rintro N ⟨c1,a8⟩
 refine .seq<|.seq ?_
 refine .bQ 13 mixed (by kernel_rfl) ?_
 conv=>arg 6;dsimp only[List.take]
 refine .mo rfl<|.mo rfl<|.q .leq<|.mo rfl ?_
 refine .split (t:=108) rfl (λl=>?_) (λl=>?_)
 have e6:N<=j:=by have:=bo l;omega
 obtain⟨x6,b4⟩:∃x,ys[N]? =some x:=⟨_,aC (by omega)⟩
 have f8:=b0 x6 (a5.perm.mem_iff.1 (aF b4))
 refine .gT l<|.mo rfl<|.gT l<|.mo rfl<|.gT l<|.mo rfl<|.gT l ?_
 refine .au N F b4 (λi4=>?_)
 refine .gT l<|.q (.aE rfl)<|.gT l<|.mo rfl<|.gT l<|.mo rfl<|.gT l ?_
 refine .au a F d4 (λi5=>?_)
 refine .gT l<|.q (.aE rfl)<|.nil<|.gT l ?_
 refine .cj (first:=[]) (captured:=caps) (vs:=[(λp:GP=>Value.agg (bG p).toArray) x6,(λp:GP=>Value.agg (bG p).toArray) p]) (hf x6 p f8 c3 _ (λb o S=>.inl S)) (λu Y=>?_)
 subst Y
 refine .gT l<|.q .lss<|.q (.bu l) ?_
 refine .zn ?_
 refine .cond rfl (λh4=>?_) λh4=>?_
 refine .kn<|.block<|.region<|.mo rfl ?_
 refine .ia (N+1) .add ?_
 refine .ag rfl<|.nil<|bi ?_
 ·exact aN (N+1) ⟨by omega,a8.inc e6 b4 h4⟩ (by omega) kE.c.c.c.c.c rH
 refine .exit<|aP<|aV<|aR ?_
 first
  |exact ax N ⟨c1,a8,λx d e=>by rw[b4]at e;cases e;exact h4⟩ kE.c.c.c.c.c rH
  |exact ax N ⟨c1,a8,λx d e=>by have:=aY l;omega⟩ kE.c.c.c.c.c rH
 refine .gF l<|.gF l<|.gF l<|.gF l<|.gF l<|.gF l<|.gF l<|.gF l<|.gF l<|.nil<|.gF l<|.gF l<|.q (.bq l) ?_
 refine .zn<|.bB<|.exit<|aP<|aV<|aR ?_
 first
  |exact ax N ⟨c1,a8,λx d e=>by rw[b4]at e;cases e;exact h4⟩ kE.c.c.c.c.c rH
  |exact ax N ⟨c1,a8,λx d e=>by have:=aY l;omega⟩ kE.c.c.c.c.c rH
 intro x d
 obtain⟨C,d0⟩:∃C,C=x:=⟨_,rfl⟩
 rw[<-d0]at d⊢
 clear d0 x
 obtain⟨g6,c6,f4⟩:=d
 refine aD<|.seq ?_
 refine bp.cut (X:=Nat) (λr=>r<=j/\PQ (λx=>ap c x p) ys a C r b p/\∀x,C<=r->ys[r]? =some x->ap c x p=true) (λr=>[(0,v),(1,iN a),(4,.func (.func f) #[] caps.toArray),(12,iN C),(13,.int .i64 (r:Nat))]) (λ_=>[T1]) ?_ ?_
 refine .block ?_
 refine .loop (X:=Nat) (λr=>r<=j/\PQ (λx=>ap c x p) ys a C r b p) (λr=>[(0,v),(1,iN a),(4,.func (.func f) #[] caps.toArray),(12,iN C),(13,.int .i64 (r:Nat))]) (λ_=>[T1]) (λr=>r) j ⟨adq _,c6⟩ kE.c.c.c.c.c rH ?_
 rintro O ⟨c2,a9⟩
 have e3:=c6.i0
 refine .seq<|.seq ?_
 refine .bQ 13 mixed (by kernel_rfl) ?_
 conv=>arg 6;dsimp only[List.take]
 refine .mo rfl<|.mo rfl<|.q .leq<|.mo rfl ?_
 refine .split (t:=126) rfl (λg=>?_) (λg=>?_)
 have e7:C<=O:=by have:=bo g;omega
 obtain⟨x7,b5⟩:∃x,ys[O]? =some x:=⟨_,aC (by omega)⟩
 have f9:=b0 x7 (a5.perm.mem_iff.1 (aF b5))
 refine .gT g<|.mo rfl<|.gT g<|.mo rfl<|.gT g<|.mo rfl<|.gT g ?_
 refine .au O F b5 (λi6=>?_)
 refine .gT g<|.q (.aE rfl)<|.gT g<|.mo rfl<|.gT g<|.mo rfl<|.gT g ?_
 refine .au a F d4 (λi7=>?_)
 refine .gT g<|.q (.aE rfl)<|.nil<|.gT g ?_
 refine .cj (first:=[]) (captured:=caps) (vs:=[(λp:GP=>Value.agg (bG p).toArray) x7,(λp:GP=>Value.agg (bG p).toArray) p]) (hf x7 p f9 c3 _ (λb o S=>.inl S)) (λu Y=>?_)
 subst Y
 refine .gT g<|.q .lss<|.gT g<|.q .not<|.q (.bu g) ?_
 refine .zn ?_
 refine .cond rfl (λh5=>?_) λh5=>?_
 refine .kn<|.block<|.region<|.mo rfl ?_
 refine .ia (O-1) .sub ?_
 refine .ag rfl<|.nil<|bi ?_
 ·have e9:ap c x7 p=false:=by
   have d7:(!ap c x7 p)=true:=h5
   simpa using d7
  exact aN (O-1) ⟨by omega,a9.dec e7 b5 e9⟩ (by omega) kE.c.c.c.c.c rH
 refine .exit<|aP<|aV<|aR ?_
 first
  |exact ax O ⟨c2,a9,λx d e=>by
    have W:(!ap c x7 p)=false:=h5
    rw[b5]at e;cases e
    simpa using W⟩ kE.c.c.c.c.c rH
  |exact ax O ⟨c2,a9,λx d e=>by have:=aY g;omega⟩ kE.c.c.c.c.c rH
 refine .gF g<|.gF g<|.gF g<|.gF g<|.gF g<|.gF g<|.gF g<|.gF g<|.gF g<|.nil<|.gF g<|.gF g<|.gF g<|.q (.bq g) ?_
 refine .zn<|.bB<|.exit<|aP<|aV<|aR ?_
 first
  |exact ax O ⟨c2,a9,λx d e=>by
    have W:(!ap c x7 p)=false:=h5
    rw[b5]at e;cases e
    simpa using W⟩ kE.c.c.c.c.c rH
  |exact ax O ⟨c2,a9,λx d e=>by have:=aY g;omega⟩ kE.c.c.c.c.c rH
 intro x d
 obtain⟨H,d3⟩:∃H,H=x:=⟨_,rfl⟩
 rw[<-d3]at d⊢
 clear d3 x
 obtain⟨h0,b9,f5⟩:=d
 have e3:=b9.i0
 have g4:=b9.ij
 refine aD<|.seq<|.sr<|.mo rfl<|.mo rfl<|.q .gtr<|.zn ?_
 refine .cond rfl (λh6=>?_) λh6=>?_
 refine .exit (aP (dn (aV (aR ?_))))
 exact ax (C,H,ys,T1) ⟨F,a5,b9,by have:=bo h6;simp only;omega⟩ kE.c.c.c.c.c rH
 have d2:C<=H:=by have:=aY h6;omega
 obtain⟨x8,a0⟩:∃x,ys[C]? =some x:=⟨_,aC (by omega)⟩
 obtain⟨y8,a1⟩:∃x,ys[H]? =some x:=⟨_,aC (by omega)⟩
 have f1:=b9.sw d2 (by omega) a0 a1 (f4 x8 (by omega) a0) (f5 y8 d2 a1)
 refine .kn<|.seq<|.bF [13,15] mixed ?_
 refine .tO 0 rfl .move<|.tO 1 rfl .move<|.tK 2 rfl .move<|.tK 3 rfl .move<|.tO 4 rfl .move<|.tO 5 rfl .move ?_
 refine RA.au 6 rfl (H) F a1 rfl rfl rfl (by kernel_rfl) (λi8=>?_)
 refine .tO 7 rfl (.aE rfl)<|.tO 8 rfl .move<|.tO 9 rfl .move ?_
 refine RA.au 10 rfl (C) F a0 rfl rfl rfl (by kernel_rfl) (λj0=>?_)
 refine .tO 11 rfl (.aE rfl) ?_
 refine RA.au 12 rfl (C) F a0 rfl rfl rfl (by kernel_rfl) (λj1=>?_)
 refine .sT 13 rfl ?_
 refine .bt (C) F a0 y8 (λb7 J=>?_) (F.one _ (aF a1))
 refine .nil (Next.mod rfl ?_)
 refine RA.au 14 rfl (H) F a1 rfl rfl rfl (by kernel_rfl) (λj4=>?_)
 refine .sT 15 rfl ?_
 obtain⟨zz,K⟩:∃u,(ys.set (C) y8)[H]? =some u:=⟨_,aC (by rw[adr];exact(ads.1 a1).1)⟩
 refine .bt (H) J K x8 (λV E=>?_) (F.one _ (aF a0))
 rw[<-bS a0 a1]at E
 refine .nil (Next.mod rfl ?_)
 refine RA.nil (by kernel_rfl) ?_
 refine aD<|.sr<|.mo rfl ?_
 refine .ia (C+1) .add ?_
 refine .az rfl<|.region<|.mo rfl ?_
 refine .ia (H-1) .sub ?_
 refine .ag rfl<|.nil<|bi ?_
 ·exact aN (C+1,H-1,bn ys C H,V) ⟨E,a5.step (by omega) (by omega) (by omega) (by omega) (by omega),f1.2⟩ (by simp only;omega) kE.c.c.c.c.c rH
 intro x d
 obtain⟨i9,j9,zs,T9⟩:=x
 obtain⟨Q,c4,a3,c9⟩:=d
 simp only at Q c4 a3 c9⊢
 have h9:=c4.length
 have g5:=a3.ij
 have g1:=a3.i0
 have g8:=a3.jb
 have b1:=a3.at_
 obtain⟨y9,b6⟩:∃x,zs[j9]? =some x:=⟨_,aC (by omega)⟩
 refine aD<|.seq<|.bF [13,15] mixed ?_
 refine .tO 0 rfl .move<|.tO 1 rfl .move<|.tK 2 rfl .move<|.tK 3 rfl .move<|.tO 4 rfl .move<|.tO 5 rfl .move ?_
 refine RA.au 6 rfl (a) Q b1 rfl rfl rfl (by kernel_rfl) (λj5=>?_)
 refine .tO 7 rfl (.aE rfl)<|.tO 8 rfl .move<|.tO 9 rfl .move ?_
 refine RA.au 10 rfl (j9) Q b6 rfl rfl rfl (by kernel_rfl) (λj6=>?_)
 refine .tO 11 rfl (.aE rfl) ?_
 refine RA.au 12 rfl (j9) Q b6 rfl rfl rfl (by kernel_rfl) (λj7=>?_)
 refine .sT 13 rfl ?_
 refine .bt (j9) Q b6 p (λb7 J=>?_) (Q.one _ (aF b1))
 refine .nil (Next.mod rfl ?_)
 refine RA.au 14 rfl (a) Q b1 rfl rfl rfl (by kernel_rfl) (λj8=>?_)
 refine .sT 15 rfl ?_
 obtain⟨zz,K⟩:∃u,(zs.set (j9) p)[a]? =some u:=⟨_,aC (by rw[adr];exact(ads.1 b1).1)⟩
 refine .bt (a) J K y9 (λV E=>?_) (Q.one _ (aF b6))
 rw[<-bS b6 b1]at E
 refine .nil (Next.mod rfl ?_)
 refine RA.nil (by kernel_rfl) ?_
 refine aD<|.sr<|.mo rfl<|.ag rfl<|.az rfl ?_
 refine .ret (aZ _ (.two (.tmp rfl) (.tmp rfl)) rH ?_)
 ·exact⟨_,rfl,bn zs j9 a,j9,false,rfl,E,c4.step (by omega) (by omega) (by omega) (by omega) (by omega),a3.fin c9 (by omega)⟩
end
end SGC
namespace SGC
section
variable{c:GP->GP->Int}{ok:GP->Prop}{f:FuncId}{caps:List Value} [e:aI prog f]
def fD(c:GP->GP->Int)(ok:GP->Prop)(f:FuncId)(caps:List Value)(n:Nat):Prop:=∀(v:Value) (xs:List GP) (T:ay) (a b lim:Nat) (R:aA),OS 137 9 bG v xs T->a<=b->b<=xs.length->xs.length<=1000000000->lim<=1000000000->cf prog f caps R (λp:GP=>Value.agg (bG p).toArray) c ok->(∀x∈xs,ok x)->LB (ap c) xs a b->b-a<n->
  Spec prog 236 [v,.int .i64 a,.int .i64 b,.int .i64 lim,.func (.func f) #[] caps.toArray] R [T] λu H'=>∃T',H'=[T']/\u=.tuple #[]/\∃ys,OS 137 9 bG v ys T'/\RP a b xs ys/\SR (ap c) ys a b
theorem iS(n:Nat)(ih:fD c ok f caps n)(D:SO (ap c))(v:Value)(xs:List GP)(T:ay)(H F c7:Nat)(R:aA)(h:OS 137 9 bG v xs T)(d6:H<=F)(hb:F<=xs.length)(hl:xs.length<=1000000000)(e0:c7<=1000000000)(O:cf prog f caps R (λp:GP=>Value.agg (bG p).toArray) c ok)(e2:∀x∈xs,ok x)(d8:LB (ap c) xs H F)(hn:F-H<n+1):
  Spec prog 236 [v,.int .i64 H,.int .i64 F,.int .i64 c7,.func (.func f) #[] caps.toArray] R [T] λu H'=>∃T',H'=[T']/\u=.tuple #[]/\∃ys,OS 137 9 bG v ys T'/\RP H F xs ys/\SR (ap c) ys H F:=by
 have iv:=h.aL
 refine Spec.body func236 rfl results236 ntmps236 rfl ?_
 refine .sr<|.ag rfl<|.z<|.az rfl<|.block ?_
 refine .loop (X:=Nat×Nat×Nat×Bool×Bool×List GP×ay) (λy=>(H<=y.1/\y.1<=y.2.1/\y.2.1<=F/\y.2.2.1<=1000000000)/\OS 137 9 bG v y.2.2.2.2.2.1 y.2.2.2.2.2.2/\RP H F xs y.2.2.2.2.2.1/\OX (ap c) y.2.2.2.2.2.1 H F y.1 y.2.1) (λy=>[(0,v),(1,iN y.1),(2,iN y.2.1),(3,iN y.2.2.1),(4,.func (.func f) #[] caps.toArray),(10,.bool y.2.2.2.1),(11,.bool y.2.2.2.2.1)]) (λy=>[y.2.2.2.2.2.2]) (λy=>y.2.1-y.1) (H,F,c7,true,true,xs,T) ⟨⟨adq _,d6,adq _,e0⟩,h,.refl _,.start⟩ kE.c.c.c.c.c.c.c rH ?_
 rintro⟨a,b,l,wb,wp,ys,T1⟩ ⟨⟨e,c1,g,d7⟩,b1,U,Z⟩
 simp only at e c1 g d7 b1 U Z⊢
 have f0:=U.length
 have b8:∀x∈ys,ok x:=λx W=>e2 x (U.perm.mem_iff.1 W)
 have d1:=Z.lb (d8.rp U) e g
 refine .block<|.sr<|.mo rfl<|.mo rfl ?_
 refine .ia (b-a) .sub ?_
 refine .ag rfl<|.zs<|.sr<|.mo rfl<|.q .leq<|.zn ?_
 refine .cond rfl (λh1=>?_) λh1=>?_
 refine .sr<|.mo rfl<|.mo rfl<|.mo rfl<|.mo rfl ?_
 refine .bb (iJ v ys T1 a b _ b1 c1 (by omega) (by omega) O b8 D) (λu T2 k=>?_)
 obtain⟨rfl,N,I,B,c0⟩:=k
 refine .zn ?_
 refine .ret (aT (bg (cc (bg (aZ _ .none rH ?_)))))
 ·first
   |exact⟨_,rfl,rfl,N,I,U.trans (B.mono e g (by omega)),(Z.rp B e g).cZ c0⟩
   |exact⟨_,rfl,rfl,ms,a2,U.trans ((C.trans Y).mono e g (by omega)),(Z.rp (C.trans Y) e g).cZ (c4 (by assumption))⟩
 have f4:12<b-a:=by have:=aY h1;omega
 refine .kn<|.seq<|.sr<|.mo rfl<|.q .cA<|.zn ?_
 refine .cond rfl (λh2=>?_) λh2=>?_
 refine .sr<|.mo rfl<|.mo rfl<|.mo rfl<|.mo rfl ?_
 refine .bb (iI v ys T1 a b _ b1 c1 (by omega) (by omega) O b8 D) (λu T2 k=>?_)
 obtain⟨rfl,N,I,B,c0⟩:=k
 refine .zn ?_
 refine .ret (aT (bg (cc (bg (aZ _ .none rH ?_)))))
 ·first
   |exact⟨_,rfl,rfl,N,I,U.trans (B.mono e g (by omega)),(Z.rp B e g).cZ c0⟩
   |exact⟨_,rfl,rfl,ms,a2,U.trans ((C.trans Y).mono e g (by omega)),(Z.rp (C.trans Y) e g).cZ (c4 (by assumption))⟩
 have e9:0<l:=by
  have e8:¬((l:Int)=0):=by simpa using h2
  omega
 refine .kn<|.seq ?_
 refine bp.cut (X:=Nat×List GP×ay) (λz=>z.1<=1000000000/\OS 137 9 bG v z.2.1 z.2.2/\RP a b ys z.2.1) (λz=>[(0,v),(1,iN a),(2,iN b),(3,iN z.1),(4,.func (.func f) #[] caps.toArray),(10,.bool wb),(11,.bool wp),(12,.int .i64 ((b-a:Nat):Int))]) (λz=>[z.2.2]) ?_ ?_
 refine .sr<|.mo rfl<|.q .not<|.zn ?_
 refine .cond rfl (λh3=>?_) λh3=>?_
 refine .sr<|.mo rfl<|.mo rfl<|.mo rfl<|.mo rfl ?_
 refine .bb (iF v ys T1 a b _ (.func (.func f) #[] caps.toArray) inferInstance b1 c1 (by omega) (by omega)) (λu T2 k=>?_)
 obtain⟨rfl,N,I,B⟩:=k
 refine .zn<|.region<|.mo rfl ?_
 refine .ia (l-1) .sub ?_
 refine .ag rfl<|.nil ?_
 ·first
   |exact ax (l-1,N,T2) ⟨by simp only;omega,I,B⟩ kE.c.c.c.c.c.c.c.c rH
   |exact ax (l,ys,T1) ⟨by simp only;omega,b1,.refl _⟩ kE.c.c.c.c.c.c.c.c rH
 refine .skip ?_
 ·first
   |exact ax (l-1,N,T2) ⟨by simp only;omega,I,B⟩ kE.c.c.c.c.c.c.c.c rH
   |exact ax (l,ys,T1) ⟨by simp only;omega,b1,.refl _⟩ kE.c.c.c.c.c.c.c.c rH
 intro y hy
 obtain⟨r,N,T2⟩:=y
 obtain⟨s,I,B⟩:=hy
 simp only at s I B⊢
 have f1:=B.length
 have e3:∀x∈N,ok x:=λx W=>b8 x (B.perm.mem_iff.1 W)
 refine aD<|.sr<|.mo rfl<|.mo rfl<|.mo rfl<|.mo rfl ?_
 refine .bc (choose_spec v N a b _ (I.rs λp hp=>.inr (by simpa using hp)) (by omega) (by omega) (by omega) (O.mono λb o hb=>.inl hb) e3) (λu k=>?_)
 obtain⟨pv,d0,rfl,d2,d3⟩:=k
 refine .mo rfl<|.q .extract<|.q .extract<|.ag rfl<|.ag rfl<|.zs ?_
 refine bp.cut (X:=Nat×Int×List GP×ay) (λz=>(a<=z.1/\z.1<b)/\OS 137 9 bG v z.2.2.1 z.2.2.2/\RP a b ys z.2.2.1) (λz=>[(0,v),(1,iN a),(2,iN b),(3,iN r),(4,.func (.func f) #[] caps.toArray),(10,.bool wb),(11,.bool wp),(12,.int .i64 ((b-a:Nat):Int)),(13,iN z.1),(14,.int .i64 z.2.1)]) (λz=>[z.2.2.2]) ?_ ?_
 refine .sr<|.mo rfl<|.q .cA<|.zn ?_
 refine .cond rfl (λh4=>?_) λh4=>?_
 refine .sr<|.mo rfl<|.mo rfl<|.mo rfl<|.mo rfl ?_
 refine .bb (iT v N T2 a b _ (.func (.func f) #[] caps.toArray) inferInstance I (by omega) (by omega) (by omega)) (λu T3 k=>?_)
 obtain⟨rfl,ws,c8,c9⟩:=k
 refine .z<|.mo rfl ?_
 refine .ia (b-1) .sub ?_
 refine .mo rfl<|.mo rfl ?_
 refine .ia (pv-a) .sub ?_
 refine .ia ((b-1)-(pv-a)) .sub ?_
 refine .az rfl<|.region<|.ag rfl<|.nil ?_
 ·first
   |exact ax ((b-1)-(pv-a),1,ws,T3) ⟨by simp only;omega,c8,B.trans c9⟩ kE.c.c.c.c.c.c.c.c.c.c rH
   |exact ax (pv,d0,N,T2) ⟨⟨d2,d3⟩,I,B⟩ kE.c.c.c.c.c.c.c.c.c.c rH
 refine .skip ?_
 ·first
   |exact ax ((b-1)-(pv-a),1,ws,T3) ⟨by simp only;omega,c8,B.trans c9⟩ kE.c.c.c.c.c.c.c.c.c.c rH
   |exact ax (pv,d0,N,T2) ⟨⟨d2,d3⟩,I,B⟩ kE.c.c.c.c.c.c.c.c.c.c rH
 intro y hy
 obtain⟨q,f5,us,T4⟩:=y
 obtain⟨⟨c2,c3⟩,b2,C⟩:=hy
 simp only at c2 c3 b2 C⊢
 have f2:=C.length
 have e4:∀x∈us,ok x:=λx W=>b8 x (C.perm.mem_iff.1 W)
 refine aD<|.seq ?_
 refine bp.cut (X:=List GP×ay) (λz=>OS 137 9 bG v z.1 z.2/\RP a b ys z.1) (λz=>[(0,v),(1,iN a),(2,iN b),(3,iN r),(4,.func (.func f) #[] caps.toArray),(10,.bool wb),(11,.bool wp),(12,.int .i64 ((b-a:Nat):Int)),(13,iN q)]) (λz=>[z.2]) ?_ ?_
 refine .sr<|.mo rfl<|.mo rfl ?_
 refine .split (t:=69) rfl (λb5=>?_) (λb5=>?_)
 refine .gT b5<|.mo rfl<|.q (.bu b5) ?_
 refine .mo rfl ?_
 refine .split (t:=72) rfl (λa1=>?_) (λa1=>?_)
 refine .gT a1<|.mo rfl<|.gT a1<|.q .cA<|.q (.bu a1) ?_
 refine .zn ?_
 refine .cond rfl (λh5=>?_) λh5=>?_
 refine .sr<|.mo rfl<|.mo rfl<|.mo rfl<|.mo rfl ?_
 refine .bb (iQ v us T4 a b _ b2 (by omega) (by omega) (by omega) O e4 D (d1.rp C)) (λu T5 k=>?_)
 obtain⟨ms,mb,rfl,a2,Y,c4⟩:=k
 refine .zn ?_
 refine .cond rfl (λh6=>?_) λh6=>?_
 refine .ret (kZ (aT (bg (cc (bg (aZ _ .none rH ?_))))))
 ·first
   |exact⟨_,rfl,rfl,N,I,U.trans (B.mono e g (by omega)),(Z.rp B e g).cZ c0⟩
   |exact⟨_,rfl,rfl,ms,a2,U.trans ((C.trans Y).mono e g (by omega)),(Z.rp (C.trans Y) e g).cZ (c4 (by assumption))⟩
 refine .skip ?_
 ·first
   |exact ax (ms,T5) ⟨a2,C.trans Y⟩ kE.c.c.c.c.c.c.c.c.c rH
   |exact ax (us,T4) ⟨b2,C⟩ kE.c.c.c.c.c.c.c.c.c rH
 refine .skip ?_
 ·first
   |exact ax (ms,T5) ⟨a2,C.trans Y⟩ kE.c.c.c.c.c.c.c.c.c rH
   |exact ax (us,T4) ⟨b2,C⟩ kE.c.c.c.c.c.c.c.c.c rH
 refine .gF a1<|.gF a1<|.q (.bq a1) ?_
 refine .zn<|.bB<|.skip ?_
 ·first
   |exact ax (ms,T5) ⟨a2,C.trans Y⟩ kE.c.c.c.c.c.c.c.c.c rH
   |exact ax (us,T4) ⟨b2,C⟩ kE.c.c.c.c.c.c.c.c.c rH
 refine .gF b5<|.q (.bq b5) ?_
 refine .mo rfl<|.gX<|.gX<|.q .dv<|.zn<|.bB<|.skip ?_
 ·first
   |exact ax (ms,T5) ⟨a2,C.trans Y⟩ kE.c.c.c.c.c.c.c.c.c rH
   |exact ax (us,T4) ⟨b2,C⟩ kE.c.c.c.c.c.c.c.c.c rH
 intro y hy
 obtain⟨a9,T6⟩:=y
 obtain⟨b3,b4⟩:=hy
 simp only at b3 b4⊢
 have f3:=b4.length
 have a8:∀x∈a9,ok x:=λx W=>b8 x (b4.perm.mem_iff.1 W)
 have a3:RP H F xs a9:=U.trans (b4.mono e g (by omega))
 have a5:=Z.rp b4 e g
 have c5:=d1.rp b4
 obtain⟨p,hp⟩:∃x,a9[q]? =some x:=⟨_,aC (by omega)⟩
 have e5:=a8 p (aF hp)
 refine aD<|.seq<|.seq ?_
 refine .bQ 13 mixed (by kernel_rfl) ?_
 conv=>arg 6;dsimp only[List.take]
 refine .mo rfl<|.q .gtr<|.mo rfl ?_
 refine .split (t:=83) rfl (λi=>?_) (λi=>?_)
 have d5:0<a:=by have:=bo i;omega
 obtain⟨w,hw⟩:∃x,a9[a-1]? =some x:=⟨_,aC (by omega)⟩
 have e6:=a8 w (aF hw)
 refine .gT i<|.mo rfl<|.gT i<|.mo rfl<|.gT i<|.mo rfl<|.gT i ?_
 refine .ia (a-1) .sub ?_
 refine .gT i ?_
 refine .au (a-1) b3 hw (λf6=>?_)
 refine .gT i<|.q (.aE rfl)<|.gT i<|.mo rfl<|.gT i<|.mo rfl<|.gT i ?_
 refine .au q b3 hp (λf7=>?_)
 refine .gT i<|.q (.aE rfl)<|.nil<|.gT i ?_
 refine .cj (first:=[]) (captured:=caps) (vs:=[(λp:GP=>Value.agg (bG p).toArray) w,(λp:GP=>Value.agg (bG p).toArray) p]) (O w p e6 e5 _ (λb o hb=>.inl hb)) (λu k=>?_)
 subst k
 refine .gT i<|.q .lss<|.gT i<|.q .not<|.q (.bu i) ?_
 refine .zn ?_
 refine .cond rfl (λh7=>?_) λh7=>?_
 have e1:ap c w p=false:=by
  have d4:(!ap c w p)=true:=h7
  simpa using d4
 refine .sr<|.mo rfl<|.mo rfl<|.mo rfl<|.mo rfl<|.mo rfl ?_
 refine .bb (iP v a9 T6 a b q p _ b3 (by omega) ⟨c2,c3⟩ hp (by omega) (by omega) O a8 D (c5.lc D d5 hw e1)) (λu Q k=>?_)
 obtain⟨E,j,rfl,S,m,A⟩:=k
 have a7:=A.lo
 have a6:=A.hi
 refine .ag rfl<|.z<|.mo rfl<|.az rfl<|.exit<|aP<|aR ?_
 ·first
   |exact aN (j+1,b,r,_,_,M,G) ⟨⟨by simp only;omega,by simp only;omega,by simp only;omega,s⟩,J,K,L⟩ (by simp only;omega) (((((((kE.d rfl).d rfl).d rfl).d rfl).d rfl).d rfl).d rfl) rH
   |exact aN (a,j,r,_,_,M,G) ⟨⟨e,a7,by simp only;omega,s⟩,J,K,L⟩ (by simp only;omega) (((((((kE.d rfl).d rfl).d rfl).d rfl).d rfl).d rfl).d rfl) rH
   |exact aN (j,b,r,_,_,E,Q) ⟨⟨by simp only;omega,a6,g,s⟩,S,a3.trans (m.mono e g (by omega)),(a5.rp m e g).eqs D A⟩ (by simp only;omega) (((((((kE.d rfl).d rfl).d rfl).d rfl).d rfl).d rfl).d rfl) rH
 refine .kn<|.sr<|.mo rfl<|.mo rfl<|.mo rfl<|.mo rfl<|.mo rfl ?_
 refine .bb (fJ v a9 T6 a b q p _ b3 (by omega) ⟨c2,c3⟩ hp (by omega) (by omega) O a8 D) (λu Q k=>?_)
 obtain⟨E,j,e7,rfl,S,m,A⟩:=k
 have a7:=A.lo
 have a6:=A.hi
 have d9:=m.length
 have b9:∀x∈E,ok x:=λx W=>a8 x (m.perm.mem_iff.1 W)
 have b7:=a5.rp m e g
 have b6:RP H F xs E:=a3.trans (m.mono e g (by omega))
 have c6:=c5.rp m
 refine .mo rfl<|.q .extract<|.q .extract<|.ag rfl<|.ag rfl<|.z<|.mo rfl<|.ag rfl<|.z<|.mo rfl<|.mo rfl ?_
 refine .ia (j-a) .sub ?_
 refine .mo rfl<|.mo rfl ?_
 refine .ia (b-j) .sub ?_
 refine .ag rfl<|.ag rfl<|.z<|.mo rfl ?_
 refine .q (.i64 (((b-a)/8:Nat):Int) .quo ⟨by rw[adt (by omega)];omega,by omega,by omega⟩) ?_
 refine .ag rfl<|.z<|.mo rfl<|.mo rfl<|.q .lss<|.zn ?_
 refine .cond rfl (λh8=>?_) λh8=>?_
 refine .sr<|.mo rfl<|.mo rfl<|.q .geq<|.ag rfl<|.z<|.mo rfl<|.mo rfl<|.mo rfl<|.mo rfl<|.mo rfl ?_
 refine .bb (ih v E Q a j r _ S (by omega) (by omega) (by omega) s O b9 (c6.less (by omega)) (by omega)) (λu G k=>?_)
 obtain⟨rfl,M,J,V,a4⟩:=k
 have L:=b7.left D A V a4 e g (by omega)
 have K:=b6.trans (V.mono e (by omega) (by omega))
 refine .zn<|.region<|.mo rfl ?_
 refine .ia (j+1) .add ?_
 refine .ag rfl<|.nil<|bi ?_
 ·first
   |exact aN (j+1,b,r,_,_,M,G) ⟨⟨by simp only;omega,by simp only;omega,by simp only;omega,s⟩,J,K,L⟩ (by simp only;omega) (((((((kE.d rfl).d rfl).d rfl).d rfl).d rfl).d rfl).d rfl) rH
   |exact aN (a,j,r,_,_,M,G) ⟨⟨e,a7,by simp only;omega,s⟩,J,K,L⟩ (by simp only;omega) (((((((kE.d rfl).d rfl).d rfl).d rfl).d rfl).d rfl).d rfl) rH
   |exact aN (j,b,r,_,_,E,Q) ⟨⟨by simp only;omega,a6,g,s⟩,S,a3.trans (m.mono e g (by omega)),(a5.rp m e g).eqs D A⟩ (by simp only;omega) (((((((kE.d rfl).d rfl).d rfl).d rfl).d rfl).d rfl).d rfl) rH
 refine .sr<|.mo rfl<|.mo rfl<|.q .geq<|.ag rfl<|.z<|.mo rfl<|.mo rfl ?_
 refine .ia (j+1) .add ?_
 refine .mo rfl<|.mo rfl<|.mo rfl ?_
 refine .bb (ih v E Q (j+1) b r _ S (by omega) (by omega) (by omega) s O b9 A.lb (by omega)) (λu G k=>?_)
 obtain⟨rfl,M,J,V,a4⟩:=k
 have L:=b7.right D A V a4 e g (by omega)
 have K:=b6.trans (V.mono (by omega) g (by omega))
 refine .zn<|.region<|.mo rfl<|.ag rfl<|.nil<|bi ?_
 ·first
   |exact aN (j+1,b,r,_,_,M,G) ⟨⟨by simp only;omega,by simp only;omega,by simp only;omega,s⟩,J,K,L⟩ (by simp only;omega) (((((((kE.d rfl).d rfl).d rfl).d rfl).d rfl).d rfl).d rfl) rH
   |exact aN (a,j,r,_,_,M,G) ⟨⟨e,a7,by simp only;omega,s⟩,J,K,L⟩ (by simp only;omega) (((((((kE.d rfl).d rfl).d rfl).d rfl).d rfl).d rfl).d rfl) rH
   |exact aN (j,b,r,_,_,E,Q) ⟨⟨by simp only;omega,a6,g,s⟩,S,a3.trans (m.mono e g (by omega)),(a5.rp m e g).eqs D A⟩ (by simp only;omega) (((((((kE.d rfl).d rfl).d rfl).d rfl).d rfl).d rfl).d rfl) rH
 refine .gF i<|.gF i<|.gF i<|.gF i<|.gF i<|.gF i<|.gF i<|.gF i<|.gF i<|.gF i<|.nil<|.gF i<|.gF i<|.gF i<|.q (.bq i) ?_
 refine .zn<|.bB<|.kn<|.sr<|.mo rfl<|.mo rfl<|.mo rfl<|.mo rfl<|.mo rfl ?_
 refine .bb (fJ v a9 T6 a b q p _ b3 (by omega) ⟨c2,c3⟩ hp (by omega) (by omega) O a8 D) (λu Q k=>?_)
 obtain⟨E,j,e7,rfl,S,m,A⟩:=k
 have a7:=A.lo
 have a6:=A.hi
 have d9:=m.length
 have b9:∀x∈E,ok x:=λx W=>a8 x (m.perm.mem_iff.1 W)
 have b7:=a5.rp m e g
 have b6:RP H F xs E:=a3.trans (m.mono e g (by omega))
 have c6:=c5.rp m
 refine .mo rfl<|.q .extract<|.q .extract<|.ag rfl<|.ag rfl<|.z<|.mo rfl<|.ag rfl<|.z<|.mo rfl<|.mo rfl ?_
 refine .ia (j-a) .sub ?_
 refine .mo rfl<|.mo rfl ?_
 refine .ia (b-j) .sub ?_
 refine .ag rfl<|.ag rfl<|.z<|.mo rfl ?_
 refine .q (.i64 (((b-a)/8:Nat):Int) .quo ⟨by rw[adt (by omega)];omega,by omega,by omega⟩) ?_
 refine .ag rfl<|.z<|.mo rfl<|.mo rfl<|.q .lss<|.zn ?_
 refine .cond rfl (λh8=>?_) λh8=>?_
 refine .sr<|.mo rfl<|.mo rfl<|.q .geq<|.ag rfl<|.z<|.mo rfl<|.mo rfl<|.mo rfl<|.mo rfl<|.mo rfl ?_
 refine .bb (ih v E Q a j r _ S (by omega) (by omega) (by omega) s O b9 (c6.less (by omega)) (by omega)) (λu G k=>?_)
 obtain⟨rfl,M,J,V,a4⟩:=k
 have L:=b7.left D A V a4 e g (by omega)
 have K:=b6.trans (V.mono e (by omega) (by omega))
 refine .zn<|.region<|.mo rfl ?_
 refine .ia (j+1) .add ?_
 refine .ag rfl<|.nil<|bi ?_
 ·first
   |exact aN (j+1,b,r,_,_,M,G) ⟨⟨by simp only;omega,by simp only;omega,by simp only;omega,s⟩,J,K,L⟩ (by simp only;omega) (((((((kE.d rfl).d rfl).d rfl).d rfl).d rfl).d rfl).d rfl) rH
   |exact aN (a,j,r,_,_,M,G) ⟨⟨e,a7,by simp only;omega,s⟩,J,K,L⟩ (by simp only;omega) (((((((kE.d rfl).d rfl).d rfl).d rfl).d rfl).d rfl).d rfl) rH
   |exact aN (j,b,r,_,_,E,Q) ⟨⟨by simp only;omega,a6,g,s⟩,S,a3.trans (m.mono e g (by omega)),(a5.rp m e g).eqs D A⟩ (by simp only;omega) (((((((kE.d rfl).d rfl).d rfl).d rfl).d rfl).d rfl).d rfl) rH
 refine .sr<|.mo rfl<|.mo rfl<|.q .geq<|.ag rfl<|.z<|.mo rfl<|.mo rfl ?_
 refine .ia (j+1) .add ?_
 refine .mo rfl<|.mo rfl<|.mo rfl ?_
 refine .bb (ih v E Q (j+1) b r _ S (by omega) (by omega) (by omega) s O b9 A.lb (by omega)) (λu G k=>?_)
 obtain⟨rfl,M,J,V,a4⟩:=k
 have L:=b7.right D A V a4 e g (by omega)
 have K:=b6.trans (V.mono (by omega) g (by omega))
 refine .zn<|.region<|.mo rfl<|.ag rfl<|.nil<|bi ?_
 ·first
   |exact aN (j+1,b,r,_,_,M,G) ⟨⟨by simp only;omega,by simp only;omega,by simp only;omega,s⟩,J,K,L⟩ (by simp only;omega) (((((((kE.d rfl).d rfl).d rfl).d rfl).d rfl).d rfl).d rfl) rH
   |exact aN (a,j,r,_,_,M,G) ⟨⟨e,a7,by simp only;omega,s⟩,J,K,L⟩ (by simp only;omega) (((((((kE.d rfl).d rfl).d rfl).d rfl).d rfl).d rfl).d rfl) rH
   |exact aN (j,b,r,_,_,E,Q) ⟨⟨by simp only;omega,a6,g,s⟩,S,a3.trans (m.mono e g (by omega)),(a5.rp m e g).eqs D A⟩ (by simp only;omega) (((((((kE.d rfl).d rfl).d rfl).d rfl).d rfl).d rfl).d rfl) rH
theorem iR(q:SO (ap c))(n:Nat):fD c ok f caps n:=by
 induction n with
 |zero=>exact λv e T a b d R _ _ _ _ _ _ _ _ r=>by omega
 |succ n ih=>exact λv e T a b d R g h i j k l m o p=>iS n ih q v e T a b d R g h i j k l m o p
end
end SGC
namespace SGC
section
variable{c:GP->GP->Int}{ok:GP->Prop}{f:FuncId}{caps:List Value} [e:aI prog f]
theorem iW(v:Value)(xs:List GP)(T:ay)(R:aA)(h:OS 137 9 bG v xs T)(k:xs.length<=1000000000)(j:cf prog f caps R (λp:GP=>Value.agg (bG p).toArray) c ok)(l:∀x∈xs,ok x)(m:SO (ap c)):
  Spec prog 156 [v,.func (.func f) #[] caps.toArray] R [T] λu H'=>∃T',H'=[T']/\u=.tuple #[]/\∃ys,OS 137 9 bG v ys T'/\ys.Perm xs/\SR (ap c) ys 0 ys.length:=by
 have s:=h.aL
 have i:Lib.bitLen xs.length<=1000000000:=by
  have r:=bitLen_le 64 xs.length
  have o:Lib.bitLen xs.length=Lib.bitLenAux 64 xs.length:=rfl
  omega
 refine Spec.body func156 rfl results156 ntmps156 rfl ?_
 refine .sr<|.mo rfl<|.q (.fV h) ?_
 refine .az rfl<|.region<|.mo rfl<|.mo rfl<|.mo rfl ?_
 refine .q (bd.cast (v':=.int .u64 ((xs.length:Nat):Int)) .ez (by rw[gr (by omega) (by omega)])) ?_
 refine .bc (kj xs.length (by omega) _) (λu a=>?_)
 subst a
 refine .mo rfl ?_
 refine .bb (iR m (xs.length+1) v xs T 0 xs.length (Lib.bitLen xs.length) _ h (Nat.zero_le _) (adq _) k i j l (λd=>absurd d (by omega)) (by omega)) (λu n a=>?_)
 obtain⟨rfl,ys,e,b,g⟩:=a
 refine .nil<|ct _ .none rH ?_
 ·exact⟨_,rfl,rfl,ys,e,b.perm,b.length▸g⟩
end
end SGC
namespace SGN
section
variable{c:NP->NP->Int}{ok:NP->Prop}{f:FuncId}{caps:List Value} [e:aI prog f]
theorem iJ(v:Value)(xs:List NP)(T:ay)(a b:Nat)(R:aA)(h:OS 129 3 bN v xs T)(a3:a<=b)(J:b<=xs.length)(hl:xs.length<=1000000000)(O:cf prog f caps R (λp:NP=>Value.agg (bN p).toArray) c ok)(K:∀x∈xs,ok x)(G:SO (ap c)):
  Spec prog 329 [v,.int .i64 a,.int .i64 b,.func (.func f) #[] caps.toArray] R [T] λu H'=>∃T',H'=[T']/\u=.tuple #[]/\∃ys,OS 129 3 bN v ys T'/\RP a b xs ys/\SR (ap c) ys a b:=by
 have iv:=h.aL
 refine Spec.body func329 rfl results329 ntmps329 rfl ?_
 refine .sr<|.mo rfl ?_
 refine .ia (a+1) .add ?_
 refine .az rfl<|.block ?_
 refine .loop (X:=Nat×List NP×ay) (λy=>(a+1<=y.1/\(y.1<=b\/y.1=a+1))/\OS 129 3 bN v y.2.1 y.2.2/\RP a b xs y.2.1/\SR (ap c) y.2.1 a y.1) (λy=>[(0,v),(1,iN a),(2,iN b),(3,.func (.func f) #[] caps.toArray),(8,iN y.1)]) (λy=>[y.2.2]) (λy=>b-y.1) (a+1,xs,T) ⟨⟨by simp only;omega,.inr rfl⟩,h,.refl _,λi j s m I=>by simp only at I;omega⟩ kE.c.c.c.c.c rH ?_
 rintro⟨i,ys,M⟩ ⟨⟨Q,S⟩,D,C,E⟩
 simp only at Q S D C E⊢
 have a6:=C.length
 refine .seq<|.sr<|.mo rfl<|.mo rfl<|.q .lss<|.zn ?_
 refine .cond rfl (λs=>?_) λs=>?_
 have a5:i<b:=by simp at s;omega
 refine .kn<|.seq<|.block<|.sr<|.mo rfl<|.az rfl<|.block ?_
 refine .loop (X:=Nat×List NP×ay) (λy=>(a<=y.1/\y.1<=i)/\OS 129 3 bN v y.2.1 y.2.2/\RP a b xs y.2.1/\fg (ap c) y.2.1 a y.1 (i+1)) (λy=>[(0,v),(1,iN a),(2,iN b),(3,.func (.func f) #[] caps.toArray),(8,iN i),(9,iN y.1)]) (λy=>[y.2.2]) (λy=>y.1) (i,ys,M) ⟨⟨by simp only;omega,adq _⟩,D,C,E.ins⟩ kE.c.c.c.c.c.c rH ?_
 rintro⟨j,z,H⟩ ⟨⟨U,V⟩,e,n,B⟩
 simp only at U V e n B⊢
 have a7:=n.length
 refine .seq<|.seq ?_
 refine .bQ 14 mixed (by kernel_rfl) ?_
 conv=>arg 6;dsimp only[List.take]
 refine .mo rfl<|.mo rfl<|.q .gtr<|.mo rfl ?_
 refine .split (t:=21) rfl (λd=>?_) (λd=>?_)
 have F:a<j:=by have:=bo d;omega
 obtain⟨x,g⟩:∃x,z[j]? =some x:=⟨_,aC (by omega)⟩
 obtain⟨y,l⟩:∃x,z[j-1]? =some x:=⟨_,aC (by omega)⟩
 have a0:=K x (n.perm.mem_iff.1 (aF g))
 have a1:=K y (n.perm.mem_iff.1 (aF l))
 refine .gT d<|.mo rfl<|.gT d<|.mo rfl<|.gT d<|.mo rfl<|.gT d ?_
 refine .au j e g (λa8=>?_)
 refine .gT d<|.q (.aE rfl)<|.gT d<|.mo rfl<|.gT d<|.mo rfl<|.gT d ?_
 refine .ia (j-1) .sub ?_
 refine .gT d ?_
 refine .au (j-1) e l (λa9=>?_)
 refine .gT d<|.q (.aE rfl)<|.nil<|.gT d ?_
 refine .cj (first:=[]) (captured:=caps) (vs:=[(λp:NP=>Value.agg (bN p).toArray) x,(λp:NP=>Value.agg (bN p).toArray) y]) (O x y a0 a1 _ (λb o J=>.inl J)) (λu r=>?_)
 subst r
 refine .gT d<|.q .lss<|.q (.bu d) ?_
 refine .zn ?_
 refine .cond rfl (λm=>?_) λm=>?_
 refine .kn<|.seq<|.block<|.bF [15,17] mixed ?_
 refine .tO 0 rfl .move<|.tO 1 rfl .move<|.tK 2 rfl .move<|.tK 3 rfl .move ?_
 refine .take 4 rfl (.i64 ((j-1:Nat):Int) .sub ⟨by omega,by omega,by omega⟩) (by kernel_rfl) ?_
 refine .tO 5 rfl .move<|.tO 6 rfl .move ?_
 refine .cH 7 rfl (.i64 ((j-1:Nat):Int) .sub ⟨by omega,by omega,by omega⟩) (by kernel_rfl) ?_
 refine RA.au 8 rfl (j-1) e l rfl rfl rfl (by kernel_rfl) (λb0=>?_)
 refine .tO 9 rfl (.aE rfl)<|.tO 10 rfl .move<|.tO 11 rfl .move ?_
 refine RA.au 12 rfl (j) e g rfl rfl rfl (by kernel_rfl) (λb1=>?_)
 refine .tO 13 rfl (.aE rfl) ?_
 refine RA.au 14 rfl (j) e g rfl rfl rfl (by kernel_rfl) (λb2=>?_)
 refine .sT 15 rfl ?_
 refine .bt (j) e g y (λa2 Y=>?_) (e.one _ (aF l))
 refine .nil (Next.mod rfl ?_)
 refine RA.au 16 rfl (j-1) e l rfl rfl rfl (by kernel_rfl) (λb3=>?_)
 refine .sT 17 rfl ?_
 obtain⟨zz,Z⟩:∃u,(z.set (j) y)[j-1]? =some u:=⟨_,aC (by rw[adr];exact(ads.1 l).1)⟩
 refine .bt (j-1) Y Z x (λN L=>?_) (e.one _ (aF g))
 rw[<-bS g l]at L
 refine .nil (Next.mod rfl ?_)
 refine RA.nil (by kernel_rfl) ?_
 refine bi<|aD<|.region<|.mo rfl ?_
 refine .ia (j-1) .sub ?_
 refine .ag rfl<|.nil ?_
 ·have W:ap c x y=true:=m
  exact aN (j-1,bn z j (j-1),N) ⟨⟨by simp only;omega,by simp only;omega⟩,L,n.step (by omega) (by omega) (by omega) (by omega) (by omega),B.step G (by omega) (by omega) F g l W⟩ (by simp only;omega) kE.c.c.c.c.c.c rH
 refine .exit<|aP<|aV<|aR<|bi<|aD<|.region<|.mo rfl ?_
 refine .ia (i+1) .add ?_
 refine .ag rfl<|.nil ?_
 ·refine aN (i+1,z,H) ⟨⟨by simp only;omega,.inl (by simp only;omega)⟩,e,n,B.done G (by omega) (by omega) ?_⟩ (by simp only;omega) kE.c.c.c.c.c rH
  first
   |exact .inr ⟨F,λu w r A=>by
     rw[l]at r;rw[g]at A;cases r;cases A;exact m⟩
   |exact .inl (by have:=aY d;omega)
 refine .gF d<|.gF d<|.gF d<|.gF d<|.gF d<|.gF d<|.gF d<|.gF d<|.gF d<|.gF d<|.nil<|.gF d<|.gF d<|.q (.bq d) ?_
 refine .zn<|.bB<|.exit<|aP<|aV<|aR<|bi<|aD<|.region<|.mo rfl ?_
 refine .ia (i+1) .add ?_
 refine .ag rfl<|.nil ?_
 ·refine aN (i+1,z,H) ⟨⟨by simp only;omega,.inl (by simp only;omega)⟩,e,n,B.done G (by omega) (by omega) ?_⟩ (by simp only;omega) kE.c.c.c.c.c rH
  first
   |exact .inr ⟨F,λu w r A=>by
     rw[l]at r;rw[g]at A;cases r;cases A;exact m⟩
   |exact .inl (by have:=aY d;omega)
 refine .exit<|aP<|aV<|aR<|ct _ .none rH ?_
 ·have a4:b<=i:=by simp at s;omega
  exact⟨_,rfl,rfl,ys,D,C,λj k s m I=>E j k s m (by omega)⟩
theorem fL(v:Value)(xs:List NP)(T:ay)(lo k d:Nat)(R:aA)(h:OS 129 3 bN v xs T)(b2:lo<=k)(W:d+k<=xs.length)(hl:xs.length<=1000000000)(hf:cf prog f caps R (λp:NP=>Value.agg (bN p).toArray) c ok)(a4:∀x∈xs,ok x)(K:SO (ap c)):
    Spec prog 412 [v,.int .i64 lo,.int .i64 k,.int .i64 d,.func (.func f) #[] caps.toArray] R [T] λu H'=>∃T',H'=[T']/\u=.tuple #[]/\∃ys,OS 129 3 bN v ys T'/\RP d (d+k) xs ys/\
      (ew (λx y=>ap c y x) (xs.drop d) k lo lo->dI (λx y=>ap c y x) (ys.drop d) k lo):=by
  have iv:=h.aL
  have a5:=K.rev
  refine Spec.body func412 rfl results412 ntmps412 rfl ?_
  refine .sr<|.mo rfl<|.az rfl<|.block ?_
  refine .loop (X:=Nat×List NP×ay) (λy=>(lo<=y.1/\y.1<=k)/\OS 129 3 bN v y.2.1 y.2.2/\RP d (d+k) xs y.2.1/\(ew (λx y=>ap c y x) (xs.drop d) k lo lo->ew (λx y=>ap c y x) (y.2.1.drop d) k lo y.1)) (λy=>[(0,v),(2,iN k),(3,iN d),(4,.func (.func f) #[] caps.toArray),(10,iN y.1)]) (λy=>[y.2.2]) (λy=>k-y.1) (lo,xs,T) ⟨⟨adq _,b2⟩,h,.refl _,λh=>h⟩ kE.c.c.c.c.c rH ?_
  rintro⟨r,ys,T1⟩ ⟨⟨a7,b4⟩,m,E,V⟩
  simp only at a7 b4 m E V⊢
  have c2:=E.length
  have c1:(ys.drop d).length=ys.length-d:=adu
  refine .block<|.sr<|.mo rfl ?_
  refine .ia (2*r) .mul ?_
  refine .ia (2*r+1) .add ?_
  refine .ag rfl<|.zs<|.sr<|.mo rfl<|.mo rfl<|.q .geq<|.zn ?_
  refine .cond rfl (λO=>?_) λO=>?_
  have b9:k<=2*r+1:=by have:=bo O;omega
  refine .exit (aP (dn (aV (aR ?_))))
  refine ct _ .none rH ?_
  ·refine⟨_,rfl,rfl,ys,m,E,λS=>(V S).stop λa D F l u w g U=>?_⟩
   first
     |(simp only[aX]at l;omega)
     |(rw[cQ]at g U
       rw[A]at g;cases g
       have Q:(!ap c H x)=true:=M
       exact a5.dW _ _ _ (Y a w D F l U) (by simpa using Q))
  have N:2*r+1<k:=by have:=aY O;omega
  obtain⟨H,A⟩:∃y,ys[d+r]? =some y:=⟨_,aC (by omega)⟩
  obtain⟨s,n⟩:∃y,ys[d+(2*r+1)]? =some y:=⟨_,aC (by omega)⟩
  have b7:=a4 H (E.perm.mem_iff.1 (aF A))
  have J:=a4 s (E.perm.mem_iff.1 (aF n))
  refine .kn<|.seq ?_
  refine bp.cut (X:=Nat×NP) (λz=>0<z.1/\z.1<k/\aX z.1=r/\ys[d+z.1]? =some z.2/\ok z.2/\∀a u,0<a->a<k->aX a=r->ys[d+a]? =some u->ap c z.2 u=false) (λz=>[(0,v),(2,iN k),(3,iN d),(4,.func (.func f) #[] caps.toArray),(10,iN r),(11,iN z.1)]) (λz=>[T1]) ?_ ?_
  refine .seq ?_
  refine .bQ 19 mixed (by kernel_rfl) ?_
  conv=>arg 6;dsimp only[List.take]
  refine .mo rfl ?_
  refine .ia (2*r+2) .add ?_
  refine .mo rfl<|.q .lss<|.mo rfl ?_
  refine .split (t:=23) rfl (λe=>?_) (λe=>?_)
  have a2:2*r+2<k:=by have:=bo e;omega
  obtain⟨L,C⟩:∃y,ys[d+(2*r+2)]? =some y:=⟨_,aC (by omega)⟩
  have Z:=a4 L (E.perm.mem_iff.1 (aF C))
  refine .gT e<|.mo rfl<|.gT e<|.mo rfl<|.gT e<|.mo rfl<|.gT e<|.mo rfl<|.gT e ?_
  refine .ia (d+(2*r+1)) .add ?_
  refine .gT e ?_
  refine .au (d+(2*r+1)) m n (λc3=>?_)
  refine .gT e<|.q (.aE rfl)<|.gT e<|.mo rfl<|.gT e<|.mo rfl<|.gT e<|.mo rfl<|.gT e ?_
  refine .ia (d+(2*r+1)) .add ?_
  refine .gT e ?_
  refine .ia (d+(2*r+2)) .add ?_
  refine .gT e ?_
  refine .au (d+(2*r+2)) m C (λc4=>?_)
  refine .gT e<|.q (.aE rfl)<|.nil<|.gT e ?_
  refine .cj (first:=[]) (captured:=caps) (vs:=[(λp:NP=>Value.agg (bN p).toArray) s,(λp:NP=>Value.agg (bN p).toArray) L]) (hf s L J Z _ (λb o W=>.inl W)) (λu g=>?_)
  subst g
  refine .gT e<|.q .lss<|.q (.bu e) ?_
  refine .zn ?_
  refine .cond rfl (λI=>?_) λI=>?_
  have a3:∀a u,0<a->a<k->aX a=r->ys[d+a]? =some u->ap c L u=false:=λa u D F l g=>by
    have:a=2*r+1\/a=2*r+2:=by simp only[aX]at l;omega
    rcases this with rfl|rfl
    ·rw[n]at g;cases g;exact K.gx I
    ·rw[C]at g;cases g;exact K.cP _
  refine .region<|.mo rfl ?_
  refine .ia (2*r+2) .add ?_
  refine .ag rfl<|.nil ?_
  ·first
      |exact ax (2*r+2,L) ⟨by simp only;omega,a2,by simp only[aX];omega,C,Z,a3⟩ kE.c.c.c.c.c.c rH
      |exact ax (2*r+1,s) ⟨by simp only;omega,N,by simp only[aX];omega,n,J,B⟩ kE.c.c.c.c.c.c rH
      |(have B:∀a u,0<a->a<k->aX a=r->ys[d+a]? =some u->ap c s u=false:=λa u D F l g=>by
           have:a=2*r+1\/a=2*r+2:=by simp only[aX]at l;omega
           rcases this with rfl|rfl
           ·rw[n]at g;cases g;exact K.cP _
           ·rw[C]at g;cases g;exact I
        exact ax (2*r+1,s) ⟨by simp only;omega,N,by simp only[aX];omega,n,J,B⟩ kE.c.c.c.c.c.c rH)
  refine .skip ?_
  ·first
      |exact ax (2*r+2,L) ⟨by simp only;omega,a2,by simp only[aX];omega,C,Z,a3⟩ kE.c.c.c.c.c.c rH
      |exact ax (2*r+1,s) ⟨by simp only;omega,N,by simp only[aX];omega,n,J,B⟩ kE.c.c.c.c.c.c rH
      |(have B:∀a u,0<a->a<k->aX a=r->ys[d+a]? =some u->ap c s u=false:=λa u D F l g=>by
           have:a=2*r+1\/a=2*r+2:=by simp only[aX]at l;omega
           rcases this with rfl|rfl
           ·rw[n]at g;cases g;exact K.cP _
           ·rw[C]at g;cases g;exact I
        exact ax (2*r+1,s) ⟨by simp only;omega,N,by simp only[aX];omega,n,J,B⟩ kE.c.c.c.c.c.c rH)
  have B:∀a u,0<a->a<k->aX a=r->ys[d+a]? =some u->ap c s u=false:=λa u D F l g=>by
    have:a=2*r+1:=by have:=aY e;simp only[aX]at l;omega
    subst this
    rw[n]at g;cases g;exact K.cP _
  refine .gF e<|.gF e<|.gF e<|.gF e<|.gF e<|.gF e<|.gF e<|.gF e<|.gF e<|.gF e<|.gF e<|.gF e<|.gF e<|.gF e<|.nil<|.gF e<|.gF e<|.q (.bq e) ?_
  refine .zn<|.bB<|.skip ?_
  ·first
      |exact ax (2*r+2,L) ⟨by simp only;omega,a2,by simp only[aX];omega,C,Z,a3⟩ kE.c.c.c.c.c.c rH
      |exact ax (2*r+1,s) ⟨by simp only;omega,N,by simp only[aX];omega,n,J,B⟩ kE.c.c.c.c.c.c rH
      |(have B:∀a u,0<a->a<k->aX a=r->ys[d+a]? =some u->ap c s u=false:=λa u D F l g=>by
           have:a=2*r+1\/a=2*r+2:=by simp only[aX]at l;omega
           rcases this with rfl|rfl
           ·rw[n]at g;cases g;exact K.cP _
           ·rw[C]at g;cases g;exact I
        exact ax (2*r+1,s) ⟨by simp only;omega,N,by simp only[aX];omega,n,J,B⟩ kE.c.c.c.c.c.c rH)
  intro y hy
  obtain⟨j,x⟩:=y
  obtain⟨a0,a6,a1,G,a9,Y⟩:=hy
  simp only at a0 a6 a1 G a9 Y⊢
  have c0:r<j:=a1▸dO a0
  refine aD<|.seq<|.seq ?_
  refine .bQ 13 mixed (by kernel_rfl) ?_
  conv=>arg 6;dsimp only[List.take]
  refine .mo rfl<|.mo rfl<|.mo rfl<|.mo rfl ?_
  refine .ia (d+r) .add ?_
  refine .au (d+r) m A (λc5=>?_)
  refine .q (.aE rfl)<|.mo rfl<|.mo rfl<|.mo rfl ?_
  refine .ia (d+j) .add ?_
  refine .au (d+j) m G (λc6=>?_)
  refine .q (.aE rfl)<|.nil ?_
  refine .cj (first:=[]) (captured:=caps) (vs:=[(λp:NP=>Value.agg (bN p).toArray) H,(λp:NP=>Value.agg (bN p).toArray) x]) (hf H x b7 a9 _ (λb o W=>.inl W)) (λu g=>?_)
  subst g
  refine .q .lss<|.q .not<|.zn ?_
  refine .cond rfl (λM=>?_) λM=>?_
  refine .ret (aT (bg (cc (bg (aZ _ .none rH ?_)))))
  ·refine⟨_,rfl,rfl,ys,m,E,λS=>(V S).stop λa D F l u w g U=>?_⟩
   first
     |(simp only[aX]at l;omega)
     |(rw[cQ]at g U
       rw[A]at g;cases g
       have Q:(!ap c H x)=true:=M
       exact a5.dW _ _ _ (Y a w D F l U) (by simpa using Q))
  refine .kn<|.seq<|.bF [21,23] mixed ?_
  refine .tO 0 rfl .move<|.tO 1 rfl .move<|.tO 2 rfl .move ?_
  refine .cH 3 rfl (.i64 ((d+r:Nat):Int) .add ⟨by omega,by omega,by omega⟩) (by kernel_rfl) ?_
  refine .tK 4 rfl .move<|.tK 5 rfl .move<|.tK 6 rfl .move ?_
  refine .take 7 rfl (.i64 ((d+j:Nat):Int) .add ⟨by omega,by omega,by omega⟩) (by kernel_rfl) ?_
  refine .tO 8 rfl .move<|.tO 9 rfl .move<|.tO 10 rfl .move ?_
  refine .cH 11 rfl (.i64 ((d+j:Nat):Int) .add ⟨by omega,by omega,by omega⟩) (by kernel_rfl) ?_
  refine RA.au 12 rfl (d+j) m G rfl rfl rfl (by kernel_rfl) (λc7=>?_)
  refine .tO 13 rfl (.aE rfl)<|.tO 14 rfl .move<|.tO 15 rfl .move<|.tO 16 rfl .move ?_
  refine .cH 17 rfl (.i64 ((d+r:Nat):Int) .add ⟨by omega,by omega,by omega⟩) (by kernel_rfl) ?_
  refine RA.au 18 rfl (d+r) m A rfl rfl rfl (by kernel_rfl) (λc8=>?_)
  refine .tO 19 rfl (.aE rfl) ?_
  refine RA.au 20 rfl (d+r) m A rfl rfl rfl (by kernel_rfl) (λc9=>?_)
  refine .sT 21 rfl ?_
  refine .bt (d+r) m A x (λb8 b5=>?_) (m.one _ (aF G))
  refine .nil (Next.mod rfl ?_)
  refine RA.au 22 rfl (d+j) m G rfl rfl rfl (by kernel_rfl) (λd0=>?_)
  refine .sT 23 rfl ?_
  obtain⟨zz,b6⟩:∃u,(ys.set (d+r) x)[d+j]? =some u:=⟨_,aC (by rw[adr];exact(ads.1 G).1)⟩
  refine .bt (d+j) b5 b6 H (λb0 a8=>?_) (m.one _ (aF A))
  rw[<-bS A G]at a8
  refine .nil (Next.mod rfl ?_)
  refine RA.nil (by kernel_rfl) ?_
  refine aD<|.region<|.mo rfl<|.ag rfl<|.nil<|bi ?_
  ·have b3:ap c H x=true:=by
      have Q:(!ap c H x)=false:=M
      simpa using Q
   have b1:=hS (xs:=ys) (f:=d) (i:=r) (j:=j) (by omega) (by omega)
   exact aN (j,bn ys (d+r) (d+j),b0) ⟨⟨by simp only;omega,by simp only;omega⟩,a8,E.step (by omega) (by omega) (by omega) (by omega) (by omega),λS=>by
     simp only
     rw[b1]
     exact(V S).step a5 a7 a0 a6 (by omega) a1 (by rw[cQ];exact G) (by rw[cQ];exact A) b3 λa z O I M h4=>Y a z O I M (by rw[<-cQ];exact h4)⟩ (by simp only;omega) kE.c.c.c.c.c rH
end
end SGN
namespace SGN
section
variable{c:NP->NP->Int}{ok:NP->Prop}{f:FuncId}{caps:List Value} [e:aI prog f]
theorem iI(v:Value)(xs:List NP)(T:ay)(a b:Nat)(R:aA)(h:OS 129 3 bN v xs T)(a8:a<=b)(hb:b<=xs.length)(hl:xs.length<=1000000000)(M:cf prog f caps R (λp:NP=>Value.agg (bN p).toArray) c ok)(N:∀x∈xs,ok x)(G:SO (ap c)):
  Spec prog 330 [v,.int .i64 a,.int .i64 b,.func (.func f) #[] caps.toArray] R [T] λu H'=>∃T',H'=[T']/\u=.tuple #[]/\∃ys,OS 129 3 bN v ys T'/\RP a b xs ys/\SR (ap c) ys a b:=by
 have iv:=h.aL
 have a6:=G.rev
 obtain⟨n,hn⟩:∃n,b=a+n:=⟨b-a,by omega⟩
 subst hn
 refine Spec.body func330 rfl results330 ntmps330 rfl ?_
 refine .sr<|.mo rfl<|.ag rfl<|.z<|.ag rfl<|.z<|.mo rfl<|.mo rfl ?_
 refine .ia (n) .sub ?_
 refine .ag rfl<|.zs<|.sr<|.mo rfl ?_
 refine .q (.i64 ((n:Int)-1) .sub ⟨rfl,by omega,by omega⟩) ?_
 refine .q (.i64 (((n-1)/2:Nat):Int) .quo ⟨kB,by omega,by omega⟩) ?_
 refine .az rfl<|.block ?_
 refine .loop (X:=Nat×Int×List NP×ay) (λy=>(y.2.1=(y.1:Int)-1/\y.1<=n+1)/\OS 129 3 bN v y.2.2.1 y.2.2.2/\RP a (a+n) xs y.2.2.1/\dI (λx y=>ap c y x) (y.2.2.1.drop a) n y.1) (λy=>[(0,v),(3,.func (.func f) #[] caps.toArray),(8,iN a),(9,.int .i64 ((0:Nat):Int)),(10,iN n),(11,.int .i64 y.2.1)]) (λy=>[y.2.2.2]) (λy=>y.1) ((n-1)/2+1,(((n-1)/2:Nat):Int),xs,T) ⟨⟨by simp only;omega,by simp only;omega⟩,h,.refl _,λk V hk hp=>by simp only[aX]at hp;omega⟩ kE.c.c.c.c.c.c rH ?_
 rintro⟨m,z,ys,H⟩ ⟨⟨hz,hm⟩,C,s,B⟩
 simp only at hz hm C s B⊢
 have a9:=s.length
 refine .seq<|.sr<|.mo rfl<|.q .geq<|.zn ?_
 refine .cond rfl (λo=>?_) λo=>?_
 have a3:0<=z:=bo o
 obtain⟨k,rfl⟩:∃k,m=k+1:=⟨m-1,by omega⟩
 obtain rfl:z=(k:Int):=by omega
 refine .kn<|.seq<|.block<|.region<|.mo rfl<|.mo rfl<|.mo rfl<|.mo rfl<|.mo rfl ?_
 refine .bb (fL (c:=c) (ok:=ok) v ys H k n a _ C (by omega) (by omega) (by omega) M (λx e=>N x (s.perm.mem_iff.1 e)) G) (λu I F=>?_)
 obtain⟨rfl,g,d,l,r⟩:=F
 refine .nil<|bi<|aD<|.region<|.mo rfl ?_
 refine .q (.i64 ((k:Int)-1) .sub ⟨rfl,by omega,by omega⟩) ?_
 refine .ag rfl<|.nil ?_
 ·exact aN (k,(k:Int)-1,g,I) ⟨⟨rfl,by simp only;omega⟩,d,s.trans l,r B.hole⟩ (by simp only;omega) kE.c.c.c.c.c.c rH
 have E:m=0:=by have:=aY o;omega
 subst E
 refine .exit<|aP<|aV<|aR<|aD<|.sr<|.mo rfl ?_
 refine .q (.i64 ((n:Int)-1) .sub ⟨rfl,by omega,by omega⟩) ?_
 refine .az rfl<|.block ?_
 refine .loop (X:=Nat×Int×List NP×ay) (λy=>(y.2.1=(y.1:Int)-1/\y.1<=n)/\OS 129 3 bN v y.2.2.1 y.2.2.2/\RP a (a+n) xs y.2.2.1/\dI (λx y=>ap c y x) (y.2.2.1.drop a) y.1 0/\OX (ap c) y.2.2.1 a (a+n) a (a+y.1)) (λy=>[(0,v),(3,.func (.func f) #[] caps.toArray),(8,iN a),(9,.int .i64 ((0:Nat):Int)),(10,iN n),(12,.int .i64 y.2.1)]) (λy=>[y.2.2.2]) (λy=>y.1) (n,(n:Int)-1,ys,H) ⟨⟨rfl,adq _⟩,C,s,B,OX.start⟩ kE.c.c.c.c.c.c rH ?_
 rintro⟨m,Q,g,I⟩ ⟨⟨a4,a1⟩,d,l,r,D⟩
 simp only at a4 a1 d l r D⊢
 have b0:=l.length
 refine .seq<|.sr<|.mo rfl<|.q .geq<|.zn ?_
 refine .cond rfl (λA=>?_) λA=>?_
 have a3:0<=Q:=bo A
 obtain⟨k,rfl⟩:∃k,m=k+1:=⟨m-1,by omega⟩
 obtain rfl:Q=(k:Int):=by omega
 obtain⟨x,e⟩:∃x,g[a]? =some x:=⟨_,aC (by omega)⟩
 obtain⟨y,t⟩:∃x,g[a+k]? =some x:=⟨_,aC (by omega)⟩
 refine .kn<|.seq<|.block<|.seq<|.bF [17,19] mixed ?_
 refine .tO 0 rfl .move<|.tO 1 rfl .move<|.tK 2 rfl .move<|.tK 3 rfl .move<|.tK 4 rfl .move ?_
 refine .take 5 rfl (.i64 ((a+k:Nat):Int) .add ⟨by omega,by omega,by omega⟩) (by kernel_rfl) ?_
 refine .tO 6 rfl .move<|.tO 7 rfl .move<|.tO 8 rfl .move ?_
 refine .cH 9 rfl (.i64 ((a+k:Nat):Int) .add ⟨by omega,by omega,by omega⟩) (by kernel_rfl) ?_
 refine RA.au 10 rfl (a+k) d t rfl rfl rfl (by kernel_rfl) (λb1=>?_)
 refine .tO 11 rfl (.aE rfl)<|.tO 12 rfl .move<|.tO 13 rfl .move ?_
 refine RA.au 14 rfl (a) d e rfl rfl rfl (by kernel_rfl) (λb2=>?_)
 refine .tO 15 rfl (.aE rfl) ?_
 refine RA.au 16 rfl (a) d e rfl rfl rfl (by kernel_rfl) (λb3=>?_)
 refine .sT 17 rfl ?_
 refine .bt (a) d e y (λa7 a2=>?_) (d.one _ (aF t))
 refine .nil (Next.mod rfl ?_)
 refine RA.au 18 rfl (a+k) d t rfl rfl rfl (by kernel_rfl) (λb4=>?_)
 refine .sT 19 rfl ?_
 obtain⟨zz,a5⟩:∃u,(g.set (a) y)[a+k]? =some u:=⟨_,aC (by rw[adr];exact(ads.1 t).1)⟩
 refine .bt (a+k) a2 a5 x (λU O=>?_) (d.one _ (aF e))
 rw[<-bS e t]at O
 refine .nil (Next.mod rfl ?_)
 refine RA.nil (by kernel_rfl) ?_
 refine aD<|.region<|.mo rfl<|.mo rfl<|.mo rfl<|.mo rfl<|.mo rfl ?_
 have L:=hS (xs:=g) (f:=a) (i:=0) (j:=k) (by omega) (by omega)
 have J:=l.step (i:=a) (j:=a+k) (by omega) (by omega) (by omega) (by omega) (by omega)
 have a0:=OX.last (m:=a+k) (x:=x) D (by omega) (by omega) (by omega) e (λj w o W hw=>dI.top a6 r (by rw[adu];omega) (x:=x) (by rw[cQ];exact e) (j-a) w (by omega) (by rw[cQ,show a+(j-a)=j by omega];exact hw))
 refine .bb (fL (c:=c) (ok:=ok) v (bn g a (a+k)) U 0 k a _ O (by omega) (by rw[eI];omega) (by rw[eI];omega) M (λx e=>N x (J.perm.mem_iff.1 e)) G) (λu S F=>?_)
 obtain⟨rfl,ws,Z,K,Y⟩:=F
 refine .nil<|bi<|aD<|.region<|.mo rfl ?_
 refine .q (.i64 ((k:Int)-1) .sub ⟨rfl,by omega,by omega⟩) ?_
 refine .ag rfl<|.nil ?_
 ·exact aN (k,(k:Int)-1,ws,S) ⟨⟨rfl,by simp only;omega⟩,Z,J.trans (K.mono (adq a) (by omega) (by rw[eI];omega)),Y (r.kX λj V hj=>by
   rw[Nat.add_zero]at L
   rw[L,cX (by rw[adu];omega) (by rw[adu];omega),if_neg (by omega),if_neg (by omega)]),a0.rp K (adq _) (by omega)⟩ (by simp only;omega) kE.c.c.c.c.c.c rH
 refine .exit<|aP<|aV<|aR<|ct _ .none rH ?_
 ·have E:m=0:=by have:=aY A;omega
  subst E
  exact⟨_,rfl,rfl,g,d,l,D.cZ λi j o A W=>by omega⟩
theorem iT(v:Value)(xs:List NP)(T:ay)(a b:Nat)(R:aA)(k:Value)(D:One k)(h:OS 129 3 bN v xs T)(B:a<b)(C:b<=xs.length)(E:xs.length<=1000000000):
  Spec prog 333 [v,.int .i64 a,.int .i64 b,k] R [T] λu H'=>∃T',H'=[T']/\u=.tuple #[]/\∃ys,OS 129 3 bN v ys T'/\RP a b xs ys:=by
 have H:=h.aL
 refine Spec.body func333 rfl results333 ntmps333 rfl ?_
 refine .sr<|.mo rfl<|.ag rfl<|.z<|.mo rfl ?_
 refine .ia (b-1) .sub ?_
 refine .az rfl<|.block ?_
 refine .loop (X:=Nat×Nat×List NP×ay) (λy=>(a<=y.1/\y.1<=y.2.1+1/\y.2.1<b)/\OS 129 3 bN v y.2.2.1 y.2.2.2/\RP a b xs y.2.2.1) (λy=>[(0,v),(8,iN y.1),(9,iN y.2.1)]) (λy=>[y.2.2.2]) (λy=>b-y.1) (a,b-1,xs,T) ⟨⟨adq _,by simp only;omega,by simp only;omega⟩,h,.refl _⟩ kE.c.c.c rH ?_
 rintro⟨i,j,ys,w⟩ ⟨⟨o,p,r⟩,d,g⟩
 simp only at o p r d g⊢
 have F:=g.length
 refine .seq<|.sr<|.mo rfl<|.mo rfl<|.q .lss<|.zn ?_
 refine .cond rfl (λl=>?_) λl=>?_
 have G:i<j:=de l
 obtain⟨x,e⟩:∃x,ys[i]? =some x:=⟨_,aC (by omega)⟩
 obtain⟨y,f⟩:∃x,ys[j]? =some x:=⟨_,aC (by omega)⟩
 refine .kn<|.block<|.seq<|.bF [13,15] mixed ?_
 refine .tO 0 rfl .move<|.tO 1 rfl .move<|.tK 2 rfl .move<|.tK 3 rfl .move<|.tO 4 rfl .move<|.tO 5 rfl .move ?_
 refine RA.au 6 rfl (j) d f rfl rfl rfl (by kernel_rfl) (λI=>?_)
 refine .tO 7 rfl (.aE rfl)<|.tO 8 rfl .move<|.tO 9 rfl .move ?_
 refine RA.au 10 rfl (i) d e rfl rfl rfl (by kernel_rfl) (λJ=>?_)
 refine .tO 11 rfl (.aE rfl) ?_
 refine RA.au 12 rfl (i) d e rfl rfl rfl (by kernel_rfl) (λK=>?_)
 refine .sT 13 rfl ?_
 refine .bt (i) d e y (λA s=>?_) (d.one _ (aF f))
 refine .nil (Next.mod rfl ?_)
 refine RA.au 14 rfl (j) d f rfl rfl rfl (by kernel_rfl) (λL=>?_)
 refine .sT 15 rfl ?_
 obtain⟨M,t⟩:∃u,(ys.set (i) y)[j]? =some u:=⟨_,aC (by rw[adr];exact(ads.1 f).1)⟩
 refine .bt (j) s t x (λn m=>?_) (d.one _ (aF e))
 rw[<-bS e f]at m
 refine .nil (Next.mod rfl ?_)
 refine RA.nil (by kernel_rfl) ?_
 refine aD<|.sr<|.mo rfl ?_
 refine .ia (i+1) .add ?_
 refine .az rfl<|.region<|.mo rfl ?_
 refine .ia (j-1) .sub ?_
 refine .ag rfl<|.nil<|bi ?_
 ·exact aN (i+1,j-1,bn ys i j,n) ⟨⟨by simp only;omega,by simp only;omega,by simp only;omega⟩,m,g.step (by omega) (by omega) (by omega) (by omega) (by omega)⟩ (by simp only;omega) kE.c.c.c rH
 refine .exit<|aP<|aV<|aR<|ct _ .none rH ?_
 ·exact⟨_,rfl,rfl,ys,d,g⟩
theorem iF(v:Value)(xs:List NP)(T:ay)(a b:Nat)(R:aA)(s:Value)(V:One s)(h:OS 129 3 bN v xs T)(S:a<=b)(U:b<=xs.length)(Y:xs.length<=1000000000):
  Spec prog 331 [v,.int .i64 a,.int .i64 b,s] R [T] λu H'=>∃T',H'=[T']/\u=.tuple #[]/\∃ys,OS 129 3 bN v ys T'/\RP a b xs ys:=by
 have iv:=h.aL
 obtain⟨n,J⟩:∃n,b=a+n:=⟨b-a,by omega⟩
 subst J
 refine Spec.body func331 rfl results331 ntmps331 rfl ?_
 refine .sr<|.mo rfl<|.mo rfl ?_
 refine .ia (n) .sub ?_
 refine .ag rfl<|.z<|.mo rfl<|.q .geq<|.zn ?_
 refine .cond rfl (λt=>?_) λt=>?_
 have a2:8<=n:=by have:=bo t;omega
 obtain⟨q,D⟩:∃q,q=n/4:=⟨_,rfl⟩
 refine .sr<|.mo rfl<|.q .ez ?_
 refine .hK (λe=>?_)
 refine .cO rfl rfl<|.z<|.mo rfl ?_
 refine .bc (ld n (by omega) (by omega) _) (λu r=>?_)
 obtain⟨j,rfl,a0,a1⟩:=r
 refine .ag rfl<|.z<|.mo rfl<|.mo rfl ?_
 refine .q (.i64 ((q:Nat):Int) .quo ⟨by rw[D,adt (by omega)];omega,by omega,by omega⟩) ?_
 refine .ia (q*2) .mul ?_
 refine .ia (a+q*2) .add ?_
 refine .ia (a+q*2-1) .sub ?_
 refine .az rfl<|.block ?_
 refine .loop (X:=Nat×Int×List NP×ay) (λy=>(a+q*2-1<=y.1/\y.1<=a+q*2+2)/\OS 129 3 bN v y.2.2.1 y.2.2.2/\RP a (a+n) xs y.2.2.1) (λy=>[(0,v),(1,iN a),(8,iN n),(9,pT e),(10,.int .u64 (j:Nat)),(11,iN y.1)]) (λy=>[bl e [.int .u64 y.2.1] 508,y.2.2.2]) (λy=>a+q*2+2-y.1) (a+q*2-1,_,xs,T) ⟨⟨adq _,by simp only;omega⟩,h,.refl _⟩ kE.c.c.c.c.c.c rH ?_
 rintro⟨i,z,ys,F⟩ ⟨⟨H,I⟩,d,k⟩
 simp only at H I d k⊢
 have Z:=k.length
 refine .seq<|.sr<|.mo rfl<|.mo rfl<|.mo rfl ?_
 refine .q (.i64 ((q:Nat):Int) .quo ⟨by rw[D,adt (by omega)];omega,by omega,by omega⟩) ?_
 refine .ia (q*2) .mul ?_
 refine .ia (a+q*2) .add ?_
 refine .ia (a+q*2+1) .add ?_
 refine .q .leq<|.zn ?_
 refine .cond rfl (λA=>?_) λA=>?_
 have W:i<=a+q*2+1:=by have:=bo A;omega
 refine .kn<|.seq<|.block<|.sr ?_
 refine .bb (ln e z _) (λu O r=>?_)
 obtain⟨l,rfl,rfl⟩:=r
 refine .mo rfl ?_
 refine .q (bd.cast (v':=.int .u64 ((j-1:Nat):Int)) .sub (by rw[gr (by omega) (by omega)];congr 1;omega)) ?_
 have B:=kH (z:=l) (q:=((j-1:Nat):Int)) (by omega) (by omega)
 obtain⟨o,C⟩:∃o:Nat,IntKind.u64.wrap (BitVec.ofInt IntKind.u64.bits l&&&BitVec.ofInt IntKind.u64.bits ((j-1:Nat):Int)).toNat=(o:Int):=⟨_,(Int.toNat_of_nonneg B.1).symm⟩
 refine .q (bd.cast (v':=.int .u64 ((o:Nat):Int)) .kG (by rw[C])) ?_
 rw[C]at B
 refine .q (bd.cast (v':=.int .i64 ((o:Nat):Int)) .ez (by rw[lE (by omega) (by omega)])) ?_
 refine .ag rfl<|.zs ?_
 refine bp.cut (X:=Nat) (λp=>p<n) (λp=>[(0,v),(1,iN a),(8,iN n),(9,pT e),(10,.int .u64 (j:Nat)),(11,iN i),(12,iN p)]) (λ_=>[bl e [.int .u64 l] 508,F]) ?_ ?_
 refine .sr<|.mo rfl<|.mo rfl<|.q .geq<|.zn ?_
 refine .cond rfl (λm=>?_) λm=>?_
 have K:n<=o:=by have:=bo m;omega
 refine .region<|.mo rfl<|.mo rfl ?_
 refine .ia (o-n) .sub ?_
 refine .ag rfl<|.nil ?_
 ·first
   |exact ax (o-n) (by omega) kE.c.c.c.c.c.c.c rH
   |exact ax o (by omega) kE.c.c.c.c.c.c.c rH
 have K:o<n:=by have:=aY m;omega
 refine .skip ?_
 ·first
   |exact ax (o-n) (by omega) kE.c.c.c.c.c.c.c rH
   |exact ax o (by omega) kE.c.c.c.c.c.c.c rH
 intro y M
 have a3:y<n:=M
 obtain⟨p,rfl⟩:∃p,p=y:=⟨_,rfl⟩
 obtain⟨x,g⟩:∃x,ys[i]? =some x:=⟨_,aC (by omega)⟩
 obtain⟨w,f⟩:∃x,ys[a+p]? =some x:=⟨_,aC (by omega)⟩
 refine aD<|.bF [17,19] mixed ?_
 refine .tO 0 rfl .move<|.tO 1 rfl .move<|.tK 2 rfl .move<|.tK 3 rfl .move<|.tK 4 rfl .move ?_
 refine .take 5 rfl (.i64 ((a+p:Nat):Int) .add ⟨by omega,by omega,by omega⟩) (by kernel_rfl) ?_
 refine .tO 6 rfl .move<|.tO 7 rfl .move<|.tO 8 rfl .move ?_
 refine .cH 9 rfl (.i64 ((a+p:Nat):Int) .add ⟨by omega,by omega,by omega⟩) (by kernel_rfl) ?_
 refine RA.au 10 rfl (a+p) d f rfl rfl rfl (by kernel_rfl) (λa4=>?_)
 refine .tO 11 rfl (.aE rfl)<|.tO 12 rfl .move<|.tO 13 rfl .move ?_
 refine RA.au 14 rfl (i) d g rfl rfl rfl (by kernel_rfl) (λa5=>?_)
 refine .tO 15 rfl (.aE rfl) ?_
 refine RA.au 16 rfl (i) d g rfl rfl rfl (by kernel_rfl) (λa6=>?_)
 refine .sT 17 rfl ?_
 refine .bt (i) d g w (λQ L=>?_) (d.one _ (aF f))
 refine .nil (Next.mod rfl ?_)
 refine RA.au 18 rfl (a+p) d f rfl rfl rfl (by kernel_rfl) (λa7=>?_)
 refine .sT 19 rfl ?_
 obtain⟨zz,N⟩:∃u,(ys.set (i) w)[a+p]? =some u:=⟨_,aC (by rw[adr];exact(ads.1 f).1)⟩
 refine .bt (a+p) L N x (λG E=>?_) (d.one _ (aF g))
 rw[<-bS g f]at E
 refine .nil (Next.mod rfl ?_)
 refine RA.nil (by kernel_rfl) ?_
 refine bi<|aD<|.region<|.mo rfl ?_
 refine .ia (i+1) .add ?_
 refine .ag rfl<|.nil ?_
 ·exact aN (i+1,l,bn ys i (a+p),G) ⟨⟨by simp only;omega,by simp only;omega⟩,E,k.step (by omega) (by omega) (by omega) (by omega) (by omega)⟩ (by simp only;omega) kE.c.c.c.c.c.c rH
 refine .exit<|aP<|aV<|aR<|ct _ .none (cu [1]) ?_
 ·exact⟨_,rfl,rfl,ys,d,k⟩
 refine .skip<|ct _ .none rH ?_
 ·exact⟨_,rfl,rfl,xs,h,.refl _⟩
end
end SGN
namespace SGN
section
variable{c:NP->NP->Int}{ok:NP->Prop}{f:FuncId}{caps:List Value} [e:aI prog f]
theorem iQ(v:Value)(xs:List NP)(T:ay)(a b:Nat)(R:aA)(h:OS 129 3 bN v xs T)(b5:a<b)(V:b<=xs.length)(hl:xs.length<=1000000000)(hf:cf prog f caps R (λp:NP=>Value.agg (bN p).toArray) c ok)(W:∀x∈xs,ok x)(so:SO (ap c))(c4:LB (ap c) xs a b):
  Spec prog 334 [v,.int .i64 a,.int .i64 b,.func (.func f) #[] caps.toArray] R [T] λu H'=>∃T',H'=[T']/\∃ys m,u=.bool m/\OS 129 3 bN v ys T'/\RP a b xs ys/\(m=true->SR (ap c) ys a b):=by
 have iv:=h.aL
 refine Spec.body func334 rfl results334 ntmps334 rfl ?_
 refine .sr<|.ag rfl<|.z<|.mo rfl ?_
 refine .ia (a+1) .add ?_
 refine .ag rfl<|.zs<|.sr<|.az rfl<|.block ?_
 refine .loop (X:=Nat×Nat×List NP×ay) (λy=>(y.1<=5/\a+1<=y.2.1/\y.2.1<=b)/\OS 129 3 bN v y.2.2.1 y.2.2.2/\RP a b xs y.2.2.1/\SR (ap c) y.2.2.1 a y.2.1) (λy=>[(0,v),(1,iN a),(2,iN b),(3,.func (.func f) #[] caps.toArray),(9,iN y.2.1),(10,iN y.1)]) (λy=>[y.2.2.2]) (λy=>5-y.1) (0,a+1,xs,T) ⟨⟨by omega,adq _,b5⟩,h,.refl _,λi j S U M=>by simp only at M;omega⟩ kE.c.c.c.c.c.c rH ?_
 rintro⟨n,i,ys,T1⟩ ⟨⟨hn,I,J⟩,B,N,E⟩
 simp only at hn I J B N E⊢
 have c8:=N.length
 refine .seq<|.sr<|.mo rfl<|.q .lss<|.zn ?_
 refine .cond rfl (λS=>?_) λS=>?_
 have d1:n<5:=de S
 refine .kn<|.seq<|.block<|.seq ?_
 refine bp.cut (X:=Nat) (λi=>(a+1<=i/\i<=b)/\SR (ap c) ys a i) (λi=>[(0,v),(1,iN a),(2,iN b),(3,.func (.func f) #[] caps.toArray),(9,iN i),(10,iN n)]) (λ_=>[T1]) ?_ ?_
 refine .block ?_
 refine .loop (X:=Nat) (λi=>(a+1<=i/\i<=b)/\SR (ap c) ys a i) (λi=>[(0,v),(1,iN a),(2,iN b),(3,.func (.func f) #[] caps.toArray),(9,iN i),(10,iN n)]) (λ_=>[T1]) (λi=>b-i) i ⟨⟨I,J⟩,E⟩ kE.c.c.c.c.c.c rH ?_
 clear I J E
 rintro i ⟨⟨I,J⟩,E⟩
 refine .seq<|.seq ?_
 refine .bQ 14 mixed (by kernel_rfl) ?_
 conv=>arg 6;dsimp only[List.take]
 refine .mo rfl<|.mo rfl<|.q .lss<|.mo rfl ?_
 refine .split (t:=22) rfl (λe=>?_) (λe=>?_)
 have c3:i<b:=by have:=bo e;omega
 obtain⟨x,F⟩:∃x,ys[i]? =some x:=⟨_,aC (by omega)⟩
 obtain⟨y,D⟩:∃x,ys[i-1]? =some x:=⟨_,aC (by omega)⟩
 have c6:=W x (N.perm.mem_iff.1 (aF F))
 have c7:=W y (N.perm.mem_iff.1 (aF D))
 refine .gT e<|.mo rfl<|.gT e<|.mo rfl<|.gT e<|.mo rfl<|.gT e ?_
 refine .au i B F (λe1=>?_)
 refine .gT e<|.q (.aE rfl)<|.gT e<|.mo rfl<|.gT e<|.mo rfl<|.gT e ?_
 refine .ia (i-1) .sub ?_
 refine .gT e ?_
 refine .au (i-1) B D (λe2=>?_)
 refine .gT e<|.q (.aE rfl)<|.nil<|.gT e ?_
 refine .cj (first:=[]) (captured:=caps) (vs:=[(λp:NP=>Value.agg (bN p).toArray) x,(λp:NP=>Value.agg (bN p).toArray) y]) (hf x y c6 c7 _ (λb o V=>.inl V)) (λu H=>?_)
 subst H
 refine .gT e<|.q .lss<|.gT e<|.q .not<|.q (.bu e) ?_
 refine .zn ?_
 refine .cond rfl (λU=>?_) λU=>?_
 refine .kn<|.block<|.region<|.mo rfl ?_
 refine .ia (i+1) .add ?_
 refine .ag rfl<|.nil<|bi ?_
 ·have c5:ap c x y=false:=by
   have b8:(!ap c x y)=true:=U
   simpa using b8
  exact aN (i+1) ⟨⟨by omega,by omega⟩,E.snoc so (by omega) (by omega) λu w H hw=>by
   rw[D]at H;rw[F]at hw;cases H;cases hw;exact c5⟩ (by omega) kE.c.c.c.c.c.c rH
 refine .exit<|aP<|aV<|aR ?_
 exact ax i ⟨⟨I,J⟩,E⟩ kE.c.c.c.c.c.c rH
 refine .gF e<|.gF e<|.gF e<|.gF e<|.gF e<|.gF e<|.gF e<|.gF e<|.gF e<|.gF e<|.nil<|.gF e<|.gF e<|.gF e<|.q (.bq e) ?_
 refine .zn<|.bB<|.exit<|aP<|aV<|aR ?_
 exact ax i ⟨⟨I,J⟩,E⟩ kE.c.c.c.c.c.c rH
 intro x F
 obtain⟨d,b6⟩:∃d,d=x:=⟨_,rfl⟩
 rw[<-b6]at F⊢
 clear b6 x I J E
 obtain⟨⟨I,J⟩,E⟩:=F
 refine aD<|.seq<|.sr<|.mo rfl<|.mo rfl<|.q .cA<|.zn ?_
 refine .cond rfl (λM=>?_) λM=>?_
 refine .sr<|.az rfl ?_
 refine .ret (aT (bg (aT (cc (bg (aT (aZ _ (.one (.tmp rfl)) rH ?_)))))))
 ·have c2:d=b:=by
   have b9:((d:Int)=b):=by simpa using M
   omega
  exact⟨_,rfl,ys,true,rfl,B,N,λ_=>c2▸E⟩
 have c3:d<b:=by
  have b9:¬((d:Int)=b):=by simpa using M
  omega
 obtain⟨x,F⟩:∃x,ys[d]? =some x:=⟨_,aC (by omega)⟩
 obtain⟨y,D⟩:∃x,ys[d-1]? =some x:=⟨_,aC (by omega)⟩
 refine .kn<|.seq<|.sr<|.mo rfl<|.mo rfl ?_
 refine .ia (b-a) .sub ?_
 refine .q .lss<|.zn ?_
 refine .cond rfl (λh4=>?_) λh4=>?_
 refine .sr<|.az rfl ?_
 refine .ret (aT (bg (aT (cc (bg (aT (aZ _ (.one (.tmp rfl)) rH ?_)))))))
 ·exact⟨_,rfl,ys,false,rfl,B,N,λh=>by cases h⟩
 refine .kn<|.seq<|.bF [15,17] mixed ?_
 refine .tO 0 rfl .move<|.tO 1 rfl .move<|.tK 2 rfl .move<|.tK 3 rfl .move ?_
 refine .take 4 rfl (.i64 ((d-1:Nat):Int) .sub ⟨by omega,by omega,by omega⟩) (by kernel_rfl) ?_
 refine .tO 5 rfl .move<|.tO 6 rfl .move ?_
 refine .cH 7 rfl (.i64 ((d-1:Nat):Int) .sub ⟨by omega,by omega,by omega⟩) (by kernel_rfl) ?_
 refine RA.au 8 rfl (d-1) B D rfl rfl rfl (by kernel_rfl) (λe3=>?_)
 refine .tO 9 rfl (.aE rfl)<|.tO 10 rfl .move<|.tO 11 rfl .move ?_
 refine RA.au 12 rfl (d) B F rfl rfl rfl (by kernel_rfl) (λe4=>?_)
 refine .tO 13 rfl (.aE rfl) ?_
 refine RA.au 14 rfl (d) B F rfl rfl rfl (by kernel_rfl) (λe5=>?_)
 refine .sT 15 rfl ?_
 refine .bt (d) B F y (λb1 a0=>?_) (B.one _ (aF D))
 refine .nil (Next.mod rfl ?_)
 refine RA.au 16 rfl (d-1) B D rfl rfl rfl (by kernel_rfl) (λe6=>?_)
 refine .sT 17 rfl ?_
 obtain⟨zz,a1⟩:∃u,(ys.set (d) y)[d-1]? =some u:=⟨_,aC (by rw[adr];exact(ads.1 D).1)⟩
 refine .bt (d-1) a0 a1 x (λL G=>?_) (B.one _ (aF F))
 rw[<-bS F D]at G
 refine .nil (Next.mod rfl ?_)
 refine RA.nil (by kernel_rfl) ?_
 have a3:=N.step (i:=d) (j:=d-1) (by omega) (by omega) (by omega) (by omega) (by omega)
 have c0:=E.lB (by omega)
 clear E
 refine aD<|.seq ?_
 refine bp.cut (X:=List NP×ay) (λz=>OS 129 3 bN v z.1 z.2/\RP a b xs z.1/\SR (ap c) z.1 a d) (λ_=>[(0,v),(1,iN a),(2,iN b),(3,.func (.func f) #[] caps.toArray),(9,iN d),(10,iN n)]) (λz=>[z.2]) ?_ ?_
 refine .sr<|.mo rfl<|.mo rfl ?_
 refine .ia (d-a) .sub ?_
 refine .q .geq<|.zn ?_
 refine .cond rfl (λh5=>?_) λh5=>?_
 refine .sr<|.mo rfl ?_
 refine .ia (d-1) .sub ?_
 refine .az rfl<|.block ?_
 refine .loop (X:=Nat×List NP×ay) (λz=>(a<=z.1/\z.1<=d-1)/\OS 129 3 bN v z.2.1 z.2.2/\RP a b xs z.2.1/\fg (ap c) z.2.1 a z.1 d) (λz=>[(0,v),(1,iN a),(2,iN b),(3,.func (.func f) #[] caps.toArray),(9,iN d),(10,iN n),(11,iN z.1)]) (λz=>[z.2.2]) (λz=>z.1) (d-1,bn ys d (d-1),L) ⟨⟨by simp only;omega,adq _⟩,G,a3,c0⟩ kE.c.c.c.c.c.c.c rH ?_
 rintro⟨q,A,K⟩ ⟨⟨a7,a8⟩,g,r,a2⟩
 simp only at a7 a8 g r a2⊢
 have c9:=r.length
 refine .seq<|.sr<|.mo rfl<|.q .geq<|.zn ?_
 refine .cond rfl (λh6=>?_) λh6=>?_
 have d2:1<=q:=by have:=bo h6;omega
 obtain⟨s,k⟩:∃x,A[q]? =some x:=⟨_,aC (by omega)⟩
 obtain⟨t,l⟩:∃x,A[q-1]? =some x:=⟨_,aC (by omega)⟩
 have a9:=W s (r.perm.mem_iff.1 (aF k))
 have b0:=W t (r.perm.mem_iff.1 (aF l))
 refine .kn<|.seq<|.block<|.seq<|.seq ?_
 refine .bQ 10 mixed (by kernel_rfl) ?_
 conv=>arg 6;dsimp only[List.take]
 refine .mo rfl<|.mo rfl<|.mo rfl ?_
 refine .au q g k (λe7=>?_)
 refine .q (.aE rfl)<|.mo rfl<|.mo rfl ?_
 refine .ia (q-1) .sub ?_
 refine .au (q-1) g l (λe8=>?_)
 refine .q (.aE rfl)<|.nil ?_
 refine .cj (first:=[]) (captured:=caps) (vs:=[(λp:NP=>Value.agg (bN p).toArray) s,(λp:NP=>Value.agg (bN p).toArray) t]) (hf s t a9 b0 _ (λb o V=>.inl V)) (λu H=>?_)
 subst H
 refine .q .lss<|.q .not<|.zn ?_
 refine .cond rfl (λh7=>?_) λh7=>?_
 have a4:SR (ap c) A a d:=a2.done so (by omega) (by omega) (by
  have a5:(!ap c s t)=true:=h7
  rcases adv a q with hh|hh
  ·exact .inr ⟨hh,λu w H hw=>by rw[l]at H;rw[k]at hw;cases H;cases hw;simpa using a5⟩
  ·exact .inl (by omega))
 refine .exit (aP (dn (aP (aV (aR ?_)))))
 ·first
   |exact ax (A,K) ⟨g,r,a4⟩ kE.c.c.c.c.c.c rH
   |exact ax (bn ys d (d-1),L) ⟨G,a3,λp q S U M=>by have:=aY h5;omega⟩ kE.c.c.c.c.c.c rH
 have a6:ap c s t=true:=by
  have a5:(!ap c s t)=false:=h7
  simpa using a5
 have c1:a<q:=by
  rcases adv a q with hh|hh
  ·exact hh
  ·have ea:q=a:=by omega
   subst ea
   have:=(c4.rp r) (by omega) q (adq _) b5 t s l k
   rw[this]at a6;cases a6
 refine .kn<|.bF [15,17] mixed ?_
 refine .tO 0 rfl .move<|.tO 1 rfl .move<|.tK 2 rfl .move<|.tK 3 rfl .move ?_
 refine .take 4 rfl (.i64 ((q-1:Nat):Int) .sub ⟨by omega,by omega,by omega⟩) (by kernel_rfl) ?_
 refine .tO 5 rfl .move<|.tO 6 rfl .move ?_
 refine .cH 7 rfl (.i64 ((q-1:Nat):Int) .sub ⟨by omega,by omega,by omega⟩) (by kernel_rfl) ?_
 refine RA.au 8 rfl (q-1) g l rfl rfl rfl (by kernel_rfl) (λe9=>?_)
 refine .tO 9 rfl (.aE rfl)<|.tO 10 rfl .move<|.tO 11 rfl .move ?_
 refine RA.au 12 rfl (q) g k rfl rfl rfl (by kernel_rfl) (λf0=>?_)
 refine .tO 13 rfl (.aE rfl) ?_
 refine RA.au 14 rfl (q) g k rfl rfl rfl (by kernel_rfl) (λf1=>?_)
 refine .sT 15 rfl ?_
 refine .bt (q) g k t (λb1 a0=>?_) (g.one _ (aF l))
 refine .nil (Next.mod rfl ?_)
 refine RA.au 16 rfl (q-1) g l rfl rfl rfl (by kernel_rfl) (λd4=>?_)
 refine .sT 17 rfl ?_
 obtain⟨zz,a1⟩:∃u,(A.set (q) t)[q-1]? =some u:=⟨_,aC (by rw[adr];exact(ads.1 l).1)⟩
 refine .bt (q-1) a0 a1 s (λL G=>?_) (g.one _ (aF k))
 rw[<-bS k l]at G
 refine .nil (Next.mod rfl ?_)
 refine RA.nil (by kernel_rfl) ?_
 refine bi<|aD<|.region<|.mo rfl ?_
 refine .ia (q-1) .sub ?_
 refine .ag rfl<|.nil ?_
 ·exact aN (q-1,bn A q (q-1),L) ⟨⟨by simp only;omega,by simp only;omega⟩,G,r.step (by omega) (by omega) (by omega) (by omega) (by omega),a2.step so (by omega) (by omega) c1 k l a6⟩ (by simp only;omega) kE.c.c.c.c.c.c.c rH
 have a4:SR (ap c) A a d:=a2.done so (by omega) (by omega) (.inl (by have:=aY h6;omega))
 refine .exit<|aP<|aV<|aR ?_
 ·first
   |exact ax (A,K) ⟨g,r,a4⟩ kE.c.c.c.c.c.c rH
   |exact ax (bn ys d (d-1),L) ⟨G,a3,λp q S U M=>by have:=aY h5;omega⟩ kE.c.c.c.c.c.c rH
 refine .skip ?_
 ·first
   |exact ax (A,K) ⟨g,r,a4⟩ kE.c.c.c.c.c.c rH
   |exact ax (bn ys d (d-1),L) ⟨G,a3,λp q S U M=>by have:=aY h5;omega⟩ kE.c.c.c.c.c.c rH
 intro y D
 obtain⟨A,K⟩:=y
 obtain⟨g,r,Y⟩:=D
 simp only at g r Y⊢
 refine aD ?_
 refine bp.cut (X:=List NP×ay) (λz=>OS 129 3 bN v z.1 z.2/\RP a b xs z.1/\SR (ap c) z.1 a d) (λ_=>[(0,v),(1,iN a),(2,iN b),(3,.func (.func f) #[] caps.toArray),(9,iN d),(10,iN n)]) (λz=>[z.2]) ?_ ?_
 refine .sr<|.mo rfl<|.mo rfl ?_
 refine .ia (b-d) .sub ?_
 refine .q .geq<|.zn ?_
 refine .cond rfl (λh8=>?_) λh8=>?_
 refine .sr<|.mo rfl ?_
 refine .ia (d+1) .add ?_
 refine .az rfl<|.block ?_
 refine .loop (X:=Nat×List NP×ay) (λz=>(d+1<=z.1/\z.1<=b)/\OS 129 3 bN v z.2.1 z.2.2/\RP a b xs z.2.1/\SR (ap c) z.2.1 a d) (λz=>[(0,v),(1,iN a),(2,iN b),(3,.func (.func f) #[] caps.toArray),(9,iN d),(10,iN n),(12,iN z.1)]) (λz=>[z.2.2]) (λz=>b-z.1) (d+1,A,K) ⟨⟨adq _,by simp only;omega⟩,g,r,Y⟩ kE.c.c.c.c.c.c.c rH ?_
 rintro⟨q,Q,T4⟩ ⟨⟨a7,a8⟩,C,O,Z⟩
 simp only at a7 a8 C O Z⊢
 have d0:=O.length
 refine .seq<|.sr<|.mo rfl<|.mo rfl<|.q .lss<|.zn ?_
 refine .cond rfl (λh9=>?_) λh9=>?_
 have d3:q<b:=de h9
 obtain⟨s,k⟩:∃x,Q[q]? =some x:=⟨_,aC (by omega)⟩
 obtain⟨t,l⟩:∃x,Q[q-1]? =some x:=⟨_,aC (by omega)⟩
 have a9:=W s (O.perm.mem_iff.1 (aF k))
 have b0:=W t (O.perm.mem_iff.1 (aF l))
 refine .kn<|.seq<|.block<|.seq<|.seq ?_
 refine .bQ 10 mixed (by kernel_rfl) ?_
 conv=>arg 6;dsimp only[List.take]
 refine .mo rfl<|.mo rfl<|.mo rfl ?_
 refine .au q C k (λd5=>?_)
 refine .q (.aE rfl)<|.mo rfl<|.mo rfl ?_
 refine .ia (q-1) .sub ?_
 refine .au (q-1) C l (λd6=>?_)
 refine .q (.aE rfl)<|.nil ?_
 refine .cj (first:=[]) (captured:=caps) (vs:=[(λp:NP=>Value.agg (bN p).toArray) s,(λp:NP=>Value.agg (bN p).toArray) t]) (hf s t a9 b0 _ (λb o V=>.inl V)) (λu H=>?_)
 subst H
 refine .q .lss<|.q .not<|.zn ?_
 refine .cond rfl (λb7=>?_) λb7=>?_
 refine .exit (aP (dn (aP (aV (aR ?_)))))
 ·first
   |exact ax (Q,T4) ⟨C,O,Z⟩ kE.c.c.c.c.c.c rH
   |exact ax (A,K) ⟨g,r,Y⟩ kE.c.c.c.c.c.c rH
 refine .kn<|.bF [15,17] mixed ?_
 refine .tO 0 rfl .move<|.tO 1 rfl .move<|.tK 2 rfl .move<|.tK 3 rfl .move ?_
 refine .take 4 rfl (.i64 ((q-1:Nat):Int) .sub ⟨by omega,by omega,by omega⟩) (by kernel_rfl) ?_
 refine .tO 5 rfl .move<|.tO 6 rfl .move ?_
 refine .cH 7 rfl (.i64 ((q-1:Nat):Int) .sub ⟨by omega,by omega,by omega⟩) (by kernel_rfl) ?_
 refine RA.au 8 rfl (q-1) C l rfl rfl rfl (by kernel_rfl) (λd7=>?_)
 refine .tO 9 rfl (.aE rfl)<|.tO 10 rfl .move<|.tO 11 rfl .move ?_
 refine RA.au 12 rfl (q) C k rfl rfl rfl (by kernel_rfl) (λd8=>?_)
 refine .tO 13 rfl (.aE rfl) ?_
 refine RA.au 14 rfl (q) C k rfl rfl rfl (by kernel_rfl) (λd9=>?_)
 refine .sT 15 rfl ?_
 refine .bt (q) C k t (λb1 a0=>?_) (C.one _ (aF l))
 refine .nil (Next.mod rfl ?_)
 refine RA.au 16 rfl (q-1) C l rfl rfl rfl (by kernel_rfl) (λe0=>?_)
 refine .sT 17 rfl ?_
 obtain⟨zz,a1⟩:∃u,(Q.set (q) t)[q-1]? =some u:=⟨_,aC (by rw[adr];exact(ads.1 l).1)⟩
 refine .bt (q-1) a0 a1 s (λL G=>?_) (C.one _ (aF k))
 rw[<-bS k l]at G
 refine .nil (Next.mod rfl ?_)
 refine RA.nil (by kernel_rfl) ?_
 refine bi<|aD<|.region<|.mo rfl ?_
 refine .ia (q+1) .add ?_
 refine .ag rfl<|.nil ?_
 ·exact aN (q+1,bn Q q (q-1),L) ⟨⟨by simp only;omega,by simp only;omega⟩,G,O.step (by omega) (by omega) (by omega) (by omega) (by omega),Z.lC (by omega) (by omega) (by omega) (by omega)⟩ (by simp only;omega) kE.c.c.c.c.c.c.c rH
 refine .exit<|aP<|aV<|aR ?_
 ·first
   |exact ax (Q,T4) ⟨C,O,Z⟩ kE.c.c.c.c.c.c rH
   |exact ax (A,K) ⟨g,r,Y⟩ kE.c.c.c.c.c.c rH
 refine .skip ?_
 ·first
   |exact ax (Q,T4) ⟨C,O,Z⟩ kE.c.c.c.c.c.c rH
   |exact ax (A,K) ⟨g,r,Y⟩ kE.c.c.c.c.c.c rH
 intro y D
 obtain⟨us,T5⟩:=y
 obtain⟨b2,b3,b4⟩:=D
 simp only at b2 b3 b4⊢
 refine bi<|aD<|.region<|.mo rfl ?_
 refine .ia (n+1) .add ?_
 refine .ag rfl<|.nil ?_
 ·exact aN (n+1,d,us,T5) ⟨⟨by simp only;omega,I,J⟩,b2,b3,b4⟩ (by simp only;omega) kE.c.c.c.c.c.c rH
 refine .exit<|aP<|aV<|aR<|aD<|.sr<|.az rfl ?_
 refine .ret (aZ _ (.one (.tmp rfl)) rH ?_)
 ·exact⟨_,rfl,ys,false,rfl,B,N,λh=>by cases h⟩
end
end SGN
namespace SGN
section
variable{c:NP->NP->Int}{ok:NP->Prop}{f:FuncId}{caps:List Value} [e:aI prog f]
theorem eQ(v:Value)(xs:List NP)(a b lo d g:Nat)(s:Int)(R:aA)(h:RS R 3 bN v xs)(i:lo<=a/\a<d)(e:lo<=b/\b<d)(A:d<=xs.length)(n:cf prog f caps R (λp:NP=>Value.agg (bN p).toArray) c ok)(j:∀x∈xs,ok x):
  Spec prog 448 [v,.int .i64 a,.int .i64 b,pT g,.func (.func f) #[] caps.toArray] R [bl g [.int .i64 s] 3] λu H'=>∃T',H'=[T']/\∃(s':Int) (p q:Nat),u=.tuple [.int .i64 p,.int .i64 q].toArray/\T'=(bl g [.int .i64 s'] 3)/\(lo<=p/\p<d)/\(lo<=q/\q<d):=by
 have B:=h.aL
 obtain⟨x,k⟩:∃x,xs[b]? =some x:=⟨_,aC (by omega)⟩
 obtain⟨y,l⟩:∃x,xs[a]? =some x:=⟨_,aC (by omega)⟩
 have t:=j x (aF k)
 have w:=j y (aF l)
 refine Spec.body func448 rfl results448 ntmps448 rfl ?_
 refine .sr<|.ag rfl<|.ag rfl<|.zs<|.seq ?_
 refine .bQ 9 mixed (by kernel_rfl) ?_
 conv=>arg 6;dsimp only[List.take]
 refine .mo rfl<|.mo rfl<|.mo rfl ?_
 refine .cR b h k (λC=>?_)
 refine .q (.aE rfl)<|.mo rfl<|.mo rfl ?_
 refine .cR a h l (λD=>?_)
 refine .q (.aE rfl)<|.nil ?_
 refine .cj (first:=[]) (captured:=caps) (vs:=[(λp:NP=>Value.agg (bN p).toArray) x,(λp:NP=>Value.agg (bN p).toArray) y]) (n x y t w _ (λb o e=>.inl e)) (λu r=>?_)
 subst r
 refine .q .lss<|.zn ?_
 refine .cond rfl (λm=>?_) λm=>?_
 refine .sr<|.mo rfl<|.nc rfl<|.lo rfl<|.q .add ?_
 refine .nc rfl<|.cO rfl rfl<|.z<|.mo rfl<|.mo rfl<|.ag rfl<|.az rfl ?_
 refine .ret (aT (aZ _ (.two (.tmp rfl) (.tmp rfl)) rH ?_))
 ·exact⟨_,rfl,_,b,a,rfl,rfl,e,i⟩
 refine .kn<|.sr<|.mo rfl<|.mo rfl<|.ag rfl<|.az rfl ?_
 refine .ret (aZ _ (.two (.tmp rfl) (.tmp rfl)) rH ?_)
 ·exact⟨_,rfl,_,a,b,rfl,rfl,i,e⟩
theorem fI(v:Value)(xs:List NP)(a b d lo e g:Nat)(s:Int)(R:aA)(h:RS R 3 bN v xs)(m:lo<=a/\a<e)(n:lo<=b/\b<e)(o:lo<=d/\d<e)(k:e<=xs.length)(j:cf prog f caps R (λp:NP=>Value.agg (bN p).toArray) c ok)(l:∀x∈xs,ok x):
  Spec prog 414 [v,.int .i64 a,.int .i64 b,.int .i64 d,pT g,.func (.func f) #[] caps.toArray] R [bl g [.int .i64 s] 3] λu H'=>∃T',H'=[T']/\∃(s':Int) (p:Nat),u=.int .i64 p/\T'=(bl g [.int .i64 s'] 3)/\(lo<=p/\p<e):=by
 have M:=h.aL
 refine Spec.body func414 rfl results414 ntmps414 rfl ?_
 refine .sr<|.ag rfl<|.z<|.mo rfl<|.mo rfl<|.mo rfl<|.mo rfl<|.mo rfl ?_
 refine .bb (eQ v xs a b lo e g s _ h m n k j l) (λu H i=>?_)
 obtain⟨E,A,C,rfl,rfl,r,w⟩:=i
 refine .mo rfl<|.q .extract<|.q .extract<|.ag rfl<|.ag rfl<|.z<|.mo rfl<|.mo rfl<|.mo rfl<|.mo rfl<|.mo rfl ?_
 refine .bb (eQ v xs C d lo e g E _ h w o k j l) (λu I i=>?_)
 obtain⟨F,B,O,rfl,rfl,t,L⟩:=i
 refine .mo rfl<|.q .extract<|.q .extract<|.ag rfl<|.ag rfl<|.z<|.mo rfl<|.mo rfl<|.mo rfl<|.mo rfl<|.mo rfl ?_
 refine .bb (eQ v xs A B lo e g F _ h r t k j l) (λu J i=>?_)
 obtain⟨G,N,D,rfl,rfl,K,y⟩:=i
 refine .mo rfl<|.q .extract<|.q .extract<|.ag rfl<|.ag rfl<|.z<|.mo rfl<|.az rfl ?_
 refine .ret (aZ _ (.one (.tmp rfl)) rH ?_)
 ·exact⟨_,rfl,G,D,rfl,rfl,y⟩
theorem eP(v:Value)(xs:List NP)(a lo d b:Nat)(s:Int)(R:aA)(h:RS R 3 bN v xs)(o:lo+1<=a/\a+1<d)(g:d<=xs.length)(q:xs.length<=1000000000)(e:cf prog f caps R (λp:NP=>Value.agg (bN p).toArray) c ok)(i:∀x∈xs,ok x):
  Spec prog 413 [v,.int .i64 a,pT b,.func (.func f) #[] caps.toArray] R [bl b [.int .i64 s] 3] λu H'=>∃T',H'=[T']/\∃(s':Int) (p:Nat),u=.int .i64 p/\T'=(bl b [.int .i64 s'] 3)/\(lo<=p/\p<d):=by
 have r:=h.aL
 refine Spec.body func413 rfl results413 ntmps413 rfl ?_
 refine .sr<|.ag rfl<|.z<|.mo rfl<|.mo rfl ?_
 refine .ia (a-1) .sub ?_
 refine .mo rfl<|.mo rfl ?_
 refine .ia (a+1) .add ?_
 refine .mo rfl<|.mo rfl ?_
 refine .bb (fI v xs (a-1) a (a+1) lo d b s _ h (by omega) (by omega) (by omega) g e i) (λu n k=>?_)
 obtain⟨m,l,rfl,rfl,j⟩:=k
 refine .az rfl ?_
 refine .ret (aZ _ (.one (.tmp rfl)) rH ?_)
 ·exact⟨_,rfl,m,l,rfl,rfl,j⟩
theorem choose_spec(v:Value)(xs:List NP)(a b:Nat)(R:aA)(h:RS R 3 bN v xs)(Y:a<b)(l:b<=xs.length)(w:xs.length<=1000000000)(m:cf prog f caps R (λp:NP=>Value.agg (bN p).toArray) c ok)(o:∀x∈xs,ok x):
  Spec prog 332 [v,.int .i64 a,.int .i64 b,.func (.func f) #[] caps.toArray] R [] λu H'=>(∃(p:Nat) (t:Int),u=.tuple [.int .i64 p,.int .i64 t].toArray/\a<=p/\p<b)/\H'=[]:=by
 have iv:=h.aL
 obtain⟨n,U⟩:∃n,b=a+n:=⟨b-a,by omega⟩
 subst U
 obtain⟨q,A⟩:∃q,q=n/4:=⟨_,rfl⟩
 refine Spec.body func332 rfl results332 ntmps332 rfl ?_
 refine .sr<|.ag rfl<|.ag rfl<|.z<|.mo rfl<|.mo rfl ?_
 refine .ia (n) .sub ?_
 refine .ag rfl<|.z ?_
 refine .hK (λe=>?_)
 refine .z<|.mo rfl<|.mo rfl ?_
 refine .q (.i64 ((q:Nat):Int) .quo ⟨by rw[A,adt (by omega)];omega,by omega,by omega⟩) ?_
 refine .ia (q) .mul ?_
 refine .ia (a+q) .add ?_
 refine .ag rfl<|.z<|.mo rfl<|.mo rfl ?_
 refine .q (.i64 ((q:Nat):Int) .quo ⟨by rw[A,adt (by omega)];omega,by omega,by omega⟩) ?_
 refine .ia (q*2) .mul ?_
 refine .ia (a+q*2) .add ?_
 refine .ag rfl<|.z<|.mo rfl<|.mo rfl ?_
 refine .q (.i64 ((q:Nat):Int) .quo ⟨by rw[A,adt (by omega)];omega,by omega,by omega⟩) ?_
 refine .ia (q*3) .mul ?_
 refine .ia (a+q*3) .add ?_
 refine .ag rfl<|.zs ?_
 refine bp.cut (X:=Nat×Int) (λz=>a<=z.1/\z.1<a+n) (λz=>[(11,pT e),(13,iN z.1)]) (λz=>[bl e [.int .i64 z.2] 3]) ?_ ?_
 refine .sr<|.mo rfl<|.q .geq<|.zn ?_
 refine .cond rfl (λB=>?_) λB=>?_
 have a0:8<=n:=by have:=bo B;omega
 refine .seq ?_
 refine bp.cut (X:=Nat×Nat×Nat×Int) (λz=>(a<=z.1/\z.1<a+n)/\(a<=z.2.1/\z.2.1<a+n)/\(a<=z.2.2.1/\z.2.2.1<a+n)) (λz=>[(0,v),(3,.func (.func f) #[] caps.toArray),(11,pT e),(12,iN z.1),(13,iN z.2.1),(14,iN z.2.2.1)]) (λz=>[bl e [.int .i64 z.2.2.2] 3]) ?_ ?_
 refine .sr<|.mo rfl<|.q .geq<|.zn ?_
 refine .cond rfl (λC=>?_) λC=>?_
 have Z:50<=n:=by have:=bo C;omega
 refine .sr<|.mo rfl<|.mo rfl<|.mo rfl ?_
 refine .bb (eP v xs (a+q) a (a+n) e 0 _ h (by omega) l w m o) (λu r g=>?_)
 obtain⟨V,K,rfl,rfl,G⟩:=g
 refine .ag rfl<|.z<|.mo rfl<|.mo rfl<|.mo rfl ?_
 refine .bb (eP v xs (a+q*2) a (a+n) e V _ h (by omega) l w m o) (λu r g=>?_)
 obtain⟨W,L,rfl,rfl,H⟩:=g
 refine .az rfl<|.region<|.mo rfl<|.mo rfl<|.mo rfl ?_
 refine .bb (eP v xs (a+q*3) a (a+n) e W _ h (by omega) l w m o) (λu r g=>?_)
 obtain⟨O,M,rfl,rfl,I⟩:=g
 refine .ag rfl<|.nil ?_
 ·first
   |exact ax (K,L,M,O) ⟨G,H,I⟩ kE.c.c.c.c.c.c rH
   |exact ax (a+q,a+q*2,a+q*3,0) ⟨by simp only;omega,by simp only;omega,by simp only;omega⟩ kE.c.c.c.c.c.c rH
 refine .skip ?_
 ·first
   |exact ax (K,L,M,O) ⟨G,H,I⟩ kE.c.c.c.c.c.c rH
   |exact ax (a+q,a+q*2,a+q*3,0) ⟨by simp only;omega,by simp only;omega,by simp only;omega⟩ kE.c.c.c.c.c.c rH
 intro y d
 obtain⟨i,j,k,s⟩:=y
 obtain⟨D,E,F⟩:=d
 simp only at D E F⊢
 refine aD<|.region<|.mo rfl<|.mo rfl<|.mo rfl<|.mo rfl<|.mo rfl ?_
 refine .bb (fI v xs i j k a (a+n) e s _ h D E F l m o) (λu r g=>?_)
 obtain⟨Q,N,rfl,rfl,J⟩:=g
 refine .ag rfl<|.nil ?_
 ·first
   |exact ax (N,Q) J kE.c.c rH
   |exact ax (a+q*2,0) (by simp only;omega) kE.c.c rH
 refine .skip ?_
 ·first
   |exact ax (N,Q) J kE.c.c rH
   |exact ax (a+q*2,0) (by simp only;omega) kE.c.c rH
 intro y d
 obtain⟨p,s⟩:=y
 simp only at d⊢
 refine aD<|.sr<|.lo rfl<|.zn<|.block<|.sr<|.q .cA<|.az rfl ?_
 refine .cond rfl (λS=>?_) λS=>?_
 refine .sr<|.mo rfl<|.ag rfl<|.az rfl ?_
 refine .ret (bg (aZ _ (.two (.tmp rfl) (.tmp rfl)) (.none _) ?_))
 ·exact⟨⟨p,_,rfl,d.1,d.2⟩,rfl⟩
 refine .sr<|.q .cA<|.az rfl ?_
 refine .cond rfl (λT=>?_) λT=>?_
 refine .sr<|.mo rfl<|.ag rfl<|.az rfl ?_
 refine .ret (bg (aZ _ (.two (.tmp rfl) (.tmp rfl)) (.none _) ?_))
 ·exact⟨⟨p,_,rfl,d.1,d.2⟩,rfl⟩
 refine .sr<|.mo rfl<|.ag rfl<|.az rfl ?_
 refine .ret (bg (aZ _ (.two (.tmp rfl) (.tmp rfl)) (.none _) ?_))
 ·exact⟨⟨p,_,rfl,d.1,d.2⟩,rfl⟩
end
end SGN
namespace SGN
section
variable{c:NP->NP->Int}{ok:NP->Prop}{f:FuncId}{caps:List Value} [e:aI prog f]
theorem iP(v:Value)(xs:List NP)(T:ay)(a b m:Nat)(p:NP)(R:aA)(h:OS 129 3 bN v xs T)(b1:a<b)(hm:a<=m/\m<b)(C:xs[m]? =some p)(U:b<=xs.length)(hl:xs.length<=1000000000)(hf:cf prog f caps R (λp:NP=>Value.agg (bN p).toArray) c ok)(a0:∀x∈xs,ok x)(so:SO (ap c))
  (b7:∀(k:Nat) (x:NP),a<=k->k<b->xs[k]? =some x->ap c x p=false):
  Spec prog 335 [v,.int .i64 a,.int .i64 b,.int .i64 m,.func (.func f) #[] caps.toArray] R [T] λu H'=>∃T',H'=[T']/\∃ys mid,u=iN mid/\OS 129 3 bN v ys T'/\RP a b xs ys/\jG (ap c) ys a mid b p:=by
 have iv:=h.aL
 obtain⟨x0,E⟩:∃x,xs[a]? =some x:=⟨_,aC (by omega)⟩
 have a8:=a0 p (aF C)
 refine Spec.body func335 rfl results335 ntmps335 rfl ?_
 refine .sr<|.ag rfl<|.zs<|.bF [13,15] mixed ?_
 refine .tO 0 rfl .move<|.tO 1 rfl .move<|.tK 2 rfl .move<|.tK 3 rfl .move<|.tO 4 rfl .move<|.tO 5 rfl .move ?_
 refine RA.au 6 rfl (m) h C rfl rfl rfl (by kernel_rfl) (λd1=>?_)
 refine .tO 7 rfl (.aE rfl)<|.tO 8 rfl .move<|.tO 9 rfl .move ?_
 refine RA.au 10 rfl (a) h E rfl rfl rfl (by kernel_rfl) (λd2=>?_)
 refine .tO 11 rfl (.aE rfl) ?_
 refine RA.au 12 rfl (a) h E rfl rfl rfl (by kernel_rfl) (λd3=>?_)
 refine .sT 13 rfl ?_
 refine .bt (a) h E p (λa9 a1=>?_) (h.one _ (aF C))
 refine .nil (Next.mod rfl ?_)
 refine RA.au 14 rfl (m) h C rfl rfl rfl (by kernel_rfl) (λd4=>?_)
 refine .sT 15 rfl ?_
 obtain⟨zz,a2⟩:∃u,(xs.set (a) p)[m]? =some u:=⟨_,aC (by rw[adr];exact(ads.1 C).1)⟩
 refine .bt (m) a1 a2 x0 (λY K=>?_) (h.one _ (aF E))
 rw[<-bS E C]at K
 refine .nil (Next.mod rfl ?_)
 refine RA.nil (by kernel_rfl) ?_
 have b0:RP a b xs (bn xs a m):=(RP.refl xs).step (by omega) (by omega) (by omega) (by omega) (by omega)
 have b2:(bn xs a m)[a]? =some p:=by
  rw[cX (by omega) (by omega)]
  by_cases hk:a=m
  ·rw[if_pos hk,E, <-C, <-hk,E]
  ·rw[if_neg hk,if_pos rfl,C]
 refine aD<|.sr<|.mo rfl ?_
 refine .ia (a+1) .add ?_
 refine .mo rfl ?_
 refine .ia (b-1) .sub ?_
 refine .ag rfl<|.ag rfl<|.zs<|.block ?_
 refine .loop (X:=Nat×Nat×List NP×ay) (λy=>OS 129 3 bN v y.2.2.1 y.2.2.2/\RP a b xs y.2.2.1/\PQ (λx=> !ap c p x) y.2.2.1 a y.1 y.2.1 b p) (λy=>[(0,v),(1,iN a),(4,.func (.func f) #[] caps.toArray),(11,iN y.1),(12,iN y.2.1)]) (λy=>[y.2.2.2]) (λy=>y.2.1+1-y.1) (a+1,b-1,bn xs a m,Y) ⟨K,b0,.start b1 b2⟩ kE.c.c.c.c.c rH ?_
 rintro⟨i,j,ys,N⟩ ⟨r,D,G⟩
 simp only at r D G⊢
 have d0:=D.length
 have c4:=G.i0
 have c6:=G.ij
 have c8:=G.jb
 have a7:=G.at_
 refine .block<|.seq ?_
 refine bp.cut (X:=Nat) (λs=>i<=s/\PQ (λx=> !ap c p x) ys a s j b p/\∀x,s<=j->ys[s]? =some x->(!ap c p x)=false) (λs=>[(0,v),(1,iN a),(4,.func (.func f) #[] caps.toArray),(11,.int .i64 (s:Nat)),(12,iN j)]) (λ_=>[N]) ?_ ?_
 refine .block ?_
 refine .loop (X:=Nat) (λs=>i<=s/\PQ (λx=> !ap c p x) ys a s j b p) (λs=>[(0,v),(1,iN a),(4,.func (.func f) #[] caps.toArray),(11,.int .i64 (s:Nat)),(12,iN j)]) (λ_=>[N]) (λs=>j+1-s) i ⟨adq _,G⟩ kE.c.c.c.c.c rH ?_
 rintro A ⟨V,I⟩
 refine .seq<|.seq ?_
 refine .bQ 13 mixed (by kernel_rfl) ?_
 conv=>arg 6;dsimp only[List.take]
 refine .mo rfl<|.mo rfl<|.q .leq<|.mo rfl ?_
 refine .split (t:=34) rfl (λd=>?_) (λd=>?_)
 have b5:A<=j:=by have:=bo d;omega
 obtain⟨x2,L⟩:∃x,ys[A]? =some x:=⟨_,aC (by omega)⟩
 have c2:=a0 x2 (D.perm.mem_iff.1 (aF L))
 refine .gT d<|.mo rfl<|.gT d<|.mo rfl<|.gT d<|.mo rfl<|.gT d ?_
 refine .au a r a7 (λd5=>?_)
 refine .gT d<|.q (.aE rfl)<|.gT d<|.mo rfl<|.gT d<|.mo rfl<|.gT d ?_
 refine .au A r L (λd6=>?_)
 refine .gT d<|.q (.aE rfl)<|.nil<|.gT d ?_
 refine .cj (first:=[]) (captured:=caps) (vs:=[(λp:NP=>Value.agg (bN p).toArray) p,(λp:NP=>Value.agg (bN p).toArray) x2]) (hf p x2 a8 c2 _ (λb o U=>.inl U)) (λu hu=>?_)
 subst hu
 refine .gT d<|.q .lss<|.gT d<|.q .not<|.q (.bu d) ?_
 refine .zn ?_
 refine .cond rfl (λO=>?_) λO=>?_
 refine .kn<|.block<|.region<|.mo rfl ?_
 refine .ia (A+1) .add ?_
 refine .ag rfl<|.nil<|bi ?_
 ·exact aN (A+1) ⟨by omega,I.inc b5 L O⟩ (by omega) kE.c.c.c.c.c rH
 refine .exit<|aP<|aV<|aR ?_
 first
  |exact ax A ⟨V,I,λx g n=>by rw[L]at n;cases n;exact O⟩ kE.c.c.c.c.c rH
  |exact ax A ⟨V,I,λx g n=>by have:=aY d;omega⟩ kE.c.c.c.c.c rH
 refine .gF d<|.gF d<|.gF d<|.gF d<|.gF d<|.gF d<|.gF d<|.gF d<|.gF d<|.nil<|.gF d<|.gF d<|.gF d<|.q (.bq d) ?_
 refine .zn<|.bB<|.exit<|aP<|aV<|aR ?_
 first
  |exact ax A ⟨V,I,λx g n=>by rw[L]at n;cases n;exact O⟩ kE.c.c.c.c.c rH
  |exact ax A ⟨V,I,λx g n=>by have:=aY d;omega⟩ kE.c.c.c.c.c rH
 intro x g
 obtain⟨l,a4⟩:∃l,l=x:=⟨_,rfl⟩
 rw[<-a4]at g⊢
 clear a4 x
 obtain⟨c5,a3,c0⟩:=g
 refine aD<|.seq ?_
 refine bp.cut (X:=Nat) (λw=>w<=j/\PQ (λx=> !ap c p x) ys a l w b p/\∀x,l<=w->ys[w]? =some x->(!ap c p x)=true) (λw=>[(0,v),(1,iN a),(4,.func (.func f) #[] caps.toArray),(11,iN l),(12,.int .i64 (w:Nat))]) (λ_=>[N]) ?_ ?_
 refine .block ?_
 refine .loop (X:=Nat) (λw=>w<=j/\PQ (λx=> !ap c p x) ys a l w b p) (λw=>[(0,v),(1,iN a),(4,.func (.func f) #[] caps.toArray),(11,iN l),(12,.int .i64 (w:Nat))]) (λ_=>[N]) (λw=>w) j ⟨adq _,a3⟩ kE.c.c.c.c.c rH ?_
 rintro B ⟨W,J⟩
 have b4:=a3.i0
 refine .seq<|.seq ?_
 refine .bQ 13 mixed (by kernel_rfl) ?_
 conv=>arg 6;dsimp only[List.take]
 refine .mo rfl<|.mo rfl<|.q .leq<|.mo rfl ?_
 refine .split (t:=53) rfl (λe=>?_) (λe=>?_)
 have b6:l<=B:=by have:=bo e;omega
 obtain⟨H,M⟩:∃x,ys[B]? =some x:=⟨_,aC (by omega)⟩
 have c3:=a0 H (D.perm.mem_iff.1 (aF M))
 refine .gT e<|.mo rfl<|.gT e<|.mo rfl<|.gT e<|.mo rfl<|.gT e ?_
 refine .au a r a7 (λd7=>?_)
 refine .gT e<|.q (.aE rfl)<|.gT e<|.mo rfl<|.gT e<|.mo rfl<|.gT e ?_
 refine .au B r M (λd8=>?_)
 refine .gT e<|.q (.aE rfl)<|.nil<|.gT e ?_
 refine .cj (first:=[]) (captured:=caps) (vs:=[(λp:NP=>Value.agg (bN p).toArray) p,(λp:NP=>Value.agg (bN p).toArray) H]) (hf p H a8 c3 _ (λb o U=>.inl U)) (λu hu=>?_)
 subst hu
 refine .gT e<|.q .lss<|.q (.bu e) ?_
 refine .zn ?_
 refine .cond rfl (λQ=>?_) λQ=>?_
 refine .kn<|.block<|.region<|.mo rfl ?_
 refine .ia (B-1) .sub ?_
 refine .ag rfl<|.nil<|bi ?_
 ·have b8:ap c p H=true:=Q
  exact aN (B-1) ⟨by omega,J.dec b6 M (by rw[b8];rfl)⟩ (by omega) kE.c.c.c.c.c rH
 refine .exit<|aP<|aV<|aR ?_
 first
  |exact ax B ⟨W,J,λx g n=>by have hh:ap c p H=false:=Q;rw[M]at n;cases n;rw[hh];rfl⟩ kE.c.c.c.c.c rH
  |exact ax B ⟨W,J,λx g n=>by have:=aY e;omega⟩ kE.c.c.c.c.c rH
 refine .gF e<|.gF e<|.gF e<|.gF e<|.gF e<|.gF e<|.gF e<|.gF e<|.gF e<|.nil<|.gF e<|.gF e<|.q (.bq e) ?_
 refine .zn<|.bB<|.exit<|aP<|aV<|aR ?_
 first
  |exact ax B ⟨W,J,λx g n=>by have hh:ap c p H=false:=Q;rw[M]at n;cases n;rw[hh];rfl⟩ kE.c.c.c.c.c rH
  |exact ax B ⟨W,J,λx g n=>by have:=aY e;omega⟩ kE.c.c.c.c.c rH
 intro x g
 obtain⟨z,a5⟩:∃z,z=x:=⟨_,rfl⟩
 rw[<-a5]at g⊢
 clear a5 x
 obtain⟨c9,S,c1⟩:=g
 have b4:=S.i0
 have c7:=S.ij
 refine aD<|.seq<|.sr<|.mo rfl<|.mo rfl<|.q .gtr<|.zn ?_
 refine .cond rfl (λZ=>?_) λZ=>?_
 refine .exit (aP (dn (aV (aR ?_))))
 refine aD<|.sr<|.mo rfl<|.az rfl ?_
 refine .ret (aZ _ (.one (.tmp rfl)) rH ?_)
 ·have b3:z<l:=de Z
  exact⟨_,rfl,ys,l,rfl,r,D,S.kU so b3 (D.all (p:=λx=>ap c x p=false) b7)⟩
 have a6:l<=z:=by have:=aY Z;omega
 obtain⟨x,g⟩:∃x,ys[l]? =some x:=⟨_,aC (by omega)⟩
 obtain⟨y,F⟩:∃x,ys[z]? =some x:=⟨_,aC (by omega)⟩
 have b9:=S.sw a6 (by omega) g F (c0 x (by omega) g) (c1 y a6 F)
 refine .kn<|.seq<|.bF [13,15] mixed ?_
 refine .tO 0 rfl .move<|.tO 1 rfl .move<|.tK 2 rfl .move<|.tK 3 rfl .move<|.tO 4 rfl .move<|.tO 5 rfl .move ?_
 refine RA.au 6 rfl (z) r F rfl rfl rfl (by kernel_rfl) (λd9=>?_)
 refine .tO 7 rfl (.aE rfl)<|.tO 8 rfl .move<|.tO 9 rfl .move ?_
 refine RA.au 10 rfl (l) r g rfl rfl rfl (by kernel_rfl) (λe0=>?_)
 refine .tO 11 rfl (.aE rfl) ?_
 refine RA.au 12 rfl (l) r g rfl rfl rfl (by kernel_rfl) (λe1=>?_)
 refine .sT 13 rfl ?_
 refine .bt (l) r g y (λa9 a1=>?_) (r.one _ (aF F))
 refine .nil (Next.mod rfl ?_)
 refine RA.au 14 rfl (z) r F rfl rfl rfl (by kernel_rfl) (λe2=>?_)
 refine .sT 15 rfl ?_
 obtain⟨zz,a2⟩:∃u,(ys.set (l) y)[z]? =some u:=⟨_,aC (by rw[adr];exact(ads.1 F).1)⟩
 refine .bt (z) a1 a2 x (λY K=>?_) (r.one _ (aF g))
 rw[<-bS g F]at K
 refine .nil (Next.mod rfl ?_)
 refine RA.nil (by kernel_rfl) ?_
 refine aD<|.sr<|.mo rfl ?_
 refine .ia (l+1) .add ?_
 refine .az rfl<|.region<|.mo rfl ?_
 refine .ia (z-1) .sub ?_
 refine .ag rfl<|.nil<|bi ?_
 ·exact aN (l+1,z-1,bn ys l z,Y) ⟨K,D.step (by omega) (by omega) (by omega) (by omega) (by omega),b9.2⟩ (by simp only;omega) kE.c.c.c.c.c rH
theorem fJ(v:Value)(xs:List NP)(T:ay)(a b m:Nat)(p:NP)(R:aA)(h:OS 129 3 bN v xs T)(e0:a<b)(hm:a<=m/\m<b)(U:xs[m]? =some p)(S:b<=xs.length)(hl:xs.length<=1000000000)(hf:cf prog f caps R (λp:NP=>Value.agg (bN p).toArray) c ok)(b0:∀x∈xs,ok x)(so:SO (ap c)):
  Spec prog 336 [v,.int .i64 a,.int .i64 b,.int .i64 m,.func (.func f) #[] caps.toArray] R [T] λu H'=>∃T',H'=[T']/\∃ys mid z,u=.tuple [iN mid,.bool z].toArray/\OS 129 3 bN v ys T'/\RP a b xs ys/\Part (ap c) ys a mid b p:=by
 have iv:=h.aL
 obtain⟨x0,Z⟩:∃x,xs[a]? =some x:=⟨_,aC (by omega)⟩
 have c3:=b0 p (aF U)
 refine Spec.body func336 rfl results336 ntmps336 rfl ?_
 refine .sr<|.ag rfl<|.ag rfl<|.zs<|.bF [13,15] mixed ?_
 refine .tO 0 rfl .move<|.tO 1 rfl .move<|.tK 2 rfl .move<|.tK 3 rfl .move<|.tO 4 rfl .move<|.tO 5 rfl .move ?_
 refine RA.au 6 rfl (m) h U rfl rfl rfl (by kernel_rfl) (λk0=>?_)
 refine .tO 7 rfl (.aE rfl)<|.tO 8 rfl .move<|.tO 9 rfl .move ?_
 refine RA.au 10 rfl (a) h Z rfl rfl rfl (by kernel_rfl) (λk1=>?_)
 refine .tO 11 rfl (.aE rfl) ?_
 refine RA.au 12 rfl (a) h Z rfl rfl rfl (by kernel_rfl) (λk4=>?_)
 refine .sT 13 rfl ?_
 refine .bt (a) h Z p (λb7 J=>?_) (h.one _ (aF U))
 refine .nil (Next.mod rfl ?_)
 refine RA.au 14 rfl (m) h U rfl rfl rfl (by kernel_rfl) (λk5=>?_)
 refine .sT 15 rfl ?_
 obtain⟨zz,K⟩:∃u,(xs.set (a) p)[m]? =some u:=⟨_,aC (by rw[adr];exact(ads.1 U).1)⟩
 refine .bt (m) J K x0 (λV E=>?_) (h.one _ (aF Z))
 rw[<-bS Z U]at E
 refine .nil (Next.mod rfl ?_)
 refine RA.nil (by kernel_rfl) ?_
 have a4:RP a b xs (bn xs a m):=(RP.refl xs).step (by omega) (by omega) (by omega) (by omega) (by omega)
 have I:(bn xs a m)[a]? =some p:=by
  rw[cX (by omega) (by omega)]
  by_cases hk:a=m
  ·rw[if_pos hk,Z, <-U, <-hk,Z]
  ·rw[if_neg hk,if_pos rfl,U]
 obtain⟨D,d5⟩:∃D,D=bn xs a m:=⟨_,rfl⟩
 rw[<-d5]at E a4 I
 obtain⟨T0,d9⟩:∃T0,T0=V:=⟨_,rfl⟩
 rw[<-d9]at E⊢
 have h8:=a4.length
 have A:=E
 clear E
 have d8:PQ (λx=>ap c x p) D a (a+1) (b-1) b p:=.start e0 I
 clear d5
 refine aD<|.sr<|.mo rfl ?_
 refine .ia (a+1) .add ?_
 refine .mo rfl ?_
 refine .ia (b-1) .sub ?_
 refine .ag rfl<|.ag rfl<|.zs ?_
 refine bp.cut (X:=Nat) (λs=>PQ (λx=>ap c x p) D a s (b-1) b p/\∀x,s<=b-1->D[s]? =some x->ap c x p=false) (λs=>[(0,v),(1,iN a),(4,.func (.func f) #[] caps.toArray),(12,.int .i64 (s:Nat)),(13,.int .i64 ((b-1:Nat):Int))]) (λ_=>[T0]) ?_ ?_
 refine .block ?_
 refine .loop (X:=Nat) (λs=>PQ (λx=>ap c x p) D a s (b-1) b p) (λs=>[(0,v),(1,iN a),(4,.func (.func f) #[] caps.toArray),(12,.int .i64 (s:Nat)),(13,.int .i64 ((b-1:Nat):Int))]) (λ_=>[T0]) (λs=>b-s) (a+1) d8 kE.c.c.c.c.c rH ?_
 rintro L a6
 refine .seq<|.seq ?_
 refine .bQ 13 mixed (by kernel_rfl) ?_
 conv=>arg 6;dsimp only[List.take]
 refine .mo rfl<|.mo rfl<|.q .leq<|.mo rfl ?_
 refine .split (t:=35) rfl (λn=>?_) (λn=>?_)
 have e4:L<=b-1:=by have:=bo n;omega
 obtain⟨x2,b2⟩:∃x,D[L]? =some x:=⟨_,aC (by omega)⟩
 have f6:=b0 x2 (a4.perm.mem_iff.1 (aF b2))
 refine .gT n<|.mo rfl<|.gT n<|.mo rfl<|.gT n<|.mo rfl<|.gT n ?_
 refine .au L A b2 (λk6=>?_)
 refine .gT n<|.q (.aE rfl)<|.gT n<|.mo rfl<|.gT n<|.mo rfl<|.gT n ?_
 refine .au a A I (λk7=>?_)
 refine .gT n<|.q (.aE rfl)<|.nil<|.gT n ?_
 refine .cj (first:=[]) (captured:=caps) (vs:=[(λp:NP=>Value.agg (bN p).toArray) x2,(λp:NP=>Value.agg (bN p).toArray) p]) (hf x2 p f6 c3 _ (λb o S=>.inl S)) (λu Y=>?_)
 subst Y
 refine .gT n<|.q .lss<|.q (.bu n) ?_
 refine .zn ?_
 refine .cond rfl (λh1=>?_) λh1=>?_
 refine .kn<|.block<|.region<|.mo rfl ?_
 refine .ia (L+1) .add ?_
 refine .ag rfl<|.nil<|bi ?_
 ·exact aN (L+1) (a6.inc e4 b2 h1) (by omega) kE.c.c.c.c.c rH
 refine .exit<|aP<|aV<|aR ?_
 first
  |exact ax L ⟨a6,λx d e=>by rw[b2]at e;cases e;exact h1⟩ kE.c.c.c.c.c rH
  |exact ax L ⟨a6,λx d e=>by have:=aY n;omega⟩ kE.c.c.c.c.c rH
 refine .gF n<|.gF n<|.gF n<|.gF n<|.gF n<|.gF n<|.gF n<|.gF n<|.gF n<|.nil<|.gF n<|.gF n<|.q (.bq n) ?_
 refine .zn<|.bB<|.exit<|aP<|aV<|aR ?_
 first
  |exact ax L ⟨a6,λx d e=>by rw[b2]at e;cases e;exact h1⟩ kE.c.c.c.c.c rH
  |exact ax L ⟨a6,λx d e=>by have:=aY n;omega⟩ kE.c.c.c.c.c rH
 intro x d
 obtain⟨B,c7⟩:∃B,B=x:=⟨_,rfl⟩
 rw[<-c7]at d⊢
 clear c7 x
 obtain⟨c5,f2⟩:=d
 refine aD<|.seq ?_
 refine bp.cut (X:=Nat) (λr=>r<=b-1/\PQ (λx=>ap c x p) D a B r b p/\∀x,B<=r->D[r]? =some x->ap c x p=true) (λr=>[(0,v),(1,iN a),(4,.func (.func f) #[] caps.toArray),(12,iN B),(13,.int .i64 (r:Nat))]) (λ_=>[T0]) ?_ ?_
 refine .block ?_
 refine .loop (X:=Nat) (λr=>r<=b-1/\PQ (λx=>ap c x p) D a B r b p) (λr=>[(0,v),(1,iN a),(4,.func (.func f) #[] caps.toArray),(12,iN B),(13,.int .i64 (r:Nat))]) (λ_=>[T0]) (λr=>r) (b-1) ⟨adq _,c5⟩ kE.c.c.c.c.c rH ?_
 rintro M ⟨c0,a7⟩
 have e2:=c5.i0
 refine .seq<|.seq ?_
 refine .bQ 13 mixed (by kernel_rfl) ?_
 conv=>arg 6;dsimp only[List.take]
 refine .mo rfl<|.mo rfl<|.q .leq<|.mo rfl ?_
 refine .split (t:=53) rfl (λk=>?_) (λk=>?_)
 have e5:B<=M:=by have:=bo k;omega
 obtain⟨x4,b3⟩:∃x,D[M]? =some x:=⟨_,aC (by omega)⟩
 have f7:=b0 x4 (a4.perm.mem_iff.1 (aF b3))
 refine .gT k<|.mo rfl<|.gT k<|.mo rfl<|.gT k<|.mo rfl<|.gT k ?_
 refine .au M A b3 (λk8=>?_)
 refine .gT k<|.q (.aE rfl)<|.gT k<|.mo rfl<|.gT k<|.mo rfl<|.gT k ?_
 refine .au a A I (λk9=>?_)
 refine .gT k<|.q (.aE rfl)<|.nil<|.gT k ?_
 refine .cj (first:=[]) (captured:=caps) (vs:=[(λp:NP=>Value.agg (bN p).toArray) x4,(λp:NP=>Value.agg (bN p).toArray) p]) (hf x4 p f7 c3 _ (λb o S=>.inl S)) (λu Y=>?_)
 subst Y
 refine .gT k<|.q .lss<|.gT k<|.q .not<|.q (.bu k) ?_
 refine .zn ?_
 refine .cond rfl (λh2=>?_) λh2=>?_
 refine .kn<|.block<|.region<|.mo rfl ?_
 refine .ia (M-1) .sub ?_
 refine .ag rfl<|.nil<|bi ?_
 ·have e8:ap c x4 p=false:=by
   have d6:(!ap c x4 p)=true:=h2
   simpa using d6
  exact aN (M-1) ⟨by omega,a7.dec e5 b3 e8⟩ (by omega) kE.c.c.c.c.c rH
 refine .exit<|aP<|aV<|aR ?_
 first
  |exact ax M ⟨c0,a7,λx d e=>by
    have W:(!ap c x4 p)=false:=h2
    rw[b3]at e;cases e
    simpa using W⟩ kE.c.c.c.c.c rH
  |exact ax M ⟨c0,a7,λx d e=>by have:=aY k;omega⟩ kE.c.c.c.c.c rH
 refine .gF k<|.gF k<|.gF k<|.gF k<|.gF k<|.gF k<|.gF k<|.gF k<|.gF k<|.nil<|.gF k<|.gF k<|.gF k<|.q (.bq k) ?_
 refine .zn<|.bB<|.exit<|aP<|aV<|aR ?_
 first
  |exact ax M ⟨c0,a7,λx d e=>by
    have W:(!ap c x4 p)=false:=h2
    rw[b3]at e;cases e
    simpa using W⟩ kE.c.c.c.c.c rH
  |exact ax M ⟨c0,a7,λx d e=>by have:=aY k;omega⟩ kE.c.c.c.c.c rH
 intro x d
 obtain⟨w,c8⟩:∃w,w=x:=⟨_,rfl⟩
 rw[<-c8]at d⊢
 clear c8 x
 obtain⟨g9,b8,f3⟩:=d
 have e2:=b8.i0
 have g3:=b8.ij
 refine aD<|.seq<|.sr<|.mo rfl<|.mo rfl<|.q .gtr<|.zn ?_
 refine .cond rfl (λh3=>?_) λh3=>?_
 have e1:w<B:=de h3
 obtain⟨y,G⟩:∃x,D[w]? =some x:=⟨_,aC (by omega)⟩
 refine .seq<|.bF [13,15] mixed ?_
 refine .tO 0 rfl .move<|.tO 1 rfl .move<|.tK 2 rfl .move<|.tK 3 rfl .move<|.tO 4 rfl .move<|.tO 5 rfl .move ?_
 refine RA.au 6 rfl (a) A I rfl rfl rfl (by kernel_rfl) (λl0=>?_)
 refine .tO 7 rfl (.aE rfl)<|.tO 8 rfl .move<|.tO 9 rfl .move ?_
 refine RA.au 10 rfl (w) A G rfl rfl rfl (by kernel_rfl) (λl1=>?_)
 refine .tO 11 rfl (.aE rfl) ?_
 refine RA.au 12 rfl (w) A G rfl rfl rfl (by kernel_rfl) (λl2=>?_)
 refine .sT 13 rfl ?_
 refine .bt (w) A G p (λb7 J=>?_) (A.one _ (aF I))
 refine .nil (Next.mod rfl ?_)
 refine RA.au 14 rfl (a) A I rfl rfl rfl (by kernel_rfl) (λl3=>?_)
 refine .sT 15 rfl ?_
 obtain⟨zz,K⟩:∃u,(D.set (w) p)[a]? =some u:=⟨_,aC (by rw[adr];exact(ads.1 I).1)⟩
 refine .bt (a) J K y (λV E=>?_) (A.one _ (aF G))
 rw[<-bS G I]at E
 refine .nil (Next.mod rfl ?_)
 refine RA.nil (by kernel_rfl) ?_
 refine aD<|.sr<|.mo rfl<|.ag rfl<|.az rfl ?_
 refine .ret (aT (aZ _ (.two (.tmp rfl) (.tmp rfl)) rH ?_))
 ·exact⟨_,rfl,bn D w a,w,true,rfl,E,a4.step (by omega) (by omega) (by omega) (by omega) (by omega),b8.fin e1 (by omega)⟩
 have d1:B<=w:=by have:=aY h3;omega
 obtain⟨x,d⟩:∃x,D[B]? =some x:=⟨_,aC (by omega)⟩
 obtain⟨y,G⟩:∃x,D[w]? =some x:=⟨_,aC (by omega)⟩
 have f0:=b8.sw d1 (by omega) d G (f2 x (by omega) d) (f3 y d1 G)
 refine .kn<|.seq<|.bF [13,15] mixed ?_
 refine .tO 0 rfl .move<|.tO 1 rfl .move<|.tK 2 rfl .move<|.tK 3 rfl .move<|.tO 4 rfl .move<|.tO 5 rfl .move ?_
 refine RA.au 6 rfl (w) A G rfl rfl rfl (by kernel_rfl) (λl4=>?_)
 refine .tO 7 rfl (.aE rfl)<|.tO 8 rfl .move<|.tO 9 rfl .move ?_
 refine RA.au 10 rfl (B) A d rfl rfl rfl (by kernel_rfl) (λl5=>?_)
 refine .tO 11 rfl (.aE rfl) ?_
 refine RA.au 12 rfl (B) A d rfl rfl rfl (by kernel_rfl) (λl6=>?_)
 refine .sT 13 rfl ?_
 refine .bt (B) A d y (λb7 J=>?_) (A.one _ (aF G))
 refine .nil (Next.mod rfl ?_)
 refine RA.au 14 rfl (w) A G rfl rfl rfl (by kernel_rfl) (λi1=>?_)
 refine .sT 15 rfl ?_
 obtain⟨zz,K⟩:∃u,(D.set (B) y)[w]? =some u:=⟨_,aC (by rw[adr];exact(ads.1 G).1)⟩
 refine .bt (w) J K x (λV E=>?_) (A.one _ (aF d))
 rw[<-bS d G]at E
 refine .nil (Next.mod rfl ?_)
 refine RA.nil (by kernel_rfl) ?_
 refine aD<|.sr<|.mo rfl ?_
 refine .ia (B+1) .add ?_
 refine .ag rfl<|.z<|.mo rfl ?_
 refine .ia (w-1) .sub ?_
 refine .ag rfl<|.zs ?_
 refine bp.cut (X:=Nat×Nat×List NP×ay) (λy=>OS 129 3 bN v y.2.2.1 y.2.2.2/\RP a b xs y.2.2.1/\PQ (λx=>ap c x p) y.2.2.1 a y.1 y.2.1 b p/\y.2.1<y.1) (λy=>[(0,v),(1,iN a),(4,.func (.func f) #[] caps.toArray),(12,iN y.1),(13,iN y.2.1)]) (λy=>[y.2.2.2]) ?_ ?_
 refine .block ?_
 refine .loop (X:=Nat×Nat×List NP×ay) (λy=>OS 129 3 bN v y.2.2.1 y.2.2.2/\RP a b xs y.2.2.1/\PQ (λx=>ap c x p) y.2.2.1 a y.1 y.2.1 b p) (λy=>[(0,v),(1,iN a),(4,.func (.func f) #[] caps.toArray),(12,iN y.1),(13,iN y.2.1)]) (λy=>[y.2.2.2]) (λy=>y.2.1+1-y.1) (B+1,w-1,bn D B w,V) ⟨E,a4.step (by omega) (by omega) (by omega) (by omega) (by omega),f0.2⟩ kE.c.c.c.c.c rH ?_
 rintro⟨i,j,ys,T1⟩ ⟨F,a5,a2⟩
 simp only at F a5 a2⊢
 have h7:=a5.length
 have g0:=a2.i0
 have g2:=a2.ij
 have g7:=a2.jb
 have d4:=a2.at_
 refine .block<|.seq ?_
 refine bp.cut (X:=Nat) (λs=>i<=s/\PQ (λx=>ap c x p) ys a s j b p/\∀x,s<=j->ys[s]? =some x->ap c x p=false) (λs=>[(0,v),(1,iN a),(4,.func (.func f) #[] caps.toArray),(12,.int .i64 (s:Nat)),(13,iN j)]) (λ_=>[T1]) ?_ ?_
 refine .block ?_
 refine .loop (X:=Nat) (λs=>i<=s/\PQ (λx=>ap c x p) ys a s j b p) (λs=>[(0,v),(1,iN a),(4,.func (.func f) #[] caps.toArray),(12,.int .i64 (s:Nat)),(13,iN j)]) (λ_=>[T1]) (λs=>j+1-s) i ⟨adq _,a2⟩ kE.c.c.c.c.c rH ?_
 rintro N ⟨c1,a8⟩
 refine .seq<|.seq ?_
 refine .bQ 13 mixed (by kernel_rfl) ?_
 conv=>arg 6;dsimp only[List.take]
 refine .mo rfl<|.mo rfl<|.q .leq<|.mo rfl ?_
 refine .split (t:=108) rfl (λl=>?_) (λl=>?_)
 have e6:N<=j:=by have:=bo l;omega
 obtain⟨x6,b4⟩:∃x,ys[N]? =some x:=⟨_,aC (by omega)⟩
 have f8:=b0 x6 (a5.perm.mem_iff.1 (aF b4))
 refine .gT l<|.mo rfl<|.gT l<|.mo rfl<|.gT l<|.mo rfl<|.gT l ?_
 refine .au N F b4 (λi4=>?_)
 refine .gT l<|.q (.aE rfl)<|.gT l<|.mo rfl<|.gT l<|.mo rfl<|.gT l ?_
 refine .au a F d4 (λi5=>?_)
 refine .gT l<|.q (.aE rfl)<|.nil<|.gT l ?_
 refine .cj (first:=[]) (captured:=caps) (vs:=[(λp:NP=>Value.agg (bN p).toArray) x6,(λp:NP=>Value.agg (bN p).toArray) p]) (hf x6 p f8 c3 _ (λb o S=>.inl S)) (λu Y=>?_)
 subst Y
 refine .gT l<|.q .lss<|.q (.bu l) ?_
 refine .zn ?_
 refine .cond rfl (λh4=>?_) λh4=>?_
 refine .kn<|.block<|.region<|.mo rfl ?_
 refine .ia (N+1) .add ?_
 refine .ag rfl<|.nil<|bi ?_
 ·exact aN (N+1) ⟨by omega,a8.inc e6 b4 h4⟩ (by omega) kE.c.c.c.c.c rH
 refine .exit<|aP<|aV<|aR ?_
 first
  |exact ax N ⟨c1,a8,λx d e=>by rw[b4]at e;cases e;exact h4⟩ kE.c.c.c.c.c rH
  |exact ax N ⟨c1,a8,λx d e=>by have:=aY l;omega⟩ kE.c.c.c.c.c rH
 refine .gF l<|.gF l<|.gF l<|.gF l<|.gF l<|.gF l<|.gF l<|.gF l<|.gF l<|.nil<|.gF l<|.gF l<|.q (.bq l) ?_
 refine .zn<|.bB<|.exit<|aP<|aV<|aR ?_
 first
  |exact ax N ⟨c1,a8,λx d e=>by rw[b4]at e;cases e;exact h4⟩ kE.c.c.c.c.c rH
  |exact ax N ⟨c1,a8,λx d e=>by have:=aY l;omega⟩ kE.c.c.c.c.c rH
 intro x d
 obtain⟨C,d0⟩:∃C,C=x:=⟨_,rfl⟩
 rw[<-d0]at d⊢
 clear d0 x
 obtain⟨g6,c6,f4⟩:=d
 refine aD<|.seq ?_
 refine bp.cut (X:=Nat) (λr=>r<=j/\PQ (λx=>ap c x p) ys a C r b p/\∀x,C<=r->ys[r]? =some x->ap c x p=true) (λr=>[(0,v),(1,iN a),(4,.func (.func f) #[] caps.toArray),(12,iN C),(13,.int .i64 (r:Nat))]) (λ_=>[T1]) ?_ ?_
 refine .block ?_
 refine .loop (X:=Nat) (λr=>r<=j/\PQ (λx=>ap c x p) ys a C r b p) (λr=>[(0,v),(1,iN a),(4,.func (.func f) #[] caps.toArray),(12,iN C),(13,.int .i64 (r:Nat))]) (λ_=>[T1]) (λr=>r) j ⟨adq _,c6⟩ kE.c.c.c.c.c rH ?_
 rintro O ⟨c2,a9⟩
 have e3:=c6.i0
 refine .seq<|.seq ?_
 refine .bQ 13 mixed (by kernel_rfl) ?_
 conv=>arg 6;dsimp only[List.take]
 refine .mo rfl<|.mo rfl<|.q .leq<|.mo rfl ?_
 refine .split (t:=126) rfl (λg=>?_) (λg=>?_)
 have e7:C<=O:=by have:=bo g;omega
 obtain⟨x7,b5⟩:∃x,ys[O]? =some x:=⟨_,aC (by omega)⟩
 have f9:=b0 x7 (a5.perm.mem_iff.1 (aF b5))
 refine .gT g<|.mo rfl<|.gT g<|.mo rfl<|.gT g<|.mo rfl<|.gT g ?_
 refine .au O F b5 (λi6=>?_)
 refine .gT g<|.q (.aE rfl)<|.gT g<|.mo rfl<|.gT g<|.mo rfl<|.gT g ?_
 refine .au a F d4 (λi7=>?_)
 refine .gT g<|.q (.aE rfl)<|.nil<|.gT g ?_
 refine .cj (first:=[]) (captured:=caps) (vs:=[(λp:NP=>Value.agg (bN p).toArray) x7,(λp:NP=>Value.agg (bN p).toArray) p]) (hf x7 p f9 c3 _ (λb o S=>.inl S)) (λu Y=>?_)
 subst Y
 refine .gT g<|.q .lss<|.gT g<|.q .not<|.q (.bu g) ?_
 refine .zn ?_
 refine .cond rfl (λh5=>?_) λh5=>?_
 refine .kn<|.block<|.region<|.mo rfl ?_
 refine .ia (O-1) .sub ?_
 refine .ag rfl<|.nil<|bi ?_
 ·have e9:ap c x7 p=false:=by
   have d7:(!ap c x7 p)=true:=h5
   simpa using d7
  exact aN (O-1) ⟨by omega,a9.dec e7 b5 e9⟩ (by omega) kE.c.c.c.c.c rH
 refine .exit<|aP<|aV<|aR ?_
 first
  |exact ax O ⟨c2,a9,λx d e=>by
    have W:(!ap c x7 p)=false:=h5
    rw[b5]at e;cases e
    simpa using W⟩ kE.c.c.c.c.c rH
  |exact ax O ⟨c2,a9,λx d e=>by have:=aY g;omega⟩ kE.c.c.c.c.c rH
 refine .gF g<|.gF g<|.gF g<|.gF g<|.gF g<|.gF g<|.gF g<|.gF g<|.gF g<|.nil<|.gF g<|.gF g<|.gF g<|.q (.bq g) ?_
 refine .zn<|.bB<|.exit<|aP<|aV<|aR ?_
 first
  |exact ax O ⟨c2,a9,λx d e=>by
    have W:(!ap c x7 p)=false:=h5
    rw[b5]at e;cases e
    simpa using W⟩ kE.c.c.c.c.c rH
  |exact ax O ⟨c2,a9,λx d e=>by have:=aY g;omega⟩ kE.c.c.c.c.c rH
 intro x d
 obtain⟨H,d3⟩:∃H,H=x:=⟨_,rfl⟩
 rw[<-d3]at d⊢
 clear d3 x
 obtain⟨h0,b9,f5⟩:=d
 have e3:=b9.i0
 have g4:=b9.ij
 refine aD<|.seq<|.sr<|.mo rfl<|.mo rfl<|.q .gtr<|.zn ?_
 refine .cond rfl (λh6=>?_) λh6=>?_
 refine .exit (aP (dn (aV (aR ?_))))
 exact ax (C,H,ys,T1) ⟨F,a5,b9,by have:=bo h6;simp only;omega⟩ kE.c.c.c.c.c rH
 have d2:C<=H:=by have:=aY h6;omega
 obtain⟨x8,a0⟩:∃x,ys[C]? =some x:=⟨_,aC (by omega)⟩
 obtain⟨y8,a1⟩:∃x,ys[H]? =some x:=⟨_,aC (by omega)⟩
 have f1:=b9.sw d2 (by omega) a0 a1 (f4 x8 (by omega) a0) (f5 y8 d2 a1)
 refine .kn<|.seq<|.bF [13,15] mixed ?_
 refine .tO 0 rfl .move<|.tO 1 rfl .move<|.tK 2 rfl .move<|.tK 3 rfl .move<|.tO 4 rfl .move<|.tO 5 rfl .move ?_
 refine RA.au 6 rfl (H) F a1 rfl rfl rfl (by kernel_rfl) (λi8=>?_)
 refine .tO 7 rfl (.aE rfl)<|.tO 8 rfl .move<|.tO 9 rfl .move ?_
 refine RA.au 10 rfl (C) F a0 rfl rfl rfl (by kernel_rfl) (λj0=>?_)
 refine .tO 11 rfl (.aE rfl) ?_
 refine RA.au 12 rfl (C) F a0 rfl rfl rfl (by kernel_rfl) (λj1=>?_)
 refine .sT 13 rfl ?_
 refine .bt (C) F a0 y8 (λb7 J=>?_) (F.one _ (aF a1))
 refine .nil (Next.mod rfl ?_)
 refine RA.au 14 rfl (H) F a1 rfl rfl rfl (by kernel_rfl) (λj4=>?_)
 refine .sT 15 rfl ?_
 obtain⟨zz,K⟩:∃u,(ys.set (C) y8)[H]? =some u:=⟨_,aC (by rw[adr];exact(ads.1 a1).1)⟩
 refine .bt (H) J K x8 (λV E=>?_) (F.one _ (aF a0))
 rw[<-bS a0 a1]at E
 refine .nil (Next.mod rfl ?_)
 refine RA.nil (by kernel_rfl) ?_
 refine aD<|.sr<|.mo rfl ?_
 refine .ia (C+1) .add ?_
 refine .az rfl<|.region<|.mo rfl ?_
 refine .ia (H-1) .sub ?_
 refine .ag rfl<|.nil<|bi ?_
 ·exact aN (C+1,H-1,bn ys C H,V) ⟨E,a5.step (by omega) (by omega) (by omega) (by omega) (by omega),f1.2⟩ (by simp only;omega) kE.c.c.c.c.c rH
 intro x d
 obtain⟨i9,j9,zs,T9⟩:=x
 obtain⟨Q,c4,a3,c9⟩:=d
 simp only at Q c4 a3 c9⊢
 have h9:=c4.length
 have g5:=a3.ij
 have g1:=a3.i0
 have g8:=a3.jb
 have b1:=a3.at_
 obtain⟨y9,b6⟩:∃x,zs[j9]? =some x:=⟨_,aC (by omega)⟩
 refine aD<|.seq<|.bF [13,15] mixed ?_
 refine .tO 0 rfl .move<|.tO 1 rfl .move<|.tK 2 rfl .move<|.tK 3 rfl .move<|.tO 4 rfl .move<|.tO 5 rfl .move ?_
 refine RA.au 6 rfl (a) Q b1 rfl rfl rfl (by kernel_rfl) (λj5=>?_)
 refine .tO 7 rfl (.aE rfl)<|.tO 8 rfl .move<|.tO 9 rfl .move ?_
 refine RA.au 10 rfl (j9) Q b6 rfl rfl rfl (by kernel_rfl) (λj6=>?_)
 refine .tO 11 rfl (.aE rfl) ?_
 refine RA.au 12 rfl (j9) Q b6 rfl rfl rfl (by kernel_rfl) (λj7=>?_)
 refine .sT 13 rfl ?_
 refine .bt (j9) Q b6 p (λb7 J=>?_) (Q.one _ (aF b1))
 refine .nil (Next.mod rfl ?_)
 refine RA.au 14 rfl (a) Q b1 rfl rfl rfl (by kernel_rfl) (λj8=>?_)
 refine .sT 15 rfl ?_
 obtain⟨zz,K⟩:∃u,(zs.set (j9) p)[a]? =some u:=⟨_,aC (by rw[adr];exact(ads.1 b1).1)⟩
 refine .bt (a) J K y9 (λV E=>?_) (Q.one _ (aF b6))
 rw[<-bS b6 b1]at E
 refine .nil (Next.mod rfl ?_)
 refine RA.nil (by kernel_rfl) ?_
 refine aD<|.sr<|.mo rfl<|.ag rfl<|.az rfl ?_
 refine .ret (aZ _ (.two (.tmp rfl) (.tmp rfl)) rH ?_)
 ·exact⟨_,rfl,bn zs j9 a,j9,false,rfl,E,c4.step (by omega) (by omega) (by omega) (by omega) (by omega),a3.fin c9 (by omega)⟩
end
end SGN
namespace SGN
section
variable{c:NP->NP->Int}{ok:NP->Prop}{f:FuncId}{caps:List Value} [e:aI prog f]
def fD(c:NP->NP->Int)(ok:NP->Prop)(f:FuncId)(caps:List Value)(n:Nat):Prop:=∀(v:Value) (xs:List NP) (T:ay) (a b lim:Nat) (R:aA),OS 129 3 bN v xs T->a<=b->b<=xs.length->xs.length<=1000000000->lim<=1000000000->cf prog f caps R (λp:NP=>Value.agg (bN p).toArray) c ok->(∀x∈xs,ok x)->LB (ap c) xs a b->b-a<n->
  Spec prog 234 [v,.int .i64 a,.int .i64 b,.int .i64 lim,.func (.func f) #[] caps.toArray] R [T] λu H'=>∃T',H'=[T']/\u=.tuple #[]/\∃ys,OS 129 3 bN v ys T'/\RP a b xs ys/\SR (ap c) ys a b
theorem iS(n:Nat)(ih:fD c ok f caps n)(D:SO (ap c))(v:Value)(xs:List NP)(T:ay)(H F c7:Nat)(R:aA)(h:OS 129 3 bN v xs T)(d6:H<=F)(hb:F<=xs.length)(hl:xs.length<=1000000000)(e0:c7<=1000000000)(O:cf prog f caps R (λp:NP=>Value.agg (bN p).toArray) c ok)(e2:∀x∈xs,ok x)(d8:LB (ap c) xs H F)(hn:F-H<n+1):
  Spec prog 234 [v,.int .i64 H,.int .i64 F,.int .i64 c7,.func (.func f) #[] caps.toArray] R [T] λu H'=>∃T',H'=[T']/\u=.tuple #[]/\∃ys,OS 129 3 bN v ys T'/\RP H F xs ys/\SR (ap c) ys H F:=by
 have iv:=h.aL
 refine Spec.body func234 rfl results234 ntmps234 rfl ?_
 refine .sr<|.ag rfl<|.z<|.az rfl<|.block ?_
 refine .loop (X:=Nat×Nat×Nat×Bool×Bool×List NP×ay) (λy=>(H<=y.1/\y.1<=y.2.1/\y.2.1<=F/\y.2.2.1<=1000000000)/\OS 129 3 bN v y.2.2.2.2.2.1 y.2.2.2.2.2.2/\RP H F xs y.2.2.2.2.2.1/\OX (ap c) y.2.2.2.2.2.1 H F y.1 y.2.1) (λy=>[(0,v),(1,iN y.1),(2,iN y.2.1),(3,iN y.2.2.1),(4,.func (.func f) #[] caps.toArray),(10,.bool y.2.2.2.1),(11,.bool y.2.2.2.2.1)]) (λy=>[y.2.2.2.2.2.2]) (λy=>y.2.1-y.1) (H,F,c7,true,true,xs,T) ⟨⟨adq _,d6,adq _,e0⟩,h,.refl _,.start⟩ kE.c.c.c.c.c.c.c rH ?_
 rintro⟨a,b,l,wb,wp,ys,T1⟩ ⟨⟨e,c1,g,d7⟩,b1,U,Z⟩
 simp only at e c1 g d7 b1 U Z⊢
 have f0:=U.length
 have b8:∀x∈ys,ok x:=λx W=>e2 x (U.perm.mem_iff.1 W)
 have d1:=Z.lb (d8.rp U) e g
 refine .block<|.sr<|.mo rfl<|.mo rfl ?_
 refine .ia (b-a) .sub ?_
 refine .ag rfl<|.zs<|.sr<|.mo rfl<|.q .leq<|.zn ?_
 refine .cond rfl (λh1=>?_) λh1=>?_
 refine .sr<|.mo rfl<|.mo rfl<|.mo rfl<|.mo rfl ?_
 refine .bb (iJ v ys T1 a b _ b1 c1 (by omega) (by omega) O b8 D) (λu T2 k=>?_)
 obtain⟨rfl,N,I,B,c0⟩:=k
 refine .zn ?_
 refine .ret (aT (bg (cc (bg (aZ _ .none rH ?_)))))
 ·first
   |exact⟨_,rfl,rfl,N,I,U.trans (B.mono e g (by omega)),(Z.rp B e g).cZ c0⟩
   |exact⟨_,rfl,rfl,ms,a2,U.trans ((C.trans Y).mono e g (by omega)),(Z.rp (C.trans Y) e g).cZ (c4 (by assumption))⟩
 have f4:12<b-a:=by have:=aY h1;omega
 refine .kn<|.seq<|.sr<|.mo rfl<|.q .cA<|.zn ?_
 refine .cond rfl (λh2=>?_) λh2=>?_
 refine .sr<|.mo rfl<|.mo rfl<|.mo rfl<|.mo rfl ?_
 refine .bb (iI v ys T1 a b _ b1 c1 (by omega) (by omega) O b8 D) (λu T2 k=>?_)
 obtain⟨rfl,N,I,B,c0⟩:=k
 refine .zn ?_
 refine .ret (aT (bg (cc (bg (aZ _ .none rH ?_)))))
 ·first
   |exact⟨_,rfl,rfl,N,I,U.trans (B.mono e g (by omega)),(Z.rp B e g).cZ c0⟩
   |exact⟨_,rfl,rfl,ms,a2,U.trans ((C.trans Y).mono e g (by omega)),(Z.rp (C.trans Y) e g).cZ (c4 (by assumption))⟩
 have e9:0<l:=by
  have e8:¬((l:Int)=0):=by simpa using h2
  omega
 refine .kn<|.seq ?_
 refine bp.cut (X:=Nat×List NP×ay) (λz=>z.1<=1000000000/\OS 129 3 bN v z.2.1 z.2.2/\RP a b ys z.2.1) (λz=>[(0,v),(1,iN a),(2,iN b),(3,iN z.1),(4,.func (.func f) #[] caps.toArray),(10,.bool wb),(11,.bool wp),(12,.int .i64 ((b-a:Nat):Int))]) (λz=>[z.2.2]) ?_ ?_
 refine .sr<|.mo rfl<|.q .not<|.zn ?_
 refine .cond rfl (λh3=>?_) λh3=>?_
 refine .sr<|.mo rfl<|.mo rfl<|.mo rfl<|.mo rfl ?_
 refine .bb (iF v ys T1 a b _ (.func (.func f) #[] caps.toArray) inferInstance b1 c1 (by omega) (by omega)) (λu T2 k=>?_)
 obtain⟨rfl,N,I,B⟩:=k
 refine .zn<|.region<|.mo rfl ?_
 refine .ia (l-1) .sub ?_
 refine .ag rfl<|.nil ?_
 ·first
   |exact ax (l-1,N,T2) ⟨by simp only;omega,I,B⟩ kE.c.c.c.c.c.c.c.c rH
   |exact ax (l,ys,T1) ⟨by simp only;omega,b1,.refl _⟩ kE.c.c.c.c.c.c.c.c rH
 refine .skip ?_
 ·first
   |exact ax (l-1,N,T2) ⟨by simp only;omega,I,B⟩ kE.c.c.c.c.c.c.c.c rH
   |exact ax (l,ys,T1) ⟨by simp only;omega,b1,.refl _⟩ kE.c.c.c.c.c.c.c.c rH
 intro y hy
 obtain⟨r,N,T2⟩:=y
 obtain⟨s,I,B⟩:=hy
 simp only at s I B⊢
 have f1:=B.length
 have e3:∀x∈N,ok x:=λx W=>b8 x (B.perm.mem_iff.1 W)
 refine aD<|.sr<|.mo rfl<|.mo rfl<|.mo rfl<|.mo rfl ?_
 refine .bc (choose_spec v N a b _ (I.rs λp hp=>.inr (by simpa using hp)) (by omega) (by omega) (by omega) (O.mono λb o hb=>.inl hb) e3) (λu k=>?_)
 obtain⟨pv,d0,rfl,d2,d3⟩:=k
 refine .mo rfl<|.q .extract<|.q .extract<|.ag rfl<|.ag rfl<|.zs ?_
 refine bp.cut (X:=Nat×Int×List NP×ay) (λz=>(a<=z.1/\z.1<b)/\OS 129 3 bN v z.2.2.1 z.2.2.2/\RP a b ys z.2.2.1) (λz=>[(0,v),(1,iN a),(2,iN b),(3,iN r),(4,.func (.func f) #[] caps.toArray),(10,.bool wb),(11,.bool wp),(12,.int .i64 ((b-a:Nat):Int)),(13,iN z.1),(14,.int .i64 z.2.1)]) (λz=>[z.2.2.2]) ?_ ?_
 refine .sr<|.mo rfl<|.q .cA<|.zn ?_
 refine .cond rfl (λh4=>?_) λh4=>?_
 refine .sr<|.mo rfl<|.mo rfl<|.mo rfl<|.mo rfl ?_
 refine .bb (iT v N T2 a b _ (.func (.func f) #[] caps.toArray) inferInstance I (by omega) (by omega) (by omega)) (λu T3 k=>?_)
 obtain⟨rfl,ws,c8,c9⟩:=k
 refine .z<|.mo rfl ?_
 refine .ia (b-1) .sub ?_
 refine .mo rfl<|.mo rfl ?_
 refine .ia (pv-a) .sub ?_
 refine .ia ((b-1)-(pv-a)) .sub ?_
 refine .az rfl<|.region<|.ag rfl<|.nil ?_
 ·first
   |exact ax ((b-1)-(pv-a),1,ws,T3) ⟨by simp only;omega,c8,B.trans c9⟩ kE.c.c.c.c.c.c.c.c.c.c rH
   |exact ax (pv,d0,N,T2) ⟨⟨d2,d3⟩,I,B⟩ kE.c.c.c.c.c.c.c.c.c.c rH
 refine .skip ?_
 ·first
   |exact ax ((b-1)-(pv-a),1,ws,T3) ⟨by simp only;omega,c8,B.trans c9⟩ kE.c.c.c.c.c.c.c.c.c.c rH
   |exact ax (pv,d0,N,T2) ⟨⟨d2,d3⟩,I,B⟩ kE.c.c.c.c.c.c.c.c.c.c rH
 intro y hy
 obtain⟨q,f5,us,T4⟩:=y
 obtain⟨⟨c2,c3⟩,b2,C⟩:=hy
 simp only at c2 c3 b2 C⊢
 have f2:=C.length
 have e4:∀x∈us,ok x:=λx W=>b8 x (C.perm.mem_iff.1 W)
 refine aD<|.seq ?_
 refine bp.cut (X:=List NP×ay) (λz=>OS 129 3 bN v z.1 z.2/\RP a b ys z.1) (λz=>[(0,v),(1,iN a),(2,iN b),(3,iN r),(4,.func (.func f) #[] caps.toArray),(10,.bool wb),(11,.bool wp),(12,.int .i64 ((b-a:Nat):Int)),(13,iN q)]) (λz=>[z.2]) ?_ ?_
 refine .sr<|.mo rfl<|.mo rfl ?_
 refine .split (t:=69) rfl (λb5=>?_) (λb5=>?_)
 refine .gT b5<|.mo rfl<|.q (.bu b5) ?_
 refine .mo rfl ?_
 refine .split (t:=72) rfl (λa1=>?_) (λa1=>?_)
 refine .gT a1<|.mo rfl<|.gT a1<|.q .cA<|.q (.bu a1) ?_
 refine .zn ?_
 refine .cond rfl (λh5=>?_) λh5=>?_
 refine .sr<|.mo rfl<|.mo rfl<|.mo rfl<|.mo rfl ?_
 refine .bb (iQ v us T4 a b _ b2 (by omega) (by omega) (by omega) O e4 D (d1.rp C)) (λu T5 k=>?_)
 obtain⟨ms,mb,rfl,a2,Y,c4⟩:=k
 refine .zn ?_
 refine .cond rfl (λh6=>?_) λh6=>?_
 refine .ret (kZ (aT (bg (cc (bg (aZ _ .none rH ?_))))))
 ·first
   |exact⟨_,rfl,rfl,N,I,U.trans (B.mono e g (by omega)),(Z.rp B e g).cZ c0⟩
   |exact⟨_,rfl,rfl,ms,a2,U.trans ((C.trans Y).mono e g (by omega)),(Z.rp (C.trans Y) e g).cZ (c4 (by assumption))⟩
 refine .skip ?_
 ·first
   |exact ax (ms,T5) ⟨a2,C.trans Y⟩ kE.c.c.c.c.c.c.c.c.c rH
   |exact ax (us,T4) ⟨b2,C⟩ kE.c.c.c.c.c.c.c.c.c rH
 refine .skip ?_
 ·first
   |exact ax (ms,T5) ⟨a2,C.trans Y⟩ kE.c.c.c.c.c.c.c.c.c rH
   |exact ax (us,T4) ⟨b2,C⟩ kE.c.c.c.c.c.c.c.c.c rH
 refine .gF a1<|.gF a1<|.q (.bq a1) ?_
 refine .zn<|.bB<|.skip ?_
 ·first
   |exact ax (ms,T5) ⟨a2,C.trans Y⟩ kE.c.c.c.c.c.c.c.c.c rH
   |exact ax (us,T4) ⟨b2,C⟩ kE.c.c.c.c.c.c.c.c.c rH
 refine .gF b5<|.q (.bq b5) ?_
 refine .mo rfl<|.gX<|.gX<|.q .dv<|.zn<|.bB<|.skip ?_
 ·first
   |exact ax (ms,T5) ⟨a2,C.trans Y⟩ kE.c.c.c.c.c.c.c.c.c rH
   |exact ax (us,T4) ⟨b2,C⟩ kE.c.c.c.c.c.c.c.c.c rH
 intro y hy
 obtain⟨a9,T6⟩:=y
 obtain⟨b3,b4⟩:=hy
 simp only at b3 b4⊢
 have f3:=b4.length
 have a8:∀x∈a9,ok x:=λx W=>b8 x (b4.perm.mem_iff.1 W)
 have a3:RP H F xs a9:=U.trans (b4.mono e g (by omega))
 have a5:=Z.rp b4 e g
 have c5:=d1.rp b4
 obtain⟨p,hp⟩:∃x,a9[q]? =some x:=⟨_,aC (by omega)⟩
 have e5:=a8 p (aF hp)
 refine aD<|.seq<|.seq ?_
 refine .bQ 13 mixed (by kernel_rfl) ?_
 conv=>arg 6;dsimp only[List.take]
 refine .mo rfl<|.q .gtr<|.mo rfl ?_
 refine .split (t:=83) rfl (λi=>?_) (λi=>?_)
 have d5:0<a:=by have:=bo i;omega
 obtain⟨w,hw⟩:∃x,a9[a-1]? =some x:=⟨_,aC (by omega)⟩
 have e6:=a8 w (aF hw)
 refine .gT i<|.mo rfl<|.gT i<|.mo rfl<|.gT i<|.mo rfl<|.gT i ?_
 refine .ia (a-1) .sub ?_
 refine .gT i ?_
 refine .au (a-1) b3 hw (λf6=>?_)
 refine .gT i<|.q (.aE rfl)<|.gT i<|.mo rfl<|.gT i<|.mo rfl<|.gT i ?_
 refine .au q b3 hp (λf7=>?_)
 refine .gT i<|.q (.aE rfl)<|.nil<|.gT i ?_
 refine .cj (first:=[]) (captured:=caps) (vs:=[(λp:NP=>Value.agg (bN p).toArray) w,(λp:NP=>Value.agg (bN p).toArray) p]) (O w p e6 e5 _ (λb o hb=>.inl hb)) (λu k=>?_)
 subst k
 refine .gT i<|.q .lss<|.gT i<|.q .not<|.q (.bu i) ?_
 refine .zn ?_
 refine .cond rfl (λh7=>?_) λh7=>?_
 have e1:ap c w p=false:=by
  have d4:(!ap c w p)=true:=h7
  simpa using d4
 refine .sr<|.mo rfl<|.mo rfl<|.mo rfl<|.mo rfl<|.mo rfl ?_
 refine .bb (iP v a9 T6 a b q p _ b3 (by omega) ⟨c2,c3⟩ hp (by omega) (by omega) O a8 D (c5.lc D d5 hw e1)) (λu Q k=>?_)
 obtain⟨E,j,rfl,S,m,A⟩:=k
 have a7:=A.lo
 have a6:=A.hi
 refine .ag rfl<|.z<|.mo rfl<|.az rfl<|.exit<|aP<|aR ?_
 ·first
   |exact aN (j+1,b,r,_,_,M,G) ⟨⟨by simp only;omega,by simp only;omega,by simp only;omega,s⟩,J,K,L⟩ (by simp only;omega) (((((((kE.d rfl).d rfl).d rfl).d rfl).d rfl).d rfl).d rfl) rH
   |exact aN (a,j,r,_,_,M,G) ⟨⟨e,a7,by simp only;omega,s⟩,J,K,L⟩ (by simp only;omega) (((((((kE.d rfl).d rfl).d rfl).d rfl).d rfl).d rfl).d rfl) rH
   |exact aN (j,b,r,_,_,E,Q) ⟨⟨by simp only;omega,a6,g,s⟩,S,a3.trans (m.mono e g (by omega)),(a5.rp m e g).eqs D A⟩ (by simp only;omega) (((((((kE.d rfl).d rfl).d rfl).d rfl).d rfl).d rfl).d rfl) rH
 refine .kn<|.sr<|.mo rfl<|.mo rfl<|.mo rfl<|.mo rfl<|.mo rfl ?_
 refine .bb (fJ v a9 T6 a b q p _ b3 (by omega) ⟨c2,c3⟩ hp (by omega) (by omega) O a8 D) (λu Q k=>?_)
 obtain⟨E,j,e7,rfl,S,m,A⟩:=k
 have a7:=A.lo
 have a6:=A.hi
 have d9:=m.length
 have b9:∀x∈E,ok x:=λx W=>a8 x (m.perm.mem_iff.1 W)
 have b7:=a5.rp m e g
 have b6:RP H F xs E:=a3.trans (m.mono e g (by omega))
 have c6:=c5.rp m
 refine .mo rfl<|.q .extract<|.q .extract<|.ag rfl<|.ag rfl<|.z<|.mo rfl<|.ag rfl<|.z<|.mo rfl<|.mo rfl ?_
 refine .ia (j-a) .sub ?_
 refine .mo rfl<|.mo rfl ?_
 refine .ia (b-j) .sub ?_
 refine .ag rfl<|.ag rfl<|.z<|.mo rfl ?_
 refine .q (.i64 (((b-a)/8:Nat):Int) .quo ⟨by rw[adt (by omega)];omega,by omega,by omega⟩) ?_
 refine .ag rfl<|.z<|.mo rfl<|.mo rfl<|.q .lss<|.zn ?_
 refine .cond rfl (λh8=>?_) λh8=>?_
 refine .sr<|.mo rfl<|.mo rfl<|.q .geq<|.ag rfl<|.z<|.mo rfl<|.mo rfl<|.mo rfl<|.mo rfl<|.mo rfl ?_
 refine .bb (ih v E Q a j r _ S (by omega) (by omega) (by omega) s O b9 (c6.less (by omega)) (by omega)) (λu G k=>?_)
 obtain⟨rfl,M,J,V,a4⟩:=k
 have L:=b7.left D A V a4 e g (by omega)
 have K:=b6.trans (V.mono e (by omega) (by omega))
 refine .zn<|.region<|.mo rfl ?_
 refine .ia (j+1) .add ?_
 refine .ag rfl<|.nil<|bi ?_
 ·first
   |exact aN (j+1,b,r,_,_,M,G) ⟨⟨by simp only;omega,by simp only;omega,by simp only;omega,s⟩,J,K,L⟩ (by simp only;omega) (((((((kE.d rfl).d rfl).d rfl).d rfl).d rfl).d rfl).d rfl) rH
   |exact aN (a,j,r,_,_,M,G) ⟨⟨e,a7,by simp only;omega,s⟩,J,K,L⟩ (by simp only;omega) (((((((kE.d rfl).d rfl).d rfl).d rfl).d rfl).d rfl).d rfl) rH
   |exact aN (j,b,r,_,_,E,Q) ⟨⟨by simp only;omega,a6,g,s⟩,S,a3.trans (m.mono e g (by omega)),(a5.rp m e g).eqs D A⟩ (by simp only;omega) (((((((kE.d rfl).d rfl).d rfl).d rfl).d rfl).d rfl).d rfl) rH
 refine .sr<|.mo rfl<|.mo rfl<|.q .geq<|.ag rfl<|.z<|.mo rfl<|.mo rfl ?_
 refine .ia (j+1) .add ?_
 refine .mo rfl<|.mo rfl<|.mo rfl ?_
 refine .bb (ih v E Q (j+1) b r _ S (by omega) (by omega) (by omega) s O b9 A.lb (by omega)) (λu G k=>?_)
 obtain⟨rfl,M,J,V,a4⟩:=k
 have L:=b7.right D A V a4 e g (by omega)
 have K:=b6.trans (V.mono (by omega) g (by omega))
 refine .zn<|.region<|.mo rfl<|.ag rfl<|.nil<|bi ?_
 ·first
   |exact aN (j+1,b,r,_,_,M,G) ⟨⟨by simp only;omega,by simp only;omega,by simp only;omega,s⟩,J,K,L⟩ (by simp only;omega) (((((((kE.d rfl).d rfl).d rfl).d rfl).d rfl).d rfl).d rfl) rH
   |exact aN (a,j,r,_,_,M,G) ⟨⟨e,a7,by simp only;omega,s⟩,J,K,L⟩ (by simp only;omega) (((((((kE.d rfl).d rfl).d rfl).d rfl).d rfl).d rfl).d rfl) rH
   |exact aN (j,b,r,_,_,E,Q) ⟨⟨by simp only;omega,a6,g,s⟩,S,a3.trans (m.mono e g (by omega)),(a5.rp m e g).eqs D A⟩ (by simp only;omega) (((((((kE.d rfl).d rfl).d rfl).d rfl).d rfl).d rfl).d rfl) rH
 refine .gF i<|.gF i<|.gF i<|.gF i<|.gF i<|.gF i<|.gF i<|.gF i<|.gF i<|.gF i<|.nil<|.gF i<|.gF i<|.gF i<|.q (.bq i) ?_
 refine .zn<|.bB<|.kn<|.sr<|.mo rfl<|.mo rfl<|.mo rfl<|.mo rfl<|.mo rfl ?_
 refine .bb (fJ v a9 T6 a b q p _ b3 (by omega) ⟨c2,c3⟩ hp (by omega) (by omega) O a8 D) (λu Q k=>?_)
 obtain⟨E,j,e7,rfl,S,m,A⟩:=k
 have a7:=A.lo
 have a6:=A.hi
 have d9:=m.length
 have b9:∀x∈E,ok x:=λx W=>a8 x (m.perm.mem_iff.1 W)
 have b7:=a5.rp m e g
 have b6:RP H F xs E:=a3.trans (m.mono e g (by omega))
 have c6:=c5.rp m
 refine .mo rfl<|.q .extract<|.q .extract<|.ag rfl<|.ag rfl<|.z<|.mo rfl<|.ag rfl<|.z<|.mo rfl<|.mo rfl ?_
 refine .ia (j-a) .sub ?_
 refine .mo rfl<|.mo rfl ?_
 refine .ia (b-j) .sub ?_
 refine .ag rfl<|.ag rfl<|.z<|.mo rfl ?_
 refine .q (.i64 (((b-a)/8:Nat):Int) .quo ⟨by rw[adt (by omega)];omega,by omega,by omega⟩) ?_
 refine .ag rfl<|.z<|.mo rfl<|.mo rfl<|.q .lss<|.zn ?_
 refine .cond rfl (λh8=>?_) λh8=>?_
 refine .sr<|.mo rfl<|.mo rfl<|.q .geq<|.ag rfl<|.z<|.mo rfl<|.mo rfl<|.mo rfl<|.mo rfl<|.mo rfl ?_
 refine .bb (ih v E Q a j r _ S (by omega) (by omega) (by omega) s O b9 (c6.less (by omega)) (by omega)) (λu G k=>?_)
 obtain⟨rfl,M,J,V,a4⟩:=k
 have L:=b7.left D A V a4 e g (by omega)
 have K:=b6.trans (V.mono e (by omega) (by omega))
 refine .zn<|.region<|.mo rfl ?_
 refine .ia (j+1) .add ?_
 refine .ag rfl<|.nil<|bi ?_
 ·first
   |exact aN (j+1,b,r,_,_,M,G) ⟨⟨by simp only;omega,by simp only;omega,by simp only;omega,s⟩,J,K,L⟩ (by simp only;omega) (((((((kE.d rfl).d rfl).d rfl).d rfl).d rfl).d rfl).d rfl) rH
   |exact aN (a,j,r,_,_,M,G) ⟨⟨e,a7,by simp only;omega,s⟩,J,K,L⟩ (by simp only;omega) (((((((kE.d rfl).d rfl).d rfl).d rfl).d rfl).d rfl).d rfl) rH
   |exact aN (j,b,r,_,_,E,Q) ⟨⟨by simp only;omega,a6,g,s⟩,S,a3.trans (m.mono e g (by omega)),(a5.rp m e g).eqs D A⟩ (by simp only;omega) (((((((kE.d rfl).d rfl).d rfl).d rfl).d rfl).d rfl).d rfl) rH
 refine .sr<|.mo rfl<|.mo rfl<|.q .geq<|.ag rfl<|.z<|.mo rfl<|.mo rfl ?_
 refine .ia (j+1) .add ?_
 refine .mo rfl<|.mo rfl<|.mo rfl ?_
 refine .bb (ih v E Q (j+1) b r _ S (by omega) (by omega) (by omega) s O b9 A.lb (by omega)) (λu G k=>?_)
 obtain⟨rfl,M,J,V,a4⟩:=k
 have L:=b7.right D A V a4 e g (by omega)
 have K:=b6.trans (V.mono (by omega) g (by omega))
 refine .zn<|.region<|.mo rfl<|.ag rfl<|.nil<|bi ?_
 ·first
   |exact aN (j+1,b,r,_,_,M,G) ⟨⟨by simp only;omega,by simp only;omega,by simp only;omega,s⟩,J,K,L⟩ (by simp only;omega) (((((((kE.d rfl).d rfl).d rfl).d rfl).d rfl).d rfl).d rfl) rH
   |exact aN (a,j,r,_,_,M,G) ⟨⟨e,a7,by simp only;omega,s⟩,J,K,L⟩ (by simp only;omega) (((((((kE.d rfl).d rfl).d rfl).d rfl).d rfl).d rfl).d rfl) rH
   |exact aN (j,b,r,_,_,E,Q) ⟨⟨by simp only;omega,a6,g,s⟩,S,a3.trans (m.mono e g (by omega)),(a5.rp m e g).eqs D A⟩ (by simp only;omega) (((((((kE.d rfl).d rfl).d rfl).d rfl).d rfl).d rfl).d rfl) rH
theorem iR(q:SO (ap c))(n:Nat):fD c ok f caps n:=by
 induction n with
 |zero=>exact λv e T a b d R _ _ _ _ _ _ _ _ r=>by omega
 |succ n ih=>exact λv e T a b d R g h i j k l m o p=>iS n ih q v e T a b d R g h i j k l m o p
end
end SGN
namespace SGN
section
variable{c:NP->NP->Int}{ok:NP->Prop}{f:FuncId}{caps:List Value} [e:aI prog f]
theorem iW(v:Value)(xs:List NP)(T:ay)(R:aA)(h:OS 129 3 bN v xs T)(k:xs.length<=1000000000)(j:cf prog f caps R (λp:NP=>Value.agg (bN p).toArray) c ok)(l:∀x∈xs,ok x)(m:SO (ap c)):
  Spec prog 153 [v,.func (.func f) #[] caps.toArray] R [T] λu H'=>∃T',H'=[T']/\u=.tuple #[]/\∃ys,OS 129 3 bN v ys T'/\ys.Perm xs/\SR (ap c) ys 0 ys.length:=by
 have s:=h.aL
 have i:Lib.bitLen xs.length<=1000000000:=by
  have r:=bitLen_le 64 xs.length
  have o:Lib.bitLen xs.length=Lib.bitLenAux 64 xs.length:=rfl
  omega
 refine Spec.body func153 rfl results153 ntmps153 rfl ?_
 refine .sr<|.mo rfl<|.q (.fV h) ?_
 refine .az rfl<|.region<|.mo rfl<|.mo rfl<|.mo rfl ?_
 refine .q (bd.cast (v':=.int .u64 ((xs.length:Nat):Int)) .ez (by rw[gr (by omega) (by omega)])) ?_
 refine .bc (kj xs.length (by omega) _) (λu a=>?_)
 subst a
 refine .mo rfl ?_
 refine .bb (iR m (xs.length+1) v xs T 0 xs.length (Lib.bitLen xs.length) _ h (Nat.zero_le _) (adq _) k i j l (λd=>absurd d (by omega)) (by omega)) (λu n a=>?_)
 obtain⟨rfl,ys,e,b,g⟩:=a
 refine .nil<|ct _ .none rH ?_
 ·exact⟨_,rfl,rfl,ys,e,b.perm,b.length▸g⟩
end
end SGN
end Go.Proofs.YtgppncmdpcefhaaGreatDoor
