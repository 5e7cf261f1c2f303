/- What the law 'OpNobody' uses. No condition. -/
import Derived.Test.YtgppncmdpcefhaaGreatDoorKOpNobodyB
import Derived.Test.YtgppncmdpcefhaaGreatDoorKOpNobodyF
import Derived.Test.YtgppncmdpcefhaaGreatDoorKOpNobodyH
import Derived.Test.YtgppncmdpcefhaaGreatDoorKOpNobodyN
namespace Go.Proofs.YtgppncmdpcefhaaGreatDoor
set_option linter.defProp false
def adf:=@Nat.le_refl
def adg:=@List.getElem?_eq_some_iff
def adh:=@List.length_set
def adi:=@if_neg
def adj:=@if_pos
def adk:=@congrArg
def adl:=@Bool.eq_iff_iff
def adm:=@Int.tdiv_eq_ediv_of_nonneg
def adn:=@decide_eq_true_eq
def ado:=@Bool.and_eq_true
def adp:=@List.length_drop
set_option linter.unusedVariables false
set_option linter.unusedSimpArgs false
set_option maxRecDepth 4000
theorem ng{a b:bw}:fj a b<0↔iY a b<0:=by
 have h:=congrFun (congrFun EY a) b
 unfold ap at h
 exact decide_eq_decide.1 h
theorem mc(a b:bw):0<fj a b↔fj b a<0:=by
 unfold fj
 have c:= @sI b a
 cases ha:er a b<;>cases hb:er b a<;>simp_all
theorem rF:dY fj where
 sw x y:=by rw[mc]
 tr x y z h1 h2:=by
  have d:¬fj y x<0:=λe=>by have:=(mc x y).2 e;omega
  have a:¬fj z y<0:=λe=>by have:=(mc y z).2 e;omega
  rw[ng]at d a
  have f:=gC.sw y x
  have g:=gC.sw x y
  have b:=gC.sw y z
  have c:=gC.sw z y
  have h:=gC.tr x y z (by omega) (by omega)
  have i:=gC.sw z x
  have j:¬fj z x<0:=by rw[ng];omega
  have:=mc x z
  omega
 tl x y z h1 h2:=by
  have a:¬fj z y<0:=λe=>by have:=(mc y z).2 e;omega
  rw[ng]at a h1⊢
  have b:=gC.sw y z
  have c:=gC.sw z y
  exact gC.tl x y z h1 (by omega)
theorem FF{a b:bw}(h:fj a b=0):a=b:=by
 unfold fj at h
 split at h
 ·omega
 ·split at h
  ·omega
  ·rename_i d e
   exact Classical.byContradiction λc=>by rcases nB c with h3|h3<;>contradiction
def ll(a b:aO):Int:=eo [fj a.t b.t,eF a.fr b.fr]
theorem rQ:dY ll:=(rF.map aO.t).cons ((qO.map aO.fr).cons .nil)
def kq(a b:aO):Bool:=er a.t b.t||decide (a.t=b.t)&&decide (a.fr<b.fr)
theorem ot(a b:aO):ap ll a b=kq a b:=by
 unfold ap ll kq
 rw[lg,lg]
 rw[adl]
 simp only[adn,Bool.or_eq_true,ado]
 by_cases h:a.t=b.t
 ·rw[adj (by rw[h];exact rF.refl _)]
  rw[h,oW]
  unfold eF eo
  simp
  split
  ·split<;>omega
  ·split
   ·split<;>omega
   ·split<;>omega
 ·rw[adi λe=>h (FF e),ng]
  unfold er
  simp[h]
abbrev nq(ys:List aO):Prop:=ys.Pairwise λp q=>ap ll q p=false
abbrev oG(ys:List aO):Prop:=ys.Pairwise λp q=>kq p q=true
theorem F6{a b:aO}(h:kq a b=true):kq b a=false:=by
 rw[<-ot]at *
 unfold ap at *
 have c:=rQ.sw b a
 have h:=bo h
 exact decide_eq_false (by omega)
theorem oG.order{ys:List aO}(h:oG ys):nq ys:=h.imp λ{p q} a=>by rw[ot];exact F6 a
def gV(head cE:Int)(x:aO):Bool:=fU x.t&&(decide (1<=x.fr)&&(decide (x.fr<=head)&&(x.to==0||(decide (x.fr<x.to)&&(decide (cE<x.to)&&decide (x.to<=head))))))
def iU(x a:aO):Bool:=if x.t=a.t then !(a.to==0)&&decide (a.to<=x.fr)else er a.t x.t
def mi(head cE:Int)(xs:List aO)(i:Nat):Prop:=∀j x,j<i->xs[j]? =some x->gV head cE x=true/\∀a,0<j->xs[j-1]? =some a->iU x a=true
def lp(xs:List aO)(head cE:Int):Prop:=(cE<=head/\head<=4611686018427387903/\xs.length<=4096)/\mi head cE xs xs.length
theorem F4{head cE:Int}{xs:List aO}:mi head cE xs 0:=λj x a=>absurd a (Nat.not_lt_zero _)
theorem nn{head cE:Int}{xs:List aO}{i:Nat}{x:aO}(h:mi head cE xs i)(f:xs[i]? =some x)(c:gV head cE x=true)(d:∀a,0<i->xs[i-1]? =some a->iU x a=true):mi head cE xs (i+1):=λj y e b=>by
 rcases Nat.lt_or_eq_of_le (Nat.le_of_lt_succ e)with h3|h3
 ·exact h j y h3 b
 ·subst h3
  rw[f]at b
  cases b
  exact⟨c,d⟩
theorem rX{head cE:Int}{x:aO}:gV head cE x=true↔fU x.t=true/\1<=x.fr/\x.fr<=head/\(x.to=0\/(x.fr<x.to/\cE<x.to/\x.to<=head)):=by
 unfold gV
 simp
theorem H3{y x a:aO}{head cE:Int}(h:gV head cE x=true)(f:iU y x=true)(d:iU x a=true):iU y a=true:=by
 obtain⟨_,_,_,i⟩:=rX.1 h
 unfold iU at *
 by_cases c:y.t=x.t
 ·rw[adj c]at f
  by_cases b:x.t=a.t
  ·rw[adj b]at d
   rw[adj (c.trans b)]
   simp only[ado,Bool.not_eq_true',beq_eq_false_iff_ne,adn]at f d⊢
   omega
  ·rw[adi b]at d
   rw[adi (by rw[c];exact b),c]
   exact d
 ·rw[adi c]at f
  by_cases b:x.t=a.t
  ·rw[<-b,adi c];exact f
  ·rw[adi b]at d
   have g:=sJ _ _ _ d f
   rw[adi]
   ·exact g
   ·intro e
    rw[e,oW]at g
    cases g
theorem fo.two{S:dr}(c:fo S){ys:List aO}(d:ys.Perm S.rows):ys.Pairwise λx y=>x.t=y.t->(x.to≠0/\x.to<=y.fr)\/(y.to≠0/\y.to<=x.fr):=by
 have h:S.rows.Pairwise λx y=>x.t=y.t->(x.to≠0/\x.to<=y.fr)\/(y.to≠0/\y.to<=x.fr):=c.pw.imp λ{x y} b a=>.inl (b a)
 exact d.symm.pairwise h λ{x y} b a=>(b a.symm).symm
theorem fo.strict{S:dr}(b:fo S){ys:List aO}(c:ys.Perm S.rows)(ho:nq ys):oG ys:=by
 refine((b.two c).and ho).imp_of_mem λ{x y} f h g=>?_
 obtain⟨d,a⟩:=g
 rw[ot]at a
 obtain⟨_,_,_,i⟩:=b.ok x (c.mem_iff.1 f)
 obtain⟨_,_,_,j⟩:=b.ok y (c.mem_iff.1 h)
 unfold kq at a⊢
 simp only[Bool.or_eq_false_iff,Bool.and_eq_false_iff,decide_eq_false_iff_not]at a
 simp only[Bool.or_eq_true,ado,adn]
 by_cases e:x.t=y.t
 ·have k:=d e
  refine .inr ⟨e,?_⟩
  rcases a.2 with h4|h4
  ·exact absurd e.symm h4
  ·omega
 ·left
  rcases nB e with h5|h5
  ·exact h5
  ·rw[a.1]at h5;cases h5
theorem fo.right{S:dr}(b:fo S){ys:List aO}(c:ys.Perm S.rows)(ho:nq ys):lp ys S.head S.cE:=by
 refine⟨⟨b.h1,b.h2,by rw[c.length_eq];exact b.len⟩,λj x s d=>⟨rX.2 (b.ok x (c.mem_iff.1 (aF d))),λa p l=>?_⟩⟩
 have i:=List.pairwise_iff_getElem.1 (b.strict c ho)
 have k:=List.pairwise_iff_getElem.1 (b.two c)
 obtain⟨h,n⟩:=adg.1 d
 obtain⟨g,m⟩:=adg.1 l
 have h3:=i (j-1) j g h (by omega)
 have f:=k (j-1) j g h (by omega)
 rw[n,m]at h3 f
 obtain⟨_,_,_,o⟩:=b.ok x (c.mem_iff.1 (aF d))
 unfold iU
 unfold kq at h3
 simp only[Bool.or_eq_true,ado,adn]at h3
 split
 ·rename_i e
  have q:=f e.symm
  have r:a.fr<x.fr:=by
   rcases h3 with h3|h3
   ·rw[e,oW]at h3;cases h3
   ·exact h3.2
  simp only[ado,Bool.not_eq_true',beq_eq_false_iff_ne,adn]
  omega
 ·rename_i e
  rcases h3 with h3|h3
  ·exact h3
  ·exact absurd h3.1.symm e
open Tryz
namespace SRW
section
variable{c:aO->aO->Int}{ok:aO->Prop}{f:FuncId}{caps:List Value} [e:aI prog f]
theorem iJ(v:Value)(xs:List aO)(T:ay)(a b:Nat)(R:aA)(h:OS 152 9 aO.enc v xs T)(a2:a<=b)(I:b<=xs.length)(hl:xs.length<=1000000000)(N:cf prog f caps R (λt:aO=>Value.agg t.enc.toArray) c ok)(J:∀x∈xs,ok x)(F:SO (ap c)):
  Spec prog 353 [v,.int .i64 a,.int .i64 b,.func (.func f) #[] caps.toArray] R [T] λu H'=>∃T',H'=[T']/\u=.tuple #[]/\∃ys,OS 152 9 aO.enc v ys T'/\RP a b xs ys/\SR (ap c) ys a b:=by
 have iv:=h.aL
 refine Spec.body func353 rfl results353 ntmps353 rfl ?_
 refine .sr<|.mo rfl ?_
 refine .ia (a+1) .add ?_
 refine .az rfl<|.block ?_
 refine .loop (X:=Nat×List aO×ay) (λy=>(a+1<=y.1/\(y.1<=b\/y.1=a+1))/\OS 152 9 aO.enc v y.2.1 y.2.2/\RP a b xs y.2.1/\SR (ap c) y.2.1 a y.1) (λy=>[(0,v),(1,iN a),(2,iN b),(3,.func (.func f) #[] caps.toArray),(8,iN y.1)]) (λy=>[y.2.2]) (λy=>b-y.1) (a+1,xs,T) ⟨⟨by simp only;omega,.inr rfl⟩,h,.refl _,λi j r m H=>by simp only at H;omega⟩ kE.c.c.c.c.c rH ?_
 rintro⟨i,ys,L⟩ ⟨⟨O,Q⟩,C,B,D⟩
 simp only at O Q C B D⊢
 have a5:=B.length
 refine .seq<|.sr<|.mo rfl<|.mo rfl<|.q .lss<|.zn ?_
 refine .cond rfl (λr=>?_) λr=>?_
 have a4:i<b:=by simp at r;omega
 refine .kn<|.seq<|.block<|.sr<|.mo rfl<|.az rfl<|.block ?_
 refine .loop (X:=Nat×List aO×ay) (λy=>(a<=y.1/\y.1<=i)/\OS 152 9 aO.enc v y.2.1 y.2.2/\RP a b xs y.2.1/\fg (ap c) y.2.1 a y.1 (i+1)) (λy=>[(0,v),(1,iN a),(2,iN b),(3,.func (.func f) #[] caps.toArray),(8,iN i),(9,iN y.1)]) (λy=>[y.2.2]) (λy=>y.1) (i,ys,L) ⟨⟨by simp only;omega,adf _⟩,C,B,D.ins⟩ kE.c.c.c.c.c.c rH ?_
 rintro⟨j,s,G⟩ ⟨⟨S,U⟩,e,n,A⟩
 simp only at S U e n A⊢
 have a6:=n.length
 refine .seq<|.seq ?_
 refine .bQ 14 mixed (by kernel_rfl) ?_
 conv=>arg 6;dsimp only[List.take]
 refine .mo rfl<|.mo rfl<|.q .gtr<|.mo rfl ?_
 refine .split (t:=21) rfl (λd=>?_) (λd=>?_)
 have E:a<j:=by have:=bo d;omega
 obtain⟨x,g⟩:∃x,s[j]? =some x:=⟨_,aC (by omega)⟩
 obtain⟨y,l⟩:∃x,s[j-1]? =some x:=⟨_,aC (by omega)⟩
 have Z:=J x (n.perm.mem_iff.1 (aF g))
 have a0:=J y (n.perm.mem_iff.1 (aF l))
 refine .gT d<|.mo rfl<|.gT d<|.mo rfl<|.gT d<|.mo rfl<|.gT d ?_
 refine .au j e g (λa7=>?_)
 refine .gT d<|.q (.aE rfl)<|.gT d<|.mo rfl<|.gT d<|.mo rfl<|.gT d ?_
 refine .ia (j-1) .sub ?_
 refine .gT d ?_
 refine .au (j-1) e l (λa8=>?_)
 refine .gT d<|.q (.aE rfl)<|.nil<|.gT d ?_
 refine .cj (first:=[]) (captured:=caps) (vs:=[(λt:aO=>Value.agg t.enc.toArray) x,(λt:aO=>Value.agg t.enc.toArray) y]) (N x y Z a0 _ (λb o I=>.inl I)) (λu p=>?_)
 subst p
 refine .gT d<|.q .lss<|.q (.bu d) ?_
 refine .zn ?_
 refine .cond rfl (λm=>?_) λm=>?_
 refine .kn<|.seq<|.block<|.bF [15,17] mixed ?_
 refine .tO 0 rfl .move<|.tO 1 rfl .move<|.tK 2 rfl .move<|.tK 3 rfl .move ?_
 refine .take 4 rfl (.i64 ((j-1:Nat):Int) .sub ⟨by omega,by omega,by omega⟩) (by kernel_rfl) ?_
 refine .tO 5 rfl .move<|.tO 6 rfl .move ?_
 refine .cH 7 rfl (.i64 ((j-1:Nat):Int) .sub ⟨by omega,by omega,by omega⟩) (by kernel_rfl) ?_
 refine RA.au 8 rfl (j-1) e l rfl rfl rfl (by kernel_rfl) (λa9=>?_)
 refine .tO 9 rfl (.aE rfl)<|.tO 10 rfl .move<|.tO 11 rfl .move ?_
 refine RA.au 12 rfl (j) e g rfl rfl rfl (by kernel_rfl) (λb0=>?_)
 refine .tO 13 rfl (.aE rfl) ?_
 refine RA.au 14 rfl (j) e g rfl rfl rfl (by kernel_rfl) (λb1=>?_)
 refine .sT 15 rfl ?_
 refine .bt (j) e g y (λa1 W=>?_) (e.one _ (aF l))
 refine .nil (Next.mod rfl ?_)
 refine RA.au 16 rfl (j-1) e l rfl rfl rfl (by kernel_rfl) (λb2=>?_)
 refine .sT 17 rfl ?_
 obtain⟨zz,Y⟩:∃u,(s.set (j) y)[j-1]? =some u:=⟨_,aC (by rw[adh];exact(adg.1 l).1)⟩
 refine .bt (j-1) W Y x (λM K=>?_) (e.one _ (aF g))
 rw[<-bS g l]at K
 refine .nil (Next.mod rfl ?_)
 refine RA.nil (by kernel_rfl) ?_
 refine bi<|aD<|.region<|.mo rfl ?_
 refine .ia (j-1) .sub ?_
 refine .ag rfl<|.nil ?_
 ·have V:ap c x y=true:=m
  exact aN (j-1,bn s j (j-1),M) ⟨⟨by simp only;omega,by simp only;omega⟩,K,n.step (by omega) (by omega) (by omega) (by omega) (by omega),A.step F (by omega) (by omega) E g l V⟩ (by simp only;omega) kE.c.c.c.c.c.c rH
 refine .exit<|aP<|aV<|aR<|bi<|aD<|.region<|.mo rfl ?_
 refine .ia (i+1) .add ?_
 refine .ag rfl<|.nil ?_
 ·refine aN (i+1,s,G) ⟨⟨by simp only;omega,.inl (by simp only;omega)⟩,e,n,A.done F (by omega) (by omega) ?_⟩ (by simp only;omega) kE.c.c.c.c.c rH
  first
   |exact .inr ⟨E,λu w p z=>by
     rw[l]at p;rw[g]at z;cases p;cases z;exact m⟩
   |exact .inl (by have:=aY d;omega)
 refine .gF d<|.gF d<|.gF d<|.gF d<|.gF d<|.gF d<|.gF d<|.gF d<|.gF d<|.gF d<|.nil<|.gF d<|.gF d<|.q (.bq d) ?_
 refine .zn<|.bB<|.exit<|aP<|aV<|aR<|bi<|aD<|.region<|.mo rfl ?_
 refine .ia (i+1) .add ?_
 refine .ag rfl<|.nil ?_
 ·refine aN (i+1,s,G) ⟨⟨by simp only;omega,.inl (by simp only;omega)⟩,e,n,A.done F (by omega) (by omega) ?_⟩ (by simp only;omega) kE.c.c.c.c.c rH
  first
   |exact .inr ⟨E,λu w p z=>by
     rw[l]at p;rw[g]at z;cases p;cases z;exact m⟩
   |exact .inl (by have:=aY d;omega)
 refine .exit<|aP<|aV<|aR<|ct _ .none rH ?_
 ·have a3:b<=i:=by simp at r;omega
  exact⟨_,rfl,rfl,ys,C,B,λj k r m H=>D j k r m (by omega)⟩
theorem fL(v:Value)(xs:List aO)(T:ay)(lo k d:Nat)(R:aA)(h:OS 152 9 aO.enc v xs T)(b1:lo<=k)(V:d+k<=xs.length)(hl:xs.length<=1000000000)(hf:cf prog f caps R (λt:aO=>Value.agg t.enc.toArray) c ok)(a3:∀x∈xs,ok x)(J:SO (ap c)):
    Spec prog 421 [v,.int .i64 lo,.int .i64 k,.int .i64 d,.func (.func f) #[] caps.toArray] R [T] λu H'=>∃T',H'=[T']/\u=.tuple #[]/\∃ys,OS 152 9 aO.enc v ys T'/\RP d (d+k) xs ys/\
      (ew (λx y=>ap c y x) (xs.drop d) k lo lo->dI (λx y=>ap c y x) (ys.drop d) k lo):=by
  have iv:=h.aL
  have a4:=J.rev
  refine Spec.body func421 rfl results421 ntmps421 rfl ?_
  refine .sr<|.mo rfl<|.az rfl<|.block ?_
  refine .loop (X:=Nat×List aO×ay) (λy=>(lo<=y.1/\y.1<=k)/\OS 152 9 aO.enc v y.2.1 y.2.2/\RP d (d+k) xs y.2.1/\(ew (λx y=>ap c y x) (xs.drop d) k lo lo->ew (λx y=>ap c y x) (y.2.1.drop d) k lo y.1)) (λy=>[(0,v),(2,iN k),(3,iN d),(4,.func (.func f) #[] caps.toArray),(10,iN y.1)]) (λy=>[y.2.2]) (λy=>k-y.1) (lo,xs,T) ⟨⟨adf _,b1⟩,h,.refl _,λh=>h⟩ kE.c.c.c.c.c rH ?_
  rintro⟨r,ys,T1⟩ ⟨⟨a6,b3⟩,m,D,U⟩
  simp only at a6 b3 m D U⊢
  have c1:=D.length
  have c0:(ys.drop d).length=ys.length-d:=adp
  refine .block<|.sr<|.mo rfl ?_
  refine .ia (2*r) .mul ?_
  refine .ia (2*r+1) .add ?_
  refine .ag rfl<|.zs<|.sr<|.mo rfl<|.mo rfl<|.q .geq<|.zn ?_
  refine .cond rfl (λN=>?_) λN=>?_
  have b8:k<=2*r+1:=by have:=bo N;omega
  refine .exit (aP (dn (aV (aR ?_))))
  refine ct _ .none rH ?_
  ·refine⟨_,rfl,rfl,ys,m,D,λQ=>(U Q).stop λa C E l u w g S=>?_⟩
   first
     |(simp only[aX]at l;omega)
     |(rw[cQ]at g S
       rw[s]at g;cases g
       have O:(!ap c G x)=true:=L
       exact a4.dW _ _ _ (W a w C E l S) (by simpa using O))
  have M:2*r+1<k:=by have:=aY N;omega
  obtain⟨G,s⟩:∃y,ys[d+r]? =some y:=⟨_,aC (by omega)⟩
  obtain⟨p,n⟩:∃y,ys[d+(2*r+1)]? =some y:=⟨_,aC (by omega)⟩
  have b6:=a3 G (D.perm.mem_iff.1 (aF s))
  have I:=a3 p (D.perm.mem_iff.1 (aF n))
  refine .kn<|.seq ?_
  refine bp.cut (X:=Nat×aO) (λz=>0<z.1/\z.1<k/\aX z.1=r/\ys[d+z.1]? =some z.2/\ok z.2/\∀a u,0<a->a<k->aX a=r->ys[d+a]? =some u->ap c z.2 u=false) (λz=>[(0,v),(2,iN k),(3,iN d),(4,.func (.func f) #[] caps.toArray),(10,iN r),(11,iN z.1)]) (λz=>[T1]) ?_ ?_
  refine .seq ?_
  refine .bQ 19 mixed (by kernel_rfl) ?_
  conv=>arg 6;dsimp only[List.take]
  refine .mo rfl ?_
  refine .ia (2*r+2) .add ?_
  refine .mo rfl<|.q .lss<|.mo rfl ?_
  refine .split (t:=23) rfl (λe=>?_) (λe=>?_)
  have a1:2*r+2<k:=by have:=bo e;omega
  obtain⟨K,B⟩:∃y,ys[d+(2*r+2)]? =some y:=⟨_,aC (by omega)⟩
  have Y:=a3 K (D.perm.mem_iff.1 (aF B))
  refine .gT e<|.mo rfl<|.gT e<|.mo rfl<|.gT e<|.mo rfl<|.gT e<|.mo rfl<|.gT e ?_
  refine .ia (d+(2*r+1)) .add ?_
  refine .gT e ?_
  refine .au (d+(2*r+1)) m n (λc2=>?_)
  refine .gT e<|.q (.aE rfl)<|.gT e<|.mo rfl<|.gT e<|.mo rfl<|.gT e<|.mo rfl<|.gT e ?_
  refine .ia (d+(2*r+1)) .add ?_
  refine .gT e ?_
  refine .ia (d+(2*r+2)) .add ?_
  refine .gT e ?_
  refine .au (d+(2*r+2)) m B (λc3=>?_)
  refine .gT e<|.q (.aE rfl)<|.nil<|.gT e ?_
  refine .cj (first:=[]) (captured:=caps) (vs:=[(λt:aO=>Value.agg t.enc.toArray) p,(λt:aO=>Value.agg t.enc.toArray) K]) (hf p K I Y _ (λb o V=>.inl V)) (λu g=>?_)
  subst g
  refine .gT e<|.q .lss<|.q (.bu e) ?_
  refine .zn ?_
  refine .cond rfl (λH=>?_) λH=>?_
  have a2:∀a u,0<a->a<k->aX a=r->ys[d+a]? =some u->ap c K u=false:=λa u C E l g=>by
    have:a=2*r+1\/a=2*r+2:=by simp only[aX]at l;omega
    rcases this with rfl|rfl
    ·rw[n]at g;cases g;exact J.gx H
    ·rw[B]at g;cases g;exact J.cP _
  refine .region<|.mo rfl ?_
  refine .ia (2*r+2) .add ?_
  refine .ag rfl<|.nil ?_
  ·first
      |exact ax (2*r+2,K) ⟨by simp only;omega,a1,by simp only[aX];omega,B,Y,a2⟩ kE.c.c.c.c.c.c rH
      |exact ax (2*r+1,p) ⟨by simp only;omega,M,by simp only[aX];omega,n,I,A⟩ kE.c.c.c.c.c.c rH
      |(have A:∀a u,0<a->a<k->aX a=r->ys[d+a]? =some u->ap c p u=false:=λa u C E l g=>by
           have:a=2*r+1\/a=2*r+2:=by simp only[aX]at l;omega
           rcases this with rfl|rfl
           ·rw[n]at g;cases g;exact J.cP _
           ·rw[B]at g;cases g;exact H
        exact ax (2*r+1,p) ⟨by simp only;omega,M,by simp only[aX];omega,n,I,A⟩ kE.c.c.c.c.c.c rH)
  refine .skip ?_
  ·first
      |exact ax (2*r+2,K) ⟨by simp only;omega,a1,by simp only[aX];omega,B,Y,a2⟩ kE.c.c.c.c.c.c rH
      |exact ax (2*r+1,p) ⟨by simp only;omega,M,by simp only[aX];omega,n,I,A⟩ kE.c.c.c.c.c.c rH
      |(have A:∀a u,0<a->a<k->aX a=r->ys[d+a]? =some u->ap c p u=false:=λa u C E l g=>by
           have:a=2*r+1\/a=2*r+2:=by simp only[aX]at l;omega
           rcases this with rfl|rfl
           ·rw[n]at g;cases g;exact J.cP _
           ·rw[B]at g;cases g;exact H
        exact ax (2*r+1,p) ⟨by simp only;omega,M,by simp only[aX];omega,n,I,A⟩ kE.c.c.c.c.c.c rH)
  have A:∀a u,0<a->a<k->aX a=r->ys[d+a]? =some u->ap c p u=false:=λa u C E l g=>by
    have:a=2*r+1:=by have:=aY e;simp only[aX]at l;omega
    subst this
    rw[n]at g;cases g;exact J.cP _
  refine .gF e<|.gF e<|.gF e<|.gF e<|.gF e<|.gF e<|.gF e<|.gF e<|.gF e<|.gF e<|.gF e<|.gF e<|.gF e<|.gF e<|.nil<|.gF e<|.gF e<|.q (.bq e) ?_
  refine .zn<|.bB<|.skip ?_
  ·first
      |exact ax (2*r+2,K) ⟨by simp only;omega,a1,by simp only[aX];omega,B,Y,a2⟩ kE.c.c.c.c.c.c rH
      |exact ax (2*r+1,p) ⟨by simp only;omega,M,by simp only[aX];omega,n,I,A⟩ kE.c.c.c.c.c.c rH
      |(have A:∀a u,0<a->a<k->aX a=r->ys[d+a]? =some u->ap c p u=false:=λa u C E l g=>by
           have:a=2*r+1\/a=2*r+2:=by simp only[aX]at l;omega
           rcases this with rfl|rfl
           ·rw[n]at g;cases g;exact J.cP _
           ·rw[B]at g;cases g;exact H
        exact ax (2*r+1,p) ⟨by simp only;omega,M,by simp only[aX];omega,n,I,A⟩ kE.c.c.c.c.c.c rH)
  intro y hy
  obtain⟨j,x⟩:=y
  obtain⟨Z,a5,a0,F,a8,W⟩:=hy
  simp only at Z a5 a0 F a8 W⊢
  have b9:r<j:=a0▸dO Z
  refine aD<|.seq<|.seq ?_
  refine .bQ 13 mixed (by kernel_rfl) ?_
  conv=>arg 6;dsimp only[List.take]
  refine .mo rfl<|.mo rfl<|.mo rfl<|.mo rfl ?_
  refine .ia (d+r) .add ?_
  refine .au (d+r) m s (λc4=>?_)
  refine .q (.aE rfl)<|.mo rfl<|.mo rfl<|.mo rfl ?_
  refine .ia (d+j) .add ?_
  refine .au (d+j) m F (λc5=>?_)
  refine .q (.aE rfl)<|.nil ?_
  refine .cj (first:=[]) (captured:=caps) (vs:=[(λt:aO=>Value.agg t.enc.toArray) G,(λt:aO=>Value.agg t.enc.toArray) x]) (hf G x b6 a8 _ (λb o V=>.inl V)) (λu g=>?_)
  subst g
  refine .q .lss<|.q .not<|.zn ?_
  refine .cond rfl (λL=>?_) λL=>?_
  refine .ret (aT (bg (cc (bg (aZ _ .none rH ?_)))))
  ·refine⟨_,rfl,rfl,ys,m,D,λQ=>(U Q).stop λa C E l u w g S=>?_⟩
   first
     |(simp only[aX]at l;omega)
     |(rw[cQ]at g S
       rw[s]at g;cases g
       have O:(!ap c G x)=true:=L
       exact a4.dW _ _ _ (W a w C E l S) (by simpa using O))
  refine .kn<|.seq<|.bF [21,23] mixed ?_
  refine .tO 0 rfl .move<|.tO 1 rfl .move<|.tO 2 rfl .move ?_
  refine .cH 3 rfl (.i64 ((d+r:Nat):Int) .add ⟨by omega,by omega,by omega⟩) (by kernel_rfl) ?_
  refine .tK 4 rfl .move<|.tK 5 rfl .move<|.tK 6 rfl .move ?_
  refine .take 7 rfl (.i64 ((d+j:Nat):Int) .add ⟨by omega,by omega,by omega⟩) (by kernel_rfl) ?_
  refine .tO 8 rfl .move<|.tO 9 rfl .move<|.tO 10 rfl .move ?_
  refine .cH 11 rfl (.i64 ((d+j:Nat):Int) .add ⟨by omega,by omega,by omega⟩) (by kernel_rfl) ?_
  refine RA.au 12 rfl (d+j) m F rfl rfl rfl (by kernel_rfl) (λc6=>?_)
  refine .tO 13 rfl (.aE rfl)<|.tO 14 rfl .move<|.tO 15 rfl .move<|.tO 16 rfl .move ?_
  refine .cH 17 rfl (.i64 ((d+r:Nat):Int) .add ⟨by omega,by omega,by omega⟩) (by kernel_rfl) ?_
  refine RA.au 18 rfl (d+r) m s rfl rfl rfl (by kernel_rfl) (λc7=>?_)
  refine .tO 19 rfl (.aE rfl) ?_
  refine RA.au 20 rfl (d+r) m s rfl rfl rfl (by kernel_rfl) (λc8=>?_)
  refine .sT 21 rfl ?_
  refine .bt (d+r) m s x (λb7 b4=>?_) (m.one _ (aF F))
  refine .nil (Next.mod rfl ?_)
  refine RA.au 22 rfl (d+j) m F rfl rfl rfl (by kernel_rfl) (λc9=>?_)
  refine .sT 23 rfl ?_
  obtain⟨zz,b5⟩:∃u,(ys.set (d+r) x)[d+j]? =some u:=⟨_,aC (by rw[adh];exact(adg.1 F).1)⟩
  refine .bt (d+j) b4 b5 G (λa9 a7=>?_) (m.one _ (aF s))
  rw[<-bS s F]at a7
  refine .nil (Next.mod rfl ?_)
  refine RA.nil (by kernel_rfl) ?_
  refine aD<|.region<|.mo rfl<|.ag rfl<|.nil<|bi ?_
  ·have b2:ap c G x=true:=by
      have O:(!ap c G x)=false:=L
      simpa using O
   have b0:=hS (xs:=ys) (f:=d) (i:=r) (j:=j) (by omega) (by omega)
   exact aN (j,bn ys (d+r) (d+j),a9) ⟨⟨by simp only;omega,by simp only;omega⟩,a7,D.step (by omega) (by omega) (by omega) (by omega) (by omega),λQ=>by
     simp only
     rw[b0]
     exact(U Q).step a4 a6 Z a5 (by omega) a0 (by rw[cQ];exact F) (by rw[cQ];exact s) b2 λa z N H L h4=>W a z N H L (by rw[<-cQ];exact h4)⟩ (by simp only;omega) kE.c.c.c.c.c rH
end
end SRW
namespace SRW
section
variable{c:aO->aO->Int}{ok:aO->Prop}{f:FuncId}{caps:List Value} [e:aI prog f]
theorem iI(v:Value)(xs:List aO)(T:ay)(a b:Nat)(R:aA)(h:OS 152 9 aO.enc v xs T)(a8:a<=b)(hb:b<=xs.length)(hl:xs.length<=1000000000)(M:cf prog f caps R (λt:aO=>Value.agg t.enc.toArray) c ok)(N:∀x∈xs,ok x)(G:SO (ap c)):
  Spec prog 354 [v,.int .i64 a,.int .i64 b,.func (.func f) #[] caps.toArray] R [T] λu H'=>∃T',H'=[T']/\u=.tuple #[]/\∃ys,OS 152 9 aO.enc v ys T'/\RP a b xs ys/\SR (ap c) ys a b:=by
 have iv:=h.aL
 have a6:=G.rev
 obtain⟨n,hn⟩:∃n,b=a+n:=⟨b-a,by omega⟩
 subst hn
 refine Spec.body func354 rfl results354 ntmps354 rfl ?_
 refine .sr<|.mo rfl<|.ag rfl<|.z<|.ag rfl<|.z<|.mo rfl<|.mo rfl ?_
 refine .ia (n) .sub ?_
 refine .ag rfl<|.zs<|.sr<|.mo rfl ?_
 refine .q (.i64 ((n:Int)-1) .sub ⟨rfl,by omega,by omega⟩) ?_
 refine .q (.i64 (((n-1)/2:Nat):Int) .quo ⟨kB,by omega,by omega⟩) ?_
 refine .az rfl<|.block ?_
 refine .loop (X:=Nat×Int×List aO×ay) (λy=>(y.2.1=(y.1:Int)-1/\y.1<=n+1)/\OS 152 9 aO.enc v y.2.2.1 y.2.2.2/\RP a (a+n) xs y.2.2.1/\dI (λx y=>ap c y x) (y.2.2.1.drop a) n y.1) (λy=>[(0,v),(3,.func (.func f) #[] caps.toArray),(8,iN a),(9,.int .i64 ((0:Nat):Int)),(10,iN n),(11,.int .i64 y.2.1)]) (λy=>[y.2.2.2]) (λy=>y.1) ((n-1)/2+1,(((n-1)/2:Nat):Int),xs,T) ⟨⟨by simp only;omega,by simp only;omega⟩,h,.refl _,λk V hk hp=>by simp only[aX]at hp;omega⟩ kE.c.c.c.c.c.c rH ?_
 rintro⟨m,z,ys,H⟩ ⟨⟨hz,hm⟩,C,r,B⟩
 simp only at hz hm C r B⊢
 have a9:=r.length
 refine .seq<|.sr<|.mo rfl<|.q .geq<|.zn ?_
 refine .cond rfl (λo=>?_) λo=>?_
 have a3:0<=z:=bo o
 obtain⟨k,rfl⟩:∃k,m=k+1:=⟨m-1,by omega⟩
 obtain rfl:z=(k:Int):=by omega
 refine .kn<|.seq<|.block<|.region<|.mo rfl<|.mo rfl<|.mo rfl<|.mo rfl<|.mo rfl ?_
 refine .bb (fL (c:=c) (ok:=ok) v ys H k n a _ C (by omega) (by omega) (by omega) M (λx e=>N x (r.perm.mem_iff.1 e)) G) (λu I F=>?_)
 obtain⟨rfl,g,d,l,p⟩:=F
 refine .nil<|bi<|aD<|.region<|.mo rfl ?_
 refine .q (.i64 ((k:Int)-1) .sub ⟨rfl,by omega,by omega⟩) ?_
 refine .ag rfl<|.nil ?_
 ·exact aN (k,(k:Int)-1,g,I) ⟨⟨rfl,by simp only;omega⟩,d,r.trans l,p B.hole⟩ (by simp only;omega) kE.c.c.c.c.c.c rH
 have E:m=0:=by have:=aY o;omega
 subst E
 refine .exit<|aP<|aV<|aR<|aD<|.sr<|.mo rfl ?_
 refine .q (.i64 ((n:Int)-1) .sub ⟨rfl,by omega,by omega⟩) ?_
 refine .az rfl<|.block ?_
 refine .loop (X:=Nat×Int×List aO×ay) (λy=>(y.2.1=(y.1:Int)-1/\y.1<=n)/\OS 152 9 aO.enc v y.2.2.1 y.2.2.2/\RP a (a+n) xs y.2.2.1/\dI (λx y=>ap c y x) (y.2.2.1.drop a) y.1 0/\OX (ap c) y.2.2.1 a (a+n) a (a+y.1)) (λy=>[(0,v),(3,.func (.func f) #[] caps.toArray),(8,iN a),(9,.int .i64 ((0:Nat):Int)),(10,iN n),(12,.int .i64 y.2.1)]) (λy=>[y.2.2.2]) (λy=>y.1) (n,(n:Int)-1,ys,H) ⟨⟨rfl,adf _⟩,C,r,B,OX.start⟩ kE.c.c.c.c.c.c rH ?_
 rintro⟨m,Q,g,I⟩ ⟨⟨a4,a1⟩,d,l,p,D⟩
 simp only at a4 a1 d l p D⊢
 have b0:=l.length
 refine .seq<|.sr<|.mo rfl<|.q .geq<|.zn ?_
 refine .cond rfl (λA=>?_) λA=>?_
 have a3:0<=Q:=bo A
 obtain⟨k,rfl⟩:∃k,m=k+1:=⟨m-1,by omega⟩
 obtain rfl:Q=(k:Int):=by omega
 obtain⟨x,e⟩:∃x,g[a]? =some x:=⟨_,aC (by omega)⟩
 obtain⟨y,s⟩:∃x,g[a+k]? =some x:=⟨_,aC (by omega)⟩
 refine .kn<|.seq<|.block<|.seq<|.bF [17,19] mixed ?_
 refine .tO 0 rfl .move<|.tO 1 rfl .move<|.tK 2 rfl .move<|.tK 3 rfl .move<|.tK 4 rfl .move ?_
 refine .take 5 rfl (.i64 ((a+k:Nat):Int) .add ⟨by omega,by omega,by omega⟩) (by kernel_rfl) ?_
 refine .tO 6 rfl .move<|.tO 7 rfl .move<|.tO 8 rfl .move ?_
 refine .cH 9 rfl (.i64 ((a+k:Nat):Int) .add ⟨by omega,by omega,by omega⟩) (by kernel_rfl) ?_
 refine RA.au 10 rfl (a+k) d s rfl rfl rfl (by kernel_rfl) (λb1=>?_)
 refine .tO 11 rfl (.aE rfl)<|.tO 12 rfl .move<|.tO 13 rfl .move ?_
 refine RA.au 14 rfl (a) d e rfl rfl rfl (by kernel_rfl) (λb2=>?_)
 refine .tO 15 rfl (.aE rfl) ?_
 refine RA.au 16 rfl (a) d e rfl rfl rfl (by kernel_rfl) (λb3=>?_)
 refine .sT 17 rfl ?_
 refine .bt (a) d e y (λa7 a2=>?_) (d.one _ (aF s))
 refine .nil (Next.mod rfl ?_)
 refine RA.au 18 rfl (a+k) d s rfl rfl rfl (by kernel_rfl) (λb4=>?_)
 refine .sT 19 rfl ?_
 obtain⟨zz,a5⟩:∃u,(g.set (a) y)[a+k]? =some u:=⟨_,aC (by rw[adh];exact(adg.1 s).1)⟩
 refine .bt (a+k) a2 a5 x (λU O=>?_) (d.one _ (aF e))
 rw[<-bS e s]at O
 refine .nil (Next.mod rfl ?_)
 refine RA.nil (by kernel_rfl) ?_
 refine aD<|.region<|.mo rfl<|.mo rfl<|.mo rfl<|.mo rfl<|.mo rfl ?_
 have L:=hS (xs:=g) (f:=a) (i:=0) (j:=k) (by omega) (by omega)
 have J:=l.step (i:=a) (j:=a+k) (by omega) (by omega) (by omega) (by omega) (by omega)
 have a0:=OX.last (m:=a+k) (x:=x) D (by omega) (by omega) (by omega) e (λj w o W hw=>dI.top a6 p (by rw[adp];omega) (x:=x) (by rw[cQ];exact e) (j-a) w (by omega) (by rw[cQ,show a+(j-a)=j by omega];exact hw))
 refine .bb (fL (c:=c) (ok:=ok) v (bn g a (a+k)) U 0 k a _ O (by omega) (by rw[eI];omega) (by rw[eI];omega) M (λx e=>N x (J.perm.mem_iff.1 e)) G) (λu S F=>?_)
 obtain⟨rfl,ws,Z,K,Y⟩:=F
 refine .nil<|bi<|aD<|.region<|.mo rfl ?_
 refine .q (.i64 ((k:Int)-1) .sub ⟨rfl,by omega,by omega⟩) ?_
 refine .ag rfl<|.nil ?_
 ·exact aN (k,(k:Int)-1,ws,S) ⟨⟨rfl,by simp only;omega⟩,Z,J.trans (K.mono (adf a) (by omega) (by rw[eI];omega)),Y (p.kX λj V hj=>by
   rw[Nat.add_zero]at L
   rw[L,cX (by rw[adp];omega) (by rw[adp];omega),adi (by omega),adi (by omega)]),a0.rp K (adf _) (by omega)⟩ (by simp only;omega) kE.c.c.c.c.c.c rH
 refine .exit<|aP<|aV<|aR<|ct _ .none rH ?_
 ·have E:m=0:=by have:=aY A;omega
  subst E
  exact⟨_,rfl,rfl,g,d,l,D.cZ λi j o A W=>by omega⟩
theorem iT(v:Value)(xs:List aO)(T:ay)(a b:Nat)(R:aA)(k:Value)(D:One k)(h:OS 152 9 aO.enc v xs T)(B:a<b)(C:b<=xs.length)(E:xs.length<=1000000000):
  Spec prog 357 [v,.int .i64 a,.int .i64 b,k] R [T] λu H'=>∃T',H'=[T']/\u=.tuple #[]/\∃ys,OS 152 9 aO.enc v ys T'/\RP a b xs ys:=by
 have H:=h.aL
 refine Spec.body func357 rfl results357 ntmps357 rfl ?_
 refine .sr<|.mo rfl<|.ag rfl<|.z<|.mo rfl ?_
 refine .ia (b-1) .sub ?_
 refine .az rfl<|.block ?_
 refine .loop (X:=Nat×Nat×List aO×ay) (λy=>(a<=y.1/\y.1<=y.2.1+1/\y.2.1<b)/\OS 152 9 aO.enc v y.2.2.1 y.2.2.2/\RP a b xs y.2.2.1) (λy=>[(0,v),(8,iN y.1),(9,iN y.2.1)]) (λy=>[y.2.2.2]) (λy=>b-y.1) (a,b-1,xs,T) ⟨⟨adf _,by simp only;omega,by simp only;omega⟩,h,.refl _⟩ kE.c.c.c rH ?_
 rintro⟨i,j,ys,w⟩ ⟨⟨o,p,r⟩,d,g⟩
 simp only at o p r d g⊢
 have F:=g.length
 refine .seq<|.sr<|.mo rfl<|.mo rfl<|.q .lss<|.zn ?_
 refine .cond rfl (λl=>?_) λl=>?_
 have G:i<j:=de l
 obtain⟨x,e⟩:∃x,ys[i]? =some x:=⟨_,aC (by omega)⟩
 obtain⟨y,f⟩:∃x,ys[j]? =some x:=⟨_,aC (by omega)⟩
 refine .kn<|.block<|.seq<|.bF [13,15] mixed ?_
 refine .tO 0 rfl .move<|.tO 1 rfl .move<|.tK 2 rfl .move<|.tK 3 rfl .move<|.tO 4 rfl .move<|.tO 5 rfl .move ?_
 refine RA.au 6 rfl (j) d f rfl rfl rfl (by kernel_rfl) (λI=>?_)
 refine .tO 7 rfl (.aE rfl)<|.tO 8 rfl .move<|.tO 9 rfl .move ?_
 refine RA.au 10 rfl (i) d e rfl rfl rfl (by kernel_rfl) (λJ=>?_)
 refine .tO 11 rfl (.aE rfl) ?_
 refine RA.au 12 rfl (i) d e rfl rfl rfl (by kernel_rfl) (λK=>?_)
 refine .sT 13 rfl ?_
 refine .bt (i) d e y (λA s=>?_) (d.one _ (aF f))
 refine .nil (Next.mod rfl ?_)
 refine RA.au 14 rfl (j) d f rfl rfl rfl (by kernel_rfl) (λL=>?_)
 refine .sT 15 rfl ?_
 obtain⟨M,t⟩:∃u,(ys.set (i) y)[j]? =some u:=⟨_,aC (by rw[adh];exact(adg.1 f).1)⟩
 refine .bt (j) s t x (λn m=>?_) (d.one _ (aF e))
 rw[<-bS e f]at m
 refine .nil (Next.mod rfl ?_)
 refine RA.nil (by kernel_rfl) ?_
 refine aD<|.sr<|.mo rfl ?_
 refine .ia (i+1) .add ?_
 refine .az rfl<|.region<|.mo rfl ?_
 refine .ia (j-1) .sub ?_
 refine .ag rfl<|.nil<|bi ?_
 ·exact aN (i+1,j-1,bn ys i j,n) ⟨⟨by simp only;omega,by simp only;omega,by simp only;omega⟩,m,g.step (by omega) (by omega) (by omega) (by omega) (by omega)⟩ (by simp only;omega) kE.c.c.c rH
 refine .exit<|aP<|aV<|aR<|ct _ .none rH ?_
 ·exact⟨_,rfl,rfl,ys,d,g⟩
theorem iF(v:Value)(xs:List aO)(T:ay)(a b:Nat)(R:aA)(s:Value)(V:One s)(h:OS 152 9 aO.enc v xs T)(S:a<=b)(U:b<=xs.length)(Y:xs.length<=1000000000):
  Spec prog 355 [v,.int .i64 a,.int .i64 b,s] R [T] λu H'=>∃T',H'=[T']/\u=.tuple #[]/\∃ys,OS 152 9 aO.enc v ys T'/\RP a b xs ys:=by
 have iv:=h.aL
 obtain⟨n,J⟩:∃n,b=a+n:=⟨b-a,by omega⟩
 subst J
 refine Spec.body func355 rfl results355 ntmps355 rfl ?_
 refine .sr<|.mo rfl<|.mo rfl ?_
 refine .ia (n) .sub ?_
 refine .ag rfl<|.z<|.mo rfl<|.q .geq<|.zn ?_
 refine .cond rfl (λt=>?_) λt=>?_
 have a2:8<=n:=by have:=bo t;omega
 obtain⟨q,D⟩:∃q,q=n/4:=⟨_,rfl⟩
 refine .sr<|.mo rfl<|.q .ez ?_
 refine .hK (λe=>?_)
 refine .cO rfl rfl<|.z<|.mo rfl ?_
 refine .bc (ld n (by omega) (by omega) _) (λu r=>?_)
 obtain⟨j,rfl,a0,a1⟩:=r
 refine .ag rfl<|.z<|.mo rfl<|.mo rfl ?_
 refine .q (.i64 ((q:Nat):Int) .quo ⟨by rw[D,adm (by omega)];omega,by omega,by omega⟩) ?_
 refine .ia (q*2) .mul ?_
 refine .ia (a+q*2) .add ?_
 refine .ia (a+q*2-1) .sub ?_
 refine .az rfl<|.block ?_
 refine .loop (X:=Nat×Int×List aO×ay) (λy=>(a+q*2-1<=y.1/\y.1<=a+q*2+2)/\OS 152 9 aO.enc v y.2.2.1 y.2.2.2/\RP a (a+n) xs y.2.2.1) (λy=>[(0,v),(1,iN a),(8,iN n),(9,pT e),(10,.int .u64 (j:Nat)),(11,iN y.1)]) (λy=>[bl e [.int .u64 y.2.1] 508,y.2.2.2]) (λy=>a+q*2+2-y.1) (a+q*2-1,_,xs,T) ⟨⟨adf _,by simp only;omega⟩,h,.refl _⟩ kE.c.c.c.c.c.c rH ?_
 rintro⟨i,z,ys,F⟩ ⟨⟨H,I⟩,d,k⟩
 simp only at H I d k⊢
 have Z:=k.length
 refine .seq<|.sr<|.mo rfl<|.mo rfl<|.mo rfl ?_
 refine .q (.i64 ((q:Nat):Int) .quo ⟨by rw[D,adm (by omega)];omega,by omega,by omega⟩) ?_
 refine .ia (q*2) .mul ?_
 refine .ia (a+q*2) .add ?_
 refine .ia (a+q*2+1) .add ?_
 refine .q .leq<|.zn ?_
 refine .cond rfl (λA=>?_) λA=>?_
 have W:i<=a+q*2+1:=by have:=bo A;omega
 refine .kn<|.seq<|.block<|.sr ?_
 refine .bb (ln e z _) (λu O r=>?_)
 obtain⟨l,rfl,rfl⟩:=r
 refine .mo rfl ?_
 refine .q (bd.cast (v':=.int .u64 ((j-1:Nat):Int)) .sub (by rw[gr (by omega) (by omega)];congr 1;omega)) ?_
 have B:=kH (z:=l) (q:=((j-1:Nat):Int)) (by omega) (by omega)
 obtain⟨o,C⟩:∃o:Nat,IntKind.u64.wrap (BitVec.ofInt IntKind.u64.bits l&&&BitVec.ofInt IntKind.u64.bits ((j-1:Nat):Int)).toNat=(o:Int):=⟨_,(Int.toNat_of_nonneg B.1).symm⟩
 refine .q (bd.cast (v':=.int .u64 ((o:Nat):Int)) .kG (by rw[C])) ?_
 rw[C]at B
 refine .q (bd.cast (v':=.int .i64 ((o:Nat):Int)) .ez (by rw[lE (by omega) (by omega)])) ?_
 refine .ag rfl<|.zs ?_
 refine bp.cut (X:=Nat) (λp=>p<n) (λp=>[(0,v),(1,iN a),(8,iN n),(9,pT e),(10,.int .u64 (j:Nat)),(11,iN i),(12,iN p)]) (λ_=>[bl e [.int .u64 l] 508,F]) ?_ ?_
 refine .sr<|.mo rfl<|.mo rfl<|.q .geq<|.zn ?_
 refine .cond rfl (λm=>?_) λm=>?_
 have K:n<=o:=by have:=bo m;omega
 refine .region<|.mo rfl<|.mo rfl ?_
 refine .ia (o-n) .sub ?_
 refine .ag rfl<|.nil ?_
 ·first
   |exact ax (o-n) (by omega) kE.c.c.c.c.c.c.c rH
   |exact ax o (by omega) kE.c.c.c.c.c.c.c rH
 have K:o<n:=by have:=aY m;omega
 refine .skip ?_
 ·first
   |exact ax (o-n) (by omega) kE.c.c.c.c.c.c.c rH
   |exact ax o (by omega) kE.c.c.c.c.c.c.c rH
 intro y M
 have a3:y<n:=M
 obtain⟨p,rfl⟩:∃p,p=y:=⟨_,rfl⟩
 obtain⟨x,g⟩:∃x,ys[i]? =some x:=⟨_,aC (by omega)⟩
 obtain⟨w,f⟩:∃x,ys[a+p]? =some x:=⟨_,aC (by omega)⟩
 refine aD<|.bF [17,19] mixed ?_
 refine .tO 0 rfl .move<|.tO 1 rfl .move<|.tK 2 rfl .move<|.tK 3 rfl .move<|.tK 4 rfl .move ?_
 refine .take 5 rfl (.i64 ((a+p:Nat):Int) .add ⟨by omega,by omega,by omega⟩) (by kernel_rfl) ?_
 refine .tO 6 rfl .move<|.tO 7 rfl .move<|.tO 8 rfl .move ?_
 refine .cH 9 rfl (.i64 ((a+p:Nat):Int) .add ⟨by omega,by omega,by omega⟩) (by kernel_rfl) ?_
 refine RA.au 10 rfl (a+p) d f rfl rfl rfl (by kernel_rfl) (λa4=>?_)
 refine .tO 11 rfl (.aE rfl)<|.tO 12 rfl .move<|.tO 13 rfl .move ?_
 refine RA.au 14 rfl (i) d g rfl rfl rfl (by kernel_rfl) (λa5=>?_)
 refine .tO 15 rfl (.aE rfl) ?_
 refine RA.au 16 rfl (i) d g rfl rfl rfl (by kernel_rfl) (λa6=>?_)
 refine .sT 17 rfl ?_
 refine .bt (i) d g w (λQ L=>?_) (d.one _ (aF f))
 refine .nil (Next.mod rfl ?_)
 refine RA.au 18 rfl (a+p) d f rfl rfl rfl (by kernel_rfl) (λa7=>?_)
 refine .sT 19 rfl ?_
 obtain⟨zz,N⟩:∃u,(ys.set (i) w)[a+p]? =some u:=⟨_,aC (by rw[adh];exact(adg.1 f).1)⟩
 refine .bt (a+p) L N x (λG E=>?_) (d.one _ (aF g))
 rw[<-bS g f]at E
 refine .nil (Next.mod rfl ?_)
 refine RA.nil (by kernel_rfl) ?_
 refine bi<|aD<|.region<|.mo rfl ?_
 refine .ia (i+1) .add ?_
 refine .ag rfl<|.nil ?_
 ·exact aN (i+1,l,bn ys i (a+p),G) ⟨⟨by simp only;omega,by simp only;omega⟩,E,k.step (by omega) (by omega) (by omega) (by omega) (by omega)⟩ (by simp only;omega) kE.c.c.c.c.c.c rH
 refine .exit<|aP<|aV<|aR<|ct _ .none (cu [1]) ?_
 ·exact⟨_,rfl,rfl,ys,d,k⟩
 refine .skip<|ct _ .none rH ?_
 ·exact⟨_,rfl,rfl,xs,h,.refl _⟩
end
end SRW
namespace SRW
section
variable{c:aO->aO->Int}{ok:aO->Prop}{f:FuncId}{caps:List Value} [e:aI prog f]
theorem iQ(v:Value)(xs:List aO)(T:ay)(a b:Nat)(R:aA)(h:OS 152 9 aO.enc v xs T)(b5:a<b)(V:b<=xs.length)(hl:xs.length<=1000000000)(hf:cf prog f caps R (λt:aO=>Value.agg t.enc.toArray) c ok)(W:∀x∈xs,ok x)(so:SO (ap c))(c4:LB (ap c) xs a b):
  Spec prog 358 [v,.int .i64 a,.int .i64 b,.func (.func f) #[] caps.toArray] R [T] λu H'=>∃T',H'=[T']/\∃ys m,u=.bool m/\OS 152 9 aO.enc v ys T'/\RP a b xs ys/\(m=true->SR (ap c) ys a b):=by
 have iv:=h.aL
 refine Spec.body func358 rfl results358 ntmps358 rfl ?_
 refine .sr<|.ag rfl<|.z<|.mo rfl ?_
 refine .ia (a+1) .add ?_
 refine .ag rfl<|.zs<|.sr<|.az rfl<|.block ?_
 refine .loop (X:=Nat×Nat×List aO×ay) (λy=>(y.1<=5/\a+1<=y.2.1/\y.2.1<=b)/\OS 152 9 aO.enc v y.2.2.1 y.2.2.2/\RP a b xs y.2.2.1/\SR (ap c) y.2.2.1 a y.2.1) (λy=>[(0,v),(1,iN a),(2,iN b),(3,.func (.func f) #[] caps.toArray),(9,iN y.2.1),(10,iN y.1)]) (λy=>[y.2.2.2]) (λy=>5-y.1) (0,a+1,xs,T) ⟨⟨by omega,adf _,b5⟩,h,.refl _,λi j S U M=>by simp only at M;omega⟩ kE.c.c.c.c.c.c rH ?_
 rintro⟨n,i,ys,T1⟩ ⟨⟨hn,I,J⟩,B,N,E⟩
 simp only at hn I J B N E⊢
 have c8:=N.length
 refine .seq<|.sr<|.mo rfl<|.q .lss<|.zn ?_
 refine .cond rfl (λS=>?_) λS=>?_
 have d1:n<5:=de S
 refine .kn<|.seq<|.block<|.seq ?_
 refine bp.cut (X:=Nat) (λi=>(a+1<=i/\i<=b)/\SR (ap c) ys a i) (λi=>[(0,v),(1,iN a),(2,iN b),(3,.func (.func f) #[] caps.toArray),(9,iN i),(10,iN n)]) (λ_=>[T1]) ?_ ?_
 refine .block ?_
 refine .loop (X:=Nat) (λi=>(a+1<=i/\i<=b)/\SR (ap c) ys a i) (λi=>[(0,v),(1,iN a),(2,iN b),(3,.func (.func f) #[] caps.toArray),(9,iN i),(10,iN n)]) (λ_=>[T1]) (λi=>b-i) i ⟨⟨I,J⟩,E⟩ kE.c.c.c.c.c.c rH ?_
 clear I J E
 rintro i ⟨⟨I,J⟩,E⟩
 refine .seq<|.seq ?_
 refine .bQ 14 mixed (by kernel_rfl) ?_
 conv=>arg 6;dsimp only[List.take]
 refine .mo rfl<|.mo rfl<|.q .lss<|.mo rfl ?_
 refine .split (t:=22) rfl (λe=>?_) (λe=>?_)
 have c3:i<b:=by have:=bo e;omega
 obtain⟨x,F⟩:∃x,ys[i]? =some x:=⟨_,aC (by omega)⟩
 obtain⟨y,D⟩:∃x,ys[i-1]? =some x:=⟨_,aC (by omega)⟩
 have c6:=W x (N.perm.mem_iff.1 (aF F))
 have c7:=W y (N.perm.mem_iff.1 (aF D))
 refine .gT e<|.mo rfl<|.gT e<|.mo rfl<|.gT e<|.mo rfl<|.gT e ?_
 refine .au i B F (λe1=>?_)
 refine .gT e<|.q (.aE rfl)<|.gT e<|.mo rfl<|.gT e<|.mo rfl<|.gT e ?_
 refine .ia (i-1) .sub ?_
 refine .gT e ?_
 refine .au (i-1) B D (λe2=>?_)
 refine .gT e<|.q (.aE rfl)<|.nil<|.gT e ?_
 refine .cj (first:=[]) (captured:=caps) (vs:=[(λt:aO=>Value.agg t.enc.toArray) x,(λt:aO=>Value.agg t.enc.toArray) y]) (hf x y c6 c7 _ (λb o V=>.inl V)) (λu H=>?_)
 subst H
 refine .gT e<|.q .lss<|.gT e<|.q .not<|.q (.bu e) ?_
 refine .zn ?_
 refine .cond rfl (λU=>?_) λU=>?_
 refine .kn<|.block<|.region<|.mo rfl ?_
 refine .ia (i+1) .add ?_
 refine .ag rfl<|.nil<|bi ?_
 ·have c5:ap c x y=false:=by
   have b8:(!ap c x y)=true:=U
   simpa using b8
  exact aN (i+1) ⟨⟨by omega,by omega⟩,E.snoc so (by omega) (by omega) λu w H hw=>by
   rw[D]at H;rw[F]at hw;cases H;cases hw;exact c5⟩ (by omega) kE.c.c.c.c.c.c rH
 refine .exit<|aP<|aV<|aR ?_
 exact ax i ⟨⟨I,J⟩,E⟩ kE.c.c.c.c.c.c rH
 refine .gF e<|.gF e<|.gF e<|.gF e<|.gF e<|.gF e<|.gF e<|.gF e<|.gF e<|.gF e<|.nil<|.gF e<|.gF e<|.gF e<|.q (.bq e) ?_
 refine .zn<|.bB<|.exit<|aP<|aV<|aR ?_
 exact ax i ⟨⟨I,J⟩,E⟩ kE.c.c.c.c.c.c rH
 intro x F
 obtain⟨d,b6⟩:∃d,d=x:=⟨_,rfl⟩
 rw[<-b6]at F⊢
 clear b6 x I J E
 obtain⟨⟨I,J⟩,E⟩:=F
 refine aD<|.seq<|.sr<|.mo rfl<|.mo rfl<|.q .cA<|.zn ?_
 refine .cond rfl (λM=>?_) λM=>?_
 refine .sr<|.az rfl ?_
 refine .ret (aT (bg (aT (cc (bg (aT (aZ _ (.one (.tmp rfl)) rH ?_)))))))
 ·have c2:d=b:=by
   have b9:((d:Int)=b):=by simpa using M
   omega
  exact⟨_,rfl,ys,true,rfl,B,N,λ_=>c2▸E⟩
 have c3:d<b:=by
  have b9:¬((d:Int)=b):=by simpa using M
  omega
 obtain⟨x,F⟩:∃x,ys[d]? =some x:=⟨_,aC (by omega)⟩
 obtain⟨y,D⟩:∃x,ys[d-1]? =some x:=⟨_,aC (by omega)⟩
 refine .kn<|.seq<|.sr<|.mo rfl<|.mo rfl ?_
 refine .ia (b-a) .sub ?_
 refine .q .lss<|.zn ?_
 refine .cond rfl (λh4=>?_) λh4=>?_
 refine .sr<|.az rfl ?_
 refine .ret (aT (bg (aT (cc (bg (aT (aZ _ (.one (.tmp rfl)) rH ?_)))))))
 ·exact⟨_,rfl,ys,false,rfl,B,N,λh=>by cases h⟩
 refine .kn<|.seq<|.bF [15,17] mixed ?_
 refine .tO 0 rfl .move<|.tO 1 rfl .move<|.tK 2 rfl .move<|.tK 3 rfl .move ?_
 refine .take 4 rfl (.i64 ((d-1:Nat):Int) .sub ⟨by omega,by omega,by omega⟩) (by kernel_rfl) ?_
 refine .tO 5 rfl .move<|.tO 6 rfl .move ?_
 refine .cH 7 rfl (.i64 ((d-1:Nat):Int) .sub ⟨by omega,by omega,by omega⟩) (by kernel_rfl) ?_
 refine RA.au 8 rfl (d-1) B D rfl rfl rfl (by kernel_rfl) (λe3=>?_)
 refine .tO 9 rfl (.aE rfl)<|.tO 10 rfl .move<|.tO 11 rfl .move ?_
 refine RA.au 12 rfl (d) B F rfl rfl rfl (by kernel_rfl) (λe4=>?_)
 refine .tO 13 rfl (.aE rfl) ?_
 refine RA.au 14 rfl (d) B F rfl rfl rfl (by kernel_rfl) (λe5=>?_)
 refine .sT 15 rfl ?_
 refine .bt (d) B F y (λb1 a0=>?_) (B.one _ (aF D))
 refine .nil (Next.mod rfl ?_)
 refine RA.au 16 rfl (d-1) B D rfl rfl rfl (by kernel_rfl) (λe6=>?_)
 refine .sT 17 rfl ?_
 obtain⟨zz,a1⟩:∃u,(ys.set (d) y)[d-1]? =some u:=⟨_,aC (by rw[adh];exact(adg.1 D).1)⟩
 refine .bt (d-1) a0 a1 x (λL G=>?_) (B.one _ (aF F))
 rw[<-bS F D]at G
 refine .nil (Next.mod rfl ?_)
 refine RA.nil (by kernel_rfl) ?_
 have a3:=N.step (i:=d) (j:=d-1) (by omega) (by omega) (by omega) (by omega) (by omega)
 have c0:=E.lB (by omega)
 clear E
 refine aD<|.seq ?_
 refine bp.cut (X:=List aO×ay) (λz=>OS 152 9 aO.enc v z.1 z.2/\RP a b xs z.1/\SR (ap c) z.1 a d) (λ_=>[(0,v),(1,iN a),(2,iN b),(3,.func (.func f) #[] caps.toArray),(9,iN d),(10,iN n)]) (λz=>[z.2]) ?_ ?_
 refine .sr<|.mo rfl<|.mo rfl ?_
 refine .ia (d-a) .sub ?_
 refine .q .geq<|.zn ?_
 refine .cond rfl (λh5=>?_) λh5=>?_
 refine .sr<|.mo rfl ?_
 refine .ia (d-1) .sub ?_
 refine .az rfl<|.block ?_
 refine .loop (X:=Nat×List aO×ay) (λz=>(a<=z.1/\z.1<=d-1)/\OS 152 9 aO.enc v z.2.1 z.2.2/\RP a b xs z.2.1/\fg (ap c) z.2.1 a z.1 d) (λz=>[(0,v),(1,iN a),(2,iN b),(3,.func (.func f) #[] caps.toArray),(9,iN d),(10,iN n),(11,iN z.1)]) (λz=>[z.2.2]) (λz=>z.1) (d-1,bn ys d (d-1),L) ⟨⟨by simp only;omega,adf _⟩,G,a3,c0⟩ kE.c.c.c.c.c.c.c rH ?_
 rintro⟨q,A,K⟩ ⟨⟨a7,a8⟩,g,r,a2⟩
 simp only at a7 a8 g r a2⊢
 have c9:=r.length
 refine .seq<|.sr<|.mo rfl<|.q .geq<|.zn ?_
 refine .cond rfl (λh6=>?_) λh6=>?_
 have d2:1<=q:=by have:=bo h6;omega
 obtain⟨s,k⟩:∃x,A[q]? =some x:=⟨_,aC (by omega)⟩
 obtain⟨t,l⟩:∃x,A[q-1]? =some x:=⟨_,aC (by omega)⟩
 have a9:=W s (r.perm.mem_iff.1 (aF k))
 have b0:=W t (r.perm.mem_iff.1 (aF l))
 refine .kn<|.seq<|.block<|.seq<|.seq ?_
 refine .bQ 10 mixed (by kernel_rfl) ?_
 conv=>arg 6;dsimp only[List.take]
 refine .mo rfl<|.mo rfl<|.mo rfl ?_
 refine .au q g k (λe7=>?_)
 refine .q (.aE rfl)<|.mo rfl<|.mo rfl ?_
 refine .ia (q-1) .sub ?_
 refine .au (q-1) g l (λe8=>?_)
 refine .q (.aE rfl)<|.nil ?_
 refine .cj (first:=[]) (captured:=caps) (vs:=[(λt:aO=>Value.agg t.enc.toArray) s,(λt:aO=>Value.agg t.enc.toArray) t]) (hf s t a9 b0 _ (λb o V=>.inl V)) (λu H=>?_)
 subst H
 refine .q .lss<|.q .not<|.zn ?_
 refine .cond rfl (λh7=>?_) λh7=>?_
 have a4:SR (ap c) A a d:=a2.done so (by omega) (by omega) (by
  have a5:(!ap c s t)=true:=h7
  rcases Nat.lt_or_ge a q with hh|hh
  ·exact .inr ⟨hh,λu w H hw=>by rw[l]at H;rw[k]at hw;cases H;cases hw;simpa using a5⟩
  ·exact .inl (by omega))
 refine .exit (aP (dn (aP (aV (aR ?_)))))
 ·first
   |exact ax (A,K) ⟨g,r,a4⟩ kE.c.c.c.c.c.c rH
   |exact ax (bn ys d (d-1),L) ⟨G,a3,λp q S U M=>by have:=aY h5;omega⟩ kE.c.c.c.c.c.c rH
 have a6:ap c s t=true:=by
  have a5:(!ap c s t)=false:=h7
  simpa using a5
 have c1:a<q:=by
  rcases Nat.lt_or_ge a q with hh|hh
  ·exact hh
  ·have ea:q=a:=by omega
   subst ea
   have:=(c4.rp r) (by omega) q (adf _) b5 t s l k
   rw[this]at a6;cases a6
 refine .kn<|.bF [15,17] mixed ?_
 refine .tO 0 rfl .move<|.tO 1 rfl .move<|.tK 2 rfl .move<|.tK 3 rfl .move ?_
 refine .take 4 rfl (.i64 ((q-1:Nat):Int) .sub ⟨by omega,by omega,by omega⟩) (by kernel_rfl) ?_
 refine .tO 5 rfl .move<|.tO 6 rfl .move ?_
 refine .cH 7 rfl (.i64 ((q-1:Nat):Int) .sub ⟨by omega,by omega,by omega⟩) (by kernel_rfl) ?_
 refine RA.au 8 rfl (q-1) g l rfl rfl rfl (by kernel_rfl) (λe9=>?_)
 refine .tO 9 rfl (.aE rfl)<|.tO 10 rfl .move<|.tO 11 rfl .move ?_
 refine RA.au 12 rfl (q) g k rfl rfl rfl (by kernel_rfl) (λf0=>?_)
 refine .tO 13 rfl (.aE rfl) ?_
 refine RA.au 14 rfl (q) g k rfl rfl rfl (by kernel_rfl) (λf1=>?_)
 refine .sT 15 rfl ?_
 refine .bt (q) g k t (λb1 a0=>?_) (g.one _ (aF l))
 refine .nil (Next.mod rfl ?_)
 refine RA.au 16 rfl (q-1) g l rfl rfl rfl (by kernel_rfl) (λd4=>?_)
 refine .sT 17 rfl ?_
 obtain⟨zz,a1⟩:∃u,(A.set (q) t)[q-1]? =some u:=⟨_,aC (by rw[adh];exact(adg.1 l).1)⟩
 refine .bt (q-1) a0 a1 s (λL G=>?_) (g.one _ (aF k))
 rw[<-bS k l]at G
 refine .nil (Next.mod rfl ?_)
 refine RA.nil (by kernel_rfl) ?_
 refine bi<|aD<|.region<|.mo rfl ?_
 refine .ia (q-1) .sub ?_
 refine .ag rfl<|.nil ?_
 ·exact aN (q-1,bn A q (q-1),L) ⟨⟨by simp only;omega,by simp only;omega⟩,G,r.step (by omega) (by omega) (by omega) (by omega) (by omega),a2.step so (by omega) (by omega) c1 k l a6⟩ (by simp only;omega) kE.c.c.c.c.c.c.c rH
 have a4:SR (ap c) A a d:=a2.done so (by omega) (by omega) (.inl (by have:=aY h6;omega))
 refine .exit<|aP<|aV<|aR ?_
 ·first
   |exact ax (A,K) ⟨g,r,a4⟩ kE.c.c.c.c.c.c rH
   |exact ax (bn ys d (d-1),L) ⟨G,a3,λp q S U M=>by have:=aY h5;omega⟩ kE.c.c.c.c.c.c rH
 refine .skip ?_
 ·first
   |exact ax (A,K) ⟨g,r,a4⟩ kE.c.c.c.c.c.c rH
   |exact ax (bn ys d (d-1),L) ⟨G,a3,λp q S U M=>by have:=aY h5;omega⟩ kE.c.c.c.c.c.c rH
 intro y D
 obtain⟨A,K⟩:=y
 obtain⟨g,r,Y⟩:=D
 simp only at g r Y⊢
 refine aD ?_
 refine bp.cut (X:=List aO×ay) (λz=>OS 152 9 aO.enc v z.1 z.2/\RP a b xs z.1/\SR (ap c) z.1 a d) (λ_=>[(0,v),(1,iN a),(2,iN b),(3,.func (.func f) #[] caps.toArray),(9,iN d),(10,iN n)]) (λz=>[z.2]) ?_ ?_
 refine .sr<|.mo rfl<|.mo rfl ?_
 refine .ia (b-d) .sub ?_
 refine .q .geq<|.zn ?_
 refine .cond rfl (λh8=>?_) λh8=>?_
 refine .sr<|.mo rfl ?_
 refine .ia (d+1) .add ?_
 refine .az rfl<|.block ?_
 refine .loop (X:=Nat×List aO×ay) (λz=>(d+1<=z.1/\z.1<=b)/\OS 152 9 aO.enc v z.2.1 z.2.2/\RP a b xs z.2.1/\SR (ap c) z.2.1 a d) (λz=>[(0,v),(1,iN a),(2,iN b),(3,.func (.func f) #[] caps.toArray),(9,iN d),(10,iN n),(12,iN z.1)]) (λz=>[z.2.2]) (λz=>b-z.1) (d+1,A,K) ⟨⟨adf _,by simp only;omega⟩,g,r,Y⟩ kE.c.c.c.c.c.c.c rH ?_
 rintro⟨q,Q,T4⟩ ⟨⟨a7,a8⟩,C,O,Z⟩
 simp only at a7 a8 C O Z⊢
 have d0:=O.length
 refine .seq<|.sr<|.mo rfl<|.mo rfl<|.q .lss<|.zn ?_
 refine .cond rfl (λh9=>?_) λh9=>?_
 have d3:q<b:=de h9
 obtain⟨s,k⟩:∃x,Q[q]? =some x:=⟨_,aC (by omega)⟩
 obtain⟨t,l⟩:∃x,Q[q-1]? =some x:=⟨_,aC (by omega)⟩
 have a9:=W s (O.perm.mem_iff.1 (aF k))
 have b0:=W t (O.perm.mem_iff.1 (aF l))
 refine .kn<|.seq<|.block<|.seq<|.seq ?_
 refine .bQ 10 mixed (by kernel_rfl) ?_
 conv=>arg 6;dsimp only[List.take]
 refine .mo rfl<|.mo rfl<|.mo rfl ?_
 refine .au q C k (λd5=>?_)
 refine .q (.aE rfl)<|.mo rfl<|.mo rfl ?_
 refine .ia (q-1) .sub ?_
 refine .au (q-1) C l (λd6=>?_)
 refine .q (.aE rfl)<|.nil ?_
 refine .cj (first:=[]) (captured:=caps) (vs:=[(λt:aO=>Value.agg t.enc.toArray) s,(λt:aO=>Value.agg t.enc.toArray) t]) (hf s t a9 b0 _ (λb o V=>.inl V)) (λu H=>?_)
 subst H
 refine .q .lss<|.q .not<|.zn ?_
 refine .cond rfl (λb7=>?_) λb7=>?_
 refine .exit (aP (dn (aP (aV (aR ?_)))))
 ·first
   |exact ax (Q,T4) ⟨C,O,Z⟩ kE.c.c.c.c.c.c rH
   |exact ax (A,K) ⟨g,r,Y⟩ kE.c.c.c.c.c.c rH
 refine .kn<|.bF [15,17] mixed ?_
 refine .tO 0 rfl .move<|.tO 1 rfl .move<|.tK 2 rfl .move<|.tK 3 rfl .move ?_
 refine .take 4 rfl (.i64 ((q-1:Nat):Int) .sub ⟨by omega,by omega,by omega⟩) (by kernel_rfl) ?_
 refine .tO 5 rfl .move<|.tO 6 rfl .move ?_
 refine .cH 7 rfl (.i64 ((q-1:Nat):Int) .sub ⟨by omega,by omega,by omega⟩) (by kernel_rfl) ?_
 refine RA.au 8 rfl (q-1) C l rfl rfl rfl (by kernel_rfl) (λd7=>?_)
 refine .tO 9 rfl (.aE rfl)<|.tO 10 rfl .move<|.tO 11 rfl .move ?_
 refine RA.au 12 rfl (q) C k rfl rfl rfl (by kernel_rfl) (λd8=>?_)
 refine .tO 13 rfl (.aE rfl) ?_
 refine RA.au 14 rfl (q) C k rfl rfl rfl (by kernel_rfl) (λd9=>?_)
 refine .sT 15 rfl ?_
 refine .bt (q) C k t (λb1 a0=>?_) (C.one _ (aF l))
 refine .nil (Next.mod rfl ?_)
 refine RA.au 16 rfl (q-1) C l rfl rfl rfl (by kernel_rfl) (λe0=>?_)
 refine .sT 17 rfl ?_
 obtain⟨zz,a1⟩:∃u,(Q.set (q) t)[q-1]? =some u:=⟨_,aC (by rw[adh];exact(adg.1 l).1)⟩
 refine .bt (q-1) a0 a1 s (λL G=>?_) (C.one _ (aF k))
 rw[<-bS k l]at G
 refine .nil (Next.mod rfl ?_)
 refine RA.nil (by kernel_rfl) ?_
 refine bi<|aD<|.region<|.mo rfl ?_
 refine .ia (q+1) .add ?_
 refine .ag rfl<|.nil ?_
 ·exact aN (q+1,bn Q q (q-1),L) ⟨⟨by simp only;omega,by simp only;omega⟩,G,O.step (by omega) (by omega) (by omega) (by omega) (by omega),Z.lC (by omega) (by omega) (by omega) (by omega)⟩ (by simp only;omega) kE.c.c.c.c.c.c.c rH
 refine .exit<|aP<|aV<|aR ?_
 ·first
   |exact ax (Q,T4) ⟨C,O,Z⟩ kE.c.c.c.c.c.c rH
   |exact ax (A,K) ⟨g,r,Y⟩ kE.c.c.c.c.c.c rH
 refine .skip ?_
 ·first
   |exact ax (Q,T4) ⟨C,O,Z⟩ kE.c.c.c.c.c.c rH
   |exact ax (A,K) ⟨g,r,Y⟩ kE.c.c.c.c.c.c rH
 intro y D
 obtain⟨us,T5⟩:=y
 obtain⟨b2,b3,b4⟩:=D
 simp only at b2 b3 b4⊢
 refine bi<|aD<|.region<|.mo rfl ?_
 refine .ia (n+1) .add ?_
 refine .ag rfl<|.nil ?_
 ·exact aN (n+1,d,us,T5) ⟨⟨by simp only;omega,I,J⟩,b2,b3,b4⟩ (by simp only;omega) kE.c.c.c.c.c.c rH
 refine .exit<|aP<|aV<|aR<|aD<|.sr<|.az rfl ?_
 refine .ret (aZ _ (.one (.tmp rfl)) rH ?_)
 ·exact⟨_,rfl,ys,false,rfl,B,N,λh=>by cases h⟩
end
end SRW
namespace SRW
section
variable{c:aO->aO->Int}{ok:aO->Prop}{f:FuncId}{caps:List Value} [e:aI prog f]
theorem eQ(v:Value)(xs:List aO)(a b lo d g:Nat)(s:Int)(R:aA)(h:RS R 9 aO.enc v xs)(i:lo<=a/\a<d)(e:lo<=b/\b<d)(B:d<=xs.length)(n:cf prog f caps R (λt:aO=>Value.agg t.enc.toArray) c ok)(j:∀x∈xs,ok x):
  Spec prog 451 [v,.int .i64 a,.int .i64 b,pT g,.func (.func f) #[] caps.toArray] R [bl g [.int .i64 s] 3] λu H'=>∃T',H'=[T']/\∃(s':Int) (p q:Nat),u=.tuple [.int .i64 p,.int .i64 q].toArray/\T'=(bl g [.int .i64 s'] 3)/\(lo<=p/\p<d)/\(lo<=q/\q<d):=by
 have C:=h.aL
 obtain⟨x,k⟩:∃x,xs[b]? =some x:=⟨_,aC (by omega)⟩
 obtain⟨y,l⟩:∃x,xs[a]? =some x:=⟨_,aC (by omega)⟩
 have w:=j x (aF k)
 have A:=j y (aF l)
 refine Spec.body func451 rfl results451 ntmps451 rfl ?_
 refine .sr<|.ag rfl<|.ag rfl<|.zs<|.seq ?_
 refine .bQ 9 mixed (by kernel_rfl) ?_
 conv=>arg 6;dsimp only[List.take]
 refine .mo rfl<|.mo rfl<|.mo rfl ?_
 refine .cR b h k (λD=>?_)
 refine .q (.aE rfl)<|.mo rfl<|.mo rfl ?_
 refine .cR a h l (λE=>?_)
 refine .q (.aE rfl)<|.nil ?_
 refine .cj (first:=[]) (captured:=caps) (vs:=[(λt:aO=>Value.agg t.enc.toArray) x,(λt:aO=>Value.agg t.enc.toArray) y]) (n x y w A _ (λb o e=>.inl e)) (λu r=>?_)
 subst r
 refine .q .lss<|.zn ?_
 refine .cond rfl (λm=>?_) λm=>?_
 refine .sr<|.mo rfl<|.nc rfl<|.lo rfl<|.q .add ?_
 refine .nc rfl<|.cO rfl rfl<|.z<|.mo rfl<|.mo rfl<|.ag rfl<|.az rfl ?_
 refine .ret (aT (aZ _ (.two (.tmp rfl) (.tmp rfl)) rH ?_))
 ·exact⟨_,rfl,_,b,a,rfl,rfl,e,i⟩
 refine .kn<|.sr<|.mo rfl<|.mo rfl<|.ag rfl<|.az rfl ?_
 refine .ret (aZ _ (.two (.tmp rfl) (.tmp rfl)) rH ?_)
 ·exact⟨_,rfl,_,a,b,rfl,rfl,i,e⟩
theorem fI(v:Value)(xs:List aO)(a b d lo e g:Nat)(s:Int)(R:aA)(h:RS R 9 aO.enc v xs)(m:lo<=a/\a<e)(n:lo<=b/\b<e)(o:lo<=d/\d<e)(k:e<=xs.length)(j:cf prog f caps R (λt:aO=>Value.agg t.enc.toArray) c ok)(l:∀x∈xs,ok x):
  Spec prog 423 [v,.int .i64 a,.int .i64 b,.int .i64 d,pT g,.func (.func f) #[] caps.toArray] R [bl g [.int .i64 s] 3] λu H'=>∃T',H'=[T']/\∃(s':Int) (p:Nat),u=.int .i64 p/\T'=(bl g [.int .i64 s'] 3)/\(lo<=p/\p<e):=by
 have N:=h.aL
 refine Spec.body func423 rfl results423 ntmps423 rfl ?_
 refine .sr<|.ag rfl<|.z<|.mo rfl<|.mo rfl<|.mo rfl<|.mo rfl<|.mo rfl ?_
 refine .bb (eQ v xs a b lo e g s _ h m n k j l) (λu I i=>?_)
 obtain⟨F,B,D,rfl,rfl,r,y⟩:=i
 refine .mo rfl<|.q .extract<|.q .extract<|.ag rfl<|.ag rfl<|.z<|.mo rfl<|.mo rfl<|.mo rfl<|.mo rfl<|.mo rfl ?_
 refine .bb (eQ v xs D d lo e g F _ h y o k j l) (λu J i=>?_)
 obtain⟨G,C,Q,rfl,rfl,w,M⟩:=i
 refine .mo rfl<|.q .extract<|.q .extract<|.ag rfl<|.ag rfl<|.z<|.mo rfl<|.mo rfl<|.mo rfl<|.mo rfl<|.mo rfl ?_
 refine .bb (eQ v xs B C lo e g G _ h r w k j l) (λu K i=>?_)
 obtain⟨H,O,E,rfl,rfl,L,A⟩:=i
 refine .mo rfl<|.q .extract<|.q .extract<|.ag rfl<|.ag rfl<|.z<|.mo rfl<|.az rfl ?_
 refine .ret (aZ _ (.one (.tmp rfl)) rH ?_)
 ·exact⟨_,rfl,H,E,rfl,rfl,A⟩
theorem eP(v:Value)(xs:List aO)(a lo d b:Nat)(s:Int)(R:aA)(h:RS R 9 aO.enc v xs)(o:lo+1<=a/\a+1<d)(g:d<=xs.length)(q:xs.length<=1000000000)(e:cf prog f caps R (λt:aO=>Value.agg t.enc.toArray) c ok)(i:∀x∈xs,ok x):
  Spec prog 422 [v,.int .i64 a,pT b,.func (.func f) #[] caps.toArray] R [bl b [.int .i64 s] 3] λu H'=>∃T',H'=[T']/\∃(s':Int) (p:Nat),u=.int .i64 p/\T'=(bl b [.int .i64 s'] 3)/\(lo<=p/\p<d):=by
 have r:=h.aL
 refine Spec.body func422 rfl results422 ntmps422 rfl ?_
 refine .sr<|.ag rfl<|.z<|.mo rfl<|.mo rfl ?_
 refine .ia (a-1) .sub ?_
 refine .mo rfl<|.mo rfl ?_
 refine .ia (a+1) .add ?_
 refine .mo rfl<|.mo rfl ?_
 refine .bb (fI v xs (a-1) a (a+1) lo d b s _ h (by omega) (by omega) (by omega) g e i) (λu n k=>?_)
 obtain⟨m,l,rfl,rfl,j⟩:=k
 refine .az rfl ?_
 refine .ret (aZ _ (.one (.tmp rfl)) rH ?_)
 ·exact⟨_,rfl,m,l,rfl,rfl,j⟩
theorem choose_spec(v:Value)(xs:List aO)(a b:Nat)(R:aA)(h:RS R 9 aO.enc v xs)(Y:a<b)(l:b<=xs.length)(w:xs.length<=1000000000)(m:cf prog f caps R (λt:aO=>Value.agg t.enc.toArray) c ok)(o:∀x∈xs,ok x):
  Spec prog 356 [v,.int .i64 a,.int .i64 b,.func (.func f) #[] caps.toArray] R [] λu H'=>(∃(p:Nat) (t:Int),u=.tuple [.int .i64 p,.int .i64 t].toArray/\a<=p/\p<b)/\H'=[]:=by
 have iv:=h.aL
 obtain⟨n,U⟩:∃n,b=a+n:=⟨b-a,by omega⟩
 subst U
 obtain⟨q,A⟩:∃q,q=n/4:=⟨_,rfl⟩
 refine Spec.body func356 rfl results356 ntmps356 rfl ?_
 refine .sr<|.ag rfl<|.ag rfl<|.z<|.mo rfl<|.mo rfl ?_
 refine .ia (n) .sub ?_
 refine .ag rfl<|.z ?_
 refine .hK (λe=>?_)
 refine .z<|.mo rfl<|.mo rfl ?_
 refine .q (.i64 ((q:Nat):Int) .quo ⟨by rw[A,adm (by omega)];omega,by omega,by omega⟩) ?_
 refine .ia (q) .mul ?_
 refine .ia (a+q) .add ?_
 refine .ag rfl<|.z<|.mo rfl<|.mo rfl ?_
 refine .q (.i64 ((q:Nat):Int) .quo ⟨by rw[A,adm (by omega)];omega,by omega,by omega⟩) ?_
 refine .ia (q*2) .mul ?_
 refine .ia (a+q*2) .add ?_
 refine .ag rfl<|.z<|.mo rfl<|.mo rfl ?_
 refine .q (.i64 ((q:Nat):Int) .quo ⟨by rw[A,adm (by omega)];omega,by omega,by omega⟩) ?_
 refine .ia (q*3) .mul ?_
 refine .ia (a+q*3) .add ?_
 refine .ag rfl<|.zs ?_
 refine bp.cut (X:=Nat×Int) (λz=>a<=z.1/\z.1<a+n) (λz=>[(11,pT e),(13,iN z.1)]) (λz=>[bl e [.int .i64 z.2] 3]) ?_ ?_
 refine .sr<|.mo rfl<|.q .geq<|.zn ?_
 refine .cond rfl (λB=>?_) λB=>?_
 have a0:8<=n:=by have:=bo B;omega
 refine .seq ?_
 refine bp.cut (X:=Nat×Nat×Nat×Int) (λz=>(a<=z.1/\z.1<a+n)/\(a<=z.2.1/\z.2.1<a+n)/\(a<=z.2.2.1/\z.2.2.1<a+n)) (λz=>[(0,v),(3,.func (.func f) #[] caps.toArray),(11,pT e),(12,iN z.1),(13,iN z.2.1),(14,iN z.2.2.1)]) (λz=>[bl e [.int .i64 z.2.2.2] 3]) ?_ ?_
 refine .sr<|.mo rfl<|.q .geq<|.zn ?_
 refine .cond rfl (λC=>?_) λC=>?_
 have Z:50<=n:=by have:=bo C;omega
 refine .sr<|.mo rfl<|.mo rfl<|.mo rfl ?_
 refine .bb (eP v xs (a+q) a (a+n) e 0 _ h (by omega) l w m o) (λu r g=>?_)
 obtain⟨V,K,rfl,rfl,G⟩:=g
 refine .ag rfl<|.z<|.mo rfl<|.mo rfl<|.mo rfl ?_
 refine .bb (eP v xs (a+q*2) a (a+n) e V _ h (by omega) l w m o) (λu r g=>?_)
 obtain⟨W,L,rfl,rfl,H⟩:=g
 refine .az rfl<|.region<|.mo rfl<|.mo rfl<|.mo rfl ?_
 refine .bb (eP v xs (a+q*3) a (a+n) e W _ h (by omega) l w m o) (λu r g=>?_)
 obtain⟨O,M,rfl,rfl,I⟩:=g
 refine .ag rfl<|.nil ?_
 ·first
   |exact ax (K,L,M,O) ⟨G,H,I⟩ kE.c.c.c.c.c.c rH
   |exact ax (a+q,a+q*2,a+q*3,0) ⟨by simp only;omega,by simp only;omega,by simp only;omega⟩ kE.c.c.c.c.c.c rH
 refine .skip ?_
 ·first
   |exact ax (K,L,M,O) ⟨G,H,I⟩ kE.c.c.c.c.c.c rH
   |exact ax (a+q,a+q*2,a+q*3,0) ⟨by simp only;omega,by simp only;omega,by simp only;omega⟩ kE.c.c.c.c.c.c rH
 intro y d
 obtain⟨i,j,k,s⟩:=y
 obtain⟨D,E,F⟩:=d
 simp only at D E F⊢
 refine aD<|.region<|.mo rfl<|.mo rfl<|.mo rfl<|.mo rfl<|.mo rfl ?_
 refine .bb (fI v xs i j k a (a+n) e s _ h D E F l m o) (λu r g=>?_)
 obtain⟨Q,N,rfl,rfl,J⟩:=g
 refine .ag rfl<|.nil ?_
 ·first
   |exact ax (N,Q) J kE.c.c rH
   |exact ax (a+q*2,0) (by simp only;omega) kE.c.c rH
 refine .skip ?_
 ·first
   |exact ax (N,Q) J kE.c.c rH
   |exact ax (a+q*2,0) (by simp only;omega) kE.c.c rH
 intro y d
 obtain⟨p,s⟩:=y
 simp only at d⊢
 refine aD<|.sr<|.lo rfl<|.zn<|.block<|.sr<|.q .cA<|.az rfl ?_
 refine .cond rfl (λS=>?_) λS=>?_
 refine .sr<|.mo rfl<|.ag rfl<|.az rfl ?_
 refine .ret (bg (aZ _ (.two (.tmp rfl) (.tmp rfl)) (.none _) ?_))
 ·exact⟨⟨p,_,rfl,d.1,d.2⟩,rfl⟩
 refine .sr<|.q .cA<|.az rfl ?_
 refine .cond rfl (λT=>?_) λT=>?_
 refine .sr<|.mo rfl<|.ag rfl<|.az rfl ?_
 refine .ret (bg (aZ _ (.two (.tmp rfl) (.tmp rfl)) (.none _) ?_))
 ·exact⟨⟨p,_,rfl,d.1,d.2⟩,rfl⟩
 refine .sr<|.mo rfl<|.ag rfl<|.az rfl ?_
 refine .ret (bg (aZ _ (.two (.tmp rfl) (.tmp rfl)) (.none _) ?_))
 ·exact⟨⟨p,_,rfl,d.1,d.2⟩,rfl⟩
end
end SRW
namespace SRW
section
variable{c:aO->aO->Int}{ok:aO->Prop}{f:FuncId}{caps:List Value} [e:aI prog f]
theorem iP(v:Value)(xs:List aO)(T:ay)(a b m:Nat)(p:aO)(R:aA)(h:OS 152 9 aO.enc v xs T)(b1:a<b)(hm:a<=m/\m<b)(C:xs[m]? =some p)(U:b<=xs.length)(hl:xs.length<=1000000000)(hf:cf prog f caps R (λt:aO=>Value.agg t.enc.toArray) c ok)(a0:∀x∈xs,ok x)(so:SO (ap c))
  (b7:∀(k:Nat) (x:aO),a<=k->k<b->xs[k]? =some x->ap c x p=false):
  Spec prog 359 [v,.int .i64 a,.int .i64 b,.int .i64 m,.func (.func f) #[] caps.toArray] R [T] λu H'=>∃T',H'=[T']/\∃ys mid,u=iN mid/\OS 152 9 aO.enc v ys T'/\RP a b xs ys/\jG (ap c) ys a mid b p:=by
 have iv:=h.aL
 obtain⟨x0,E⟩:∃x,xs[a]? =some x:=⟨_,aC (by omega)⟩
 have a8:=a0 p (aF C)
 refine Spec.body func359 rfl results359 ntmps359 rfl ?_
 refine .sr<|.ag rfl<|.zs<|.bF [13,15] mixed ?_
 refine .tO 0 rfl .move<|.tO 1 rfl .move<|.tK 2 rfl .move<|.tK 3 rfl .move<|.tO 4 rfl .move<|.tO 5 rfl .move ?_
 refine RA.au 6 rfl (m) h C rfl rfl rfl (by kernel_rfl) (λd1=>?_)
 refine .tO 7 rfl (.aE rfl)<|.tO 8 rfl .move<|.tO 9 rfl .move ?_
 refine RA.au 10 rfl (a) h E rfl rfl rfl (by kernel_rfl) (λd2=>?_)
 refine .tO 11 rfl (.aE rfl) ?_
 refine RA.au 12 rfl (a) h E rfl rfl rfl (by kernel_rfl) (λd3=>?_)
 refine .sT 13 rfl ?_
 refine .bt (a) h E p (λa9 a1=>?_) (h.one _ (aF C))
 refine .nil (Next.mod rfl ?_)
 refine RA.au 14 rfl (m) h C rfl rfl rfl (by kernel_rfl) (λd4=>?_)
 refine .sT 15 rfl ?_
 obtain⟨zz,a2⟩:∃u,(xs.set (a) p)[m]? =some u:=⟨_,aC (by rw[adh];exact(adg.1 C).1)⟩
 refine .bt (m) a1 a2 x0 (λY K=>?_) (h.one _ (aF E))
 rw[<-bS E C]at K
 refine .nil (Next.mod rfl ?_)
 refine RA.nil (by kernel_rfl) ?_
 have b0:RP a b xs (bn xs a m):=(RP.refl xs).step (by omega) (by omega) (by omega) (by omega) (by omega)
 have b2:(bn xs a m)[a]? =some p:=by
  rw[cX (by omega) (by omega)]
  by_cases hk:a=m
  ·rw[adj hk,E, <-C, <-hk,E]
  ·rw[adi hk,adj rfl,C]
 refine aD<|.sr<|.mo rfl ?_
 refine .ia (a+1) .add ?_
 refine .mo rfl ?_
 refine .ia (b-1) .sub ?_
 refine .ag rfl<|.ag rfl<|.zs<|.block ?_
 refine .loop (X:=Nat×Nat×List aO×ay) (λy=>OS 152 9 aO.enc v y.2.2.1 y.2.2.2/\RP a b xs y.2.2.1/\PQ (λx=> !ap c p x) y.2.2.1 a y.1 y.2.1 b p) (λy=>[(0,v),(1,iN a),(4,.func (.func f) #[] caps.toArray),(11,iN y.1),(12,iN y.2.1)]) (λy=>[y.2.2.2]) (λy=>y.2.1+1-y.1) (a+1,b-1,bn xs a m,Y) ⟨K,b0,.start b1 b2⟩ kE.c.c.c.c.c rH ?_
 rintro⟨i,j,ys,N⟩ ⟨r,D,G⟩
 simp only at r D G⊢
 have d0:=D.length
 have c4:=G.i0
 have c6:=G.ij
 have c8:=G.jb
 have a7:=G.at_
 refine .block<|.seq ?_
 refine bp.cut (X:=Nat) (λs=>i<=s/\PQ (λx=> !ap c p x) ys a s j b p/\∀x,s<=j->ys[s]? =some x->(!ap c p x)=false) (λs=>[(0,v),(1,iN a),(4,.func (.func f) #[] caps.toArray),(11,.int .i64 (s:Nat)),(12,iN j)]) (λ_=>[N]) ?_ ?_
 refine .block ?_
 refine .loop (X:=Nat) (λs=>i<=s/\PQ (λx=> !ap c p x) ys a s j b p) (λs=>[(0,v),(1,iN a),(4,.func (.func f) #[] caps.toArray),(11,.int .i64 (s:Nat)),(12,iN j)]) (λ_=>[N]) (λs=>j+1-s) i ⟨adf _,G⟩ kE.c.c.c.c.c rH ?_
 rintro A ⟨V,I⟩
 refine .seq<|.seq ?_
 refine .bQ 13 mixed (by kernel_rfl) ?_
 conv=>arg 6;dsimp only[List.take]
 refine .mo rfl<|.mo rfl<|.q .leq<|.mo rfl ?_
 refine .split (t:=34) rfl (λd=>?_) (λd=>?_)
 have b5:A<=j:=by have:=bo d;omega
 obtain⟨x2,L⟩:∃x,ys[A]? =some x:=⟨_,aC (by omega)⟩
 have c2:=a0 x2 (D.perm.mem_iff.1 (aF L))
 refine .gT d<|.mo rfl<|.gT d<|.mo rfl<|.gT d<|.mo rfl<|.gT d ?_
 refine .au a r a7 (λd5=>?_)
 refine .gT d<|.q (.aE rfl)<|.gT d<|.mo rfl<|.gT d<|.mo rfl<|.gT d ?_
 refine .au A r L (λd6=>?_)
 refine .gT d<|.q (.aE rfl)<|.nil<|.gT d ?_
 refine .cj (first:=[]) (captured:=caps) (vs:=[(λt:aO=>Value.agg t.enc.toArray) p,(λt:aO=>Value.agg t.enc.toArray) x2]) (hf p x2 a8 c2 _ (λb o U=>.inl U)) (λu hu=>?_)
 subst hu
 refine .gT d<|.q .lss<|.gT d<|.q .not<|.q (.bu d) ?_
 refine .zn ?_
 refine .cond rfl (λO=>?_) λO=>?_
 refine .kn<|.block<|.region<|.mo rfl ?_
 refine .ia (A+1) .add ?_
 refine .ag rfl<|.nil<|bi ?_
 ·exact aN (A+1) ⟨by omega,I.inc b5 L O⟩ (by omega) kE.c.c.c.c.c rH
 refine .exit<|aP<|aV<|aR ?_
 first
  |exact ax A ⟨V,I,λx g n=>by rw[L]at n;cases n;exact O⟩ kE.c.c.c.c.c rH
  |exact ax A ⟨V,I,λx g n=>by have:=aY d;omega⟩ kE.c.c.c.c.c rH
 refine .gF d<|.gF d<|.gF d<|.gF d<|.gF d<|.gF d<|.gF d<|.gF d<|.gF d<|.nil<|.gF d<|.gF d<|.gF d<|.q (.bq d) ?_
 refine .zn<|.bB<|.exit<|aP<|aV<|aR ?_
 first
  |exact ax A ⟨V,I,λx g n=>by rw[L]at n;cases n;exact O⟩ kE.c.c.c.c.c rH
  |exact ax A ⟨V,I,λx g n=>by have:=aY d;omega⟩ kE.c.c.c.c.c rH
 intro x g
 obtain⟨l,a4⟩:∃l,l=x:=⟨_,rfl⟩
 rw[<-a4]at g⊢
 clear a4 x
 obtain⟨c5,a3,c0⟩:=g
 refine aD<|.seq ?_
 refine bp.cut (X:=Nat) (λw=>w<=j/\PQ (λx=> !ap c p x) ys a l w b p/\∀x,l<=w->ys[w]? =some x->(!ap c p x)=true) (λw=>[(0,v),(1,iN a),(4,.func (.func f) #[] caps.toArray),(11,iN l),(12,.int .i64 (w:Nat))]) (λ_=>[N]) ?_ ?_
 refine .block ?_
 refine .loop (X:=Nat) (λw=>w<=j/\PQ (λx=> !ap c p x) ys a l w b p) (λw=>[(0,v),(1,iN a),(4,.func (.func f) #[] caps.toArray),(11,iN l),(12,.int .i64 (w:Nat))]) (λ_=>[N]) (λw=>w) j ⟨adf _,a3⟩ kE.c.c.c.c.c rH ?_
 rintro B ⟨W,J⟩
 have b4:=a3.i0
 refine .seq<|.seq ?_
 refine .bQ 13 mixed (by kernel_rfl) ?_
 conv=>arg 6;dsimp only[List.take]
 refine .mo rfl<|.mo rfl<|.q .leq<|.mo rfl ?_
 refine .split (t:=53) rfl (λe=>?_) (λe=>?_)
 have b6:l<=B:=by have:=bo e;omega
 obtain⟨H,M⟩:∃x,ys[B]? =some x:=⟨_,aC (by omega)⟩
 have c3:=a0 H (D.perm.mem_iff.1 (aF M))
 refine .gT e<|.mo rfl<|.gT e<|.mo rfl<|.gT e<|.mo rfl<|.gT e ?_
 refine .au a r a7 (λd7=>?_)
 refine .gT e<|.q (.aE rfl)<|.gT e<|.mo rfl<|.gT e<|.mo rfl<|.gT e ?_
 refine .au B r M (λd8=>?_)
 refine .gT e<|.q (.aE rfl)<|.nil<|.gT e ?_
 refine .cj (first:=[]) (captured:=caps) (vs:=[(λt:aO=>Value.agg t.enc.toArray) p,(λt:aO=>Value.agg t.enc.toArray) H]) (hf p H a8 c3 _ (λb o U=>.inl U)) (λu hu=>?_)
 subst hu
 refine .gT e<|.q .lss<|.q (.bu e) ?_
 refine .zn ?_
 refine .cond rfl (λQ=>?_) λQ=>?_
 refine .kn<|.block<|.region<|.mo rfl ?_
 refine .ia (B-1) .sub ?_
 refine .ag rfl<|.nil<|bi ?_
 ·have b8:ap c p H=true:=Q
  exact aN (B-1) ⟨by omega,J.dec b6 M (by rw[b8];rfl)⟩ (by omega) kE.c.c.c.c.c rH
 refine .exit<|aP<|aV<|aR ?_
 first
  |exact ax B ⟨W,J,λx g n=>by have hh:ap c p H=false:=Q;rw[M]at n;cases n;rw[hh];rfl⟩ kE.c.c.c.c.c rH
  |exact ax B ⟨W,J,λx g n=>by have:=aY e;omega⟩ kE.c.c.c.c.c rH
 refine .gF e<|.gF e<|.gF e<|.gF e<|.gF e<|.gF e<|.gF e<|.gF e<|.gF e<|.nil<|.gF e<|.gF e<|.q (.bq e) ?_
 refine .zn<|.bB<|.exit<|aP<|aV<|aR ?_
 first
  |exact ax B ⟨W,J,λx g n=>by have hh:ap c p H=false:=Q;rw[M]at n;cases n;rw[hh];rfl⟩ kE.c.c.c.c.c rH
  |exact ax B ⟨W,J,λx g n=>by have:=aY e;omega⟩ kE.c.c.c.c.c rH
 intro x g
 obtain⟨z,a5⟩:∃z,z=x:=⟨_,rfl⟩
 rw[<-a5]at g⊢
 clear a5 x
 obtain⟨c9,S,c1⟩:=g
 have b4:=S.i0
 have c7:=S.ij
 refine aD<|.seq<|.sr<|.mo rfl<|.mo rfl<|.q .gtr<|.zn ?_
 refine .cond rfl (λZ=>?_) λZ=>?_
 refine .exit (aP (dn (aV (aR ?_))))
 refine aD<|.sr<|.mo rfl<|.az rfl ?_
 refine .ret (aZ _ (.one (.tmp rfl)) rH ?_)
 ·have b3:z<l:=de Z
  exact⟨_,rfl,ys,l,rfl,r,D,S.kU so b3 (D.all (p:=λx=>ap c x p=false) b7)⟩
 have a6:l<=z:=by have:=aY Z;omega
 obtain⟨x,g⟩:∃x,ys[l]? =some x:=⟨_,aC (by omega)⟩
 obtain⟨y,F⟩:∃x,ys[z]? =some x:=⟨_,aC (by omega)⟩
 have b9:=S.sw a6 (by omega) g F (c0 x (by omega) g) (c1 y a6 F)
 refine .kn<|.seq<|.bF [13,15] mixed ?_
 refine .tO 0 rfl .move<|.tO 1 rfl .move<|.tK 2 rfl .move<|.tK 3 rfl .move<|.tO 4 rfl .move<|.tO 5 rfl .move ?_
 refine RA.au 6 rfl (z) r F rfl rfl rfl (by kernel_rfl) (λd9=>?_)
 refine .tO 7 rfl (.aE rfl)<|.tO 8 rfl .move<|.tO 9 rfl .move ?_
 refine RA.au 10 rfl (l) r g rfl rfl rfl (by kernel_rfl) (λe0=>?_)
 refine .tO 11 rfl (.aE rfl) ?_
 refine RA.au 12 rfl (l) r g rfl rfl rfl (by kernel_rfl) (λe1=>?_)
 refine .sT 13 rfl ?_
 refine .bt (l) r g y (λa9 a1=>?_) (r.one _ (aF F))
 refine .nil (Next.mod rfl ?_)
 refine RA.au 14 rfl (z) r F rfl rfl rfl (by kernel_rfl) (λe2=>?_)
 refine .sT 15 rfl ?_
 obtain⟨zz,a2⟩:∃u,(ys.set (l) y)[z]? =some u:=⟨_,aC (by rw[adh];exact(adg.1 F).1)⟩
 refine .bt (z) a1 a2 x (λY K=>?_) (r.one _ (aF g))
 rw[<-bS g F]at K
 refine .nil (Next.mod rfl ?_)
 refine RA.nil (by kernel_rfl) ?_
 refine aD<|.sr<|.mo rfl ?_
 refine .ia (l+1) .add ?_
 refine .az rfl<|.region<|.mo rfl ?_
 refine .ia (z-1) .sub ?_
 refine .ag rfl<|.nil<|bi ?_
 ·exact aN (l+1,z-1,bn ys l z,Y) ⟨K,D.step (by omega) (by omega) (by omega) (by omega) (by omega),b9.2⟩ (by simp only;omega) kE.c.c.c.c.c rH
theorem fJ(v:Value)(xs:List aO)(T:ay)(a b m:Nat)(p:aO)(R:aA)(h:OS 152 9 aO.enc v xs T)(e0:a<b)(hm:a<=m/\m<b)(U:xs[m]? =some p)(S:b<=xs.length)(hl:xs.length<=1000000000)(hf:cf prog f caps R (λt:aO=>Value.agg t.enc.toArray) c ok)(b0:∀x∈xs,ok x)(so:SO (ap c)):
  Spec prog 360 [v,.int .i64 a,.int .i64 b,.int .i64 m,.func (.func f) #[] caps.toArray] R [T] λu H'=>∃T',H'=[T']/\∃ys mid z,u=.tuple [iN mid,.bool z].toArray/\OS 152 9 aO.enc v ys T'/\RP a b xs ys/\Part (ap c) ys a mid b p:=by
 have iv:=h.aL
 obtain⟨x0,Z⟩:∃x,xs[a]? =some x:=⟨_,aC (by omega)⟩
 have c3:=b0 p (aF U)
 refine Spec.body func360 rfl results360 ntmps360 rfl ?_
 refine .sr<|.ag rfl<|.ag rfl<|.zs<|.bF [13,15] mixed ?_
 refine .tO 0 rfl .move<|.tO 1 rfl .move<|.tK 2 rfl .move<|.tK 3 rfl .move<|.tO 4 rfl .move<|.tO 5 rfl .move ?_
 refine RA.au 6 rfl (m) h U rfl rfl rfl (by kernel_rfl) (λk0=>?_)
 refine .tO 7 rfl (.aE rfl)<|.tO 8 rfl .move<|.tO 9 rfl .move ?_
 refine RA.au 10 rfl (a) h Z rfl rfl rfl (by kernel_rfl) (λk1=>?_)
 refine .tO 11 rfl (.aE rfl) ?_
 refine RA.au 12 rfl (a) h Z rfl rfl rfl (by kernel_rfl) (λk4=>?_)
 refine .sT 13 rfl ?_
 refine .bt (a) h Z p (λb7 J=>?_) (h.one _ (aF U))
 refine .nil (Next.mod rfl ?_)
 refine RA.au 14 rfl (m) h U rfl rfl rfl (by kernel_rfl) (λk5=>?_)
 refine .sT 15 rfl ?_
 obtain⟨zz,K⟩:∃u,(xs.set (a) p)[m]? =some u:=⟨_,aC (by rw[adh];exact(adg.1 U).1)⟩
 refine .bt (m) J K x0 (λV E=>?_) (h.one _ (aF Z))
 rw[<-bS Z U]at E
 refine .nil (Next.mod rfl ?_)
 refine RA.nil (by kernel_rfl) ?_
 have a4:RP a b xs (bn xs a m):=(RP.refl xs).step (by omega) (by omega) (by omega) (by omega) (by omega)
 have I:(bn xs a m)[a]? =some p:=by
  rw[cX (by omega) (by omega)]
  by_cases hk:a=m
  ·rw[adj hk,Z, <-U, <-hk,Z]
  ·rw[adi hk,adj rfl,U]
 obtain⟨D,d5⟩:∃D,D=bn xs a m:=⟨_,rfl⟩
 rw[<-d5]at E a4 I
 obtain⟨T0,d9⟩:∃T0,T0=V:=⟨_,rfl⟩
 rw[<-d9]at E⊢
 have h8:=a4.length
 have A:=E
 clear E
 have d8:PQ (λx=>ap c x p) D a (a+1) (b-1) b p:=.start e0 I
 clear d5
 refine aD<|.sr<|.mo rfl ?_
 refine .ia (a+1) .add ?_
 refine .mo rfl ?_
 refine .ia (b-1) .sub ?_
 refine .ag rfl<|.ag rfl<|.zs ?_
 refine bp.cut (X:=Nat) (λs=>PQ (λx=>ap c x p) D a s (b-1) b p/\∀x,s<=b-1->D[s]? =some x->ap c x p=false) (λs=>[(0,v),(1,iN a),(4,.func (.func f) #[] caps.toArray),(12,.int .i64 (s:Nat)),(13,.int .i64 ((b-1:Nat):Int))]) (λ_=>[T0]) ?_ ?_
 refine .block ?_
 refine .loop (X:=Nat) (λs=>PQ (λx=>ap c x p) D a s (b-1) b p) (λs=>[(0,v),(1,iN a),(4,.func (.func f) #[] caps.toArray),(12,.int .i64 (s:Nat)),(13,.int .i64 ((b-1:Nat):Int))]) (λ_=>[T0]) (λs=>b-s) (a+1) d8 kE.c.c.c.c.c rH ?_
 rintro L a6
 refine .seq<|.seq ?_
 refine .bQ 13 mixed (by kernel_rfl) ?_
 conv=>arg 6;dsimp only[List.take]
 refine .mo rfl<|.mo rfl<|.q .leq<|.mo rfl ?_
 refine .split (t:=35) rfl (λn=>?_) (λn=>?_)
 have e4:L<=b-1:=by have:=bo n;omega
 obtain⟨x2,b2⟩:∃x,D[L]? =some x:=⟨_,aC (by omega)⟩
 have f6:=b0 x2 (a4.perm.mem_iff.1 (aF b2))
 refine .gT n<|.mo rfl<|.gT n<|.mo rfl<|.gT n<|.mo rfl<|.gT n ?_
 refine .au L A b2 (λk6=>?_)
 refine .gT n<|.q (.aE rfl)<|.gT n<|.mo rfl<|.gT n<|.mo rfl<|.gT n ?_
 refine .au a A I (λk7=>?_)
 refine .gT n<|.q (.aE rfl)<|.nil<|.gT n ?_
 refine .cj (first:=[]) (captured:=caps) (vs:=[(λt:aO=>Value.agg t.enc.toArray) x2,(λt:aO=>Value.agg t.enc.toArray) p]) (hf x2 p f6 c3 _ (λb o S=>.inl S)) (λu Y=>?_)
 subst Y
 refine .gT n<|.q .lss<|.q (.bu n) ?_
 refine .zn ?_
 refine .cond rfl (λh1=>?_) λh1=>?_
 refine .kn<|.block<|.region<|.mo rfl ?_
 refine .ia (L+1) .add ?_
 refine .ag rfl<|.nil<|bi ?_
 ·exact aN (L+1) (a6.inc e4 b2 h1) (by omega) kE.c.c.c.c.c rH
 refine .exit<|aP<|aV<|aR ?_
 first
  |exact ax L ⟨a6,λx d e=>by rw[b2]at e;cases e;exact h1⟩ kE.c.c.c.c.c rH
  |exact ax L ⟨a6,λx d e=>by have:=aY n;omega⟩ kE.c.c.c.c.c rH
 refine .gF n<|.gF n<|.gF n<|.gF n<|.gF n<|.gF n<|.gF n<|.gF n<|.gF n<|.nil<|.gF n<|.gF n<|.q (.bq n) ?_
 refine .zn<|.bB<|.exit<|aP<|aV<|aR ?_
 first
  |exact ax L ⟨a6,λx d e=>by rw[b2]at e;cases e;exact h1⟩ kE.c.c.c.c.c rH
  |exact ax L ⟨a6,λx d e=>by have:=aY n;omega⟩ kE.c.c.c.c.c rH
 intro x d
 obtain⟨B,c7⟩:∃B,B=x:=⟨_,rfl⟩
 rw[<-c7]at d⊢
 clear c7 x
 obtain⟨c5,f2⟩:=d
 refine aD<|.seq ?_
 refine bp.cut (X:=Nat) (λr=>r<=b-1/\PQ (λx=>ap c x p) D a B r b p/\∀x,B<=r->D[r]? =some x->ap c x p=true) (λr=>[(0,v),(1,iN a),(4,.func (.func f) #[] caps.toArray),(12,iN B),(13,.int .i64 (r:Nat))]) (λ_=>[T0]) ?_ ?_
 refine .block ?_
 refine .loop (X:=Nat) (λr=>r<=b-1/\PQ (λx=>ap c x p) D a B r b p) (λr=>[(0,v),(1,iN a),(4,.func (.func f) #[] caps.toArray),(12,iN B),(13,.int .i64 (r:Nat))]) (λ_=>[T0]) (λr=>r) (b-1) ⟨adf _,c5⟩ kE.c.c.c.c.c rH ?_
 rintro M ⟨c0,a7⟩
 have e2:=c5.i0
 refine .seq<|.seq ?_
 refine .bQ 13 mixed (by kernel_rfl) ?_
 conv=>arg 6;dsimp only[List.take]
 refine .mo rfl<|.mo rfl<|.q .leq<|.mo rfl ?_
 refine .split (t:=53) rfl (λk=>?_) (λk=>?_)
 have e5:B<=M:=by have:=bo k;omega
 obtain⟨x4,b3⟩:∃x,D[M]? =some x:=⟨_,aC (by omega)⟩
 have f7:=b0 x4 (a4.perm.mem_iff.1 (aF b3))
 refine .gT k<|.mo rfl<|.gT k<|.mo rfl<|.gT k<|.mo rfl<|.gT k ?_
 refine .au M A b3 (λk8=>?_)
 refine .gT k<|.q (.aE rfl)<|.gT k<|.mo rfl<|.gT k<|.mo rfl<|.gT k ?_
 refine .au a A I (λk9=>?_)
 refine .gT k<|.q (.aE rfl)<|.nil<|.gT k ?_
 refine .cj (first:=[]) (captured:=caps) (vs:=[(λt:aO=>Value.agg t.enc.toArray) x4,(λt:aO=>Value.agg t.enc.toArray) p]) (hf x4 p f7 c3 _ (λb o S=>.inl S)) (λu Y=>?_)
 subst Y
 refine .gT k<|.q .lss<|.gT k<|.q .not<|.q (.bu k) ?_
 refine .zn ?_
 refine .cond rfl (λh2=>?_) λh2=>?_
 refine .kn<|.block<|.region<|.mo rfl ?_
 refine .ia (M-1) .sub ?_
 refine .ag rfl<|.nil<|bi ?_
 ·have e8:ap c x4 p=false:=by
   have d6:(!ap c x4 p)=true:=h2
   simpa using d6
  exact aN (M-1) ⟨by omega,a7.dec e5 b3 e8⟩ (by omega) kE.c.c.c.c.c rH
 refine .exit<|aP<|aV<|aR ?_
 first
  |exact ax M ⟨c0,a7,λx d e=>by
    have W:(!ap c x4 p)=false:=h2
    rw[b3]at e;cases e
    simpa using W⟩ kE.c.c.c.c.c rH
  |exact ax M ⟨c0,a7,λx d e=>by have:=aY k;omega⟩ kE.c.c.c.c.c rH
 refine .gF k<|.gF k<|.gF k<|.gF k<|.gF k<|.gF k<|.gF k<|.gF k<|.gF k<|.nil<|.gF k<|.gF k<|.gF k<|.q (.bq k) ?_
 refine .zn<|.bB<|.exit<|aP<|aV<|aR ?_
 first
  |exact ax M ⟨c0,a7,λx d e=>by
    have W:(!ap c x4 p)=false:=h2
    rw[b3]at e;cases e
    simpa using W⟩ kE.c.c.c.c.c rH
  |exact ax M ⟨c0,a7,λx d e=>by have:=aY k;omega⟩ kE.c.c.c.c.c rH
 intro x d
 obtain⟨w,c8⟩:∃w,w=x:=⟨_,rfl⟩
 rw[<-c8]at d⊢
 clear c8 x
 obtain⟨g9,b8,f3⟩:=d
 have e2:=b8.i0
 have g3:=b8.ij
 refine aD<|.seq<|.sr<|.mo rfl<|.mo rfl<|.q .gtr<|.zn ?_
 refine .cond rfl (λh3=>?_) λh3=>?_
 have e1:w<B:=de h3
 obtain⟨y,G⟩:∃x,D[w]? =some x:=⟨_,aC (by omega)⟩
 refine .seq<|.bF [13,15] mixed ?_
 refine .tO 0 rfl .move<|.tO 1 rfl .move<|.tK 2 rfl .move<|.tK 3 rfl .move<|.tO 4 rfl .move<|.tO 5 rfl .move ?_
 refine RA.au 6 rfl (a) A I rfl rfl rfl (by kernel_rfl) (λl0=>?_)
 refine .tO 7 rfl (.aE rfl)<|.tO 8 rfl .move<|.tO 9 rfl .move ?_
 refine RA.au 10 rfl (w) A G rfl rfl rfl (by kernel_rfl) (λl1=>?_)
 refine .tO 11 rfl (.aE rfl) ?_
 refine RA.au 12 rfl (w) A G rfl rfl rfl (by kernel_rfl) (λl2=>?_)
 refine .sT 13 rfl ?_
 refine .bt (w) A G p (λb7 J=>?_) (A.one _ (aF I))
 refine .nil (Next.mod rfl ?_)
 refine RA.au 14 rfl (a) A I rfl rfl rfl (by kernel_rfl) (λl3=>?_)
 refine .sT 15 rfl ?_
 obtain⟨zz,K⟩:∃u,(D.set (w) p)[a]? =some u:=⟨_,aC (by rw[adh];exact(adg.1 I).1)⟩
 refine .bt (a) J K y (λV E=>?_) (A.one _ (aF G))
 rw[<-bS G I]at E
 refine .nil (Next.mod rfl ?_)
 refine RA.nil (by kernel_rfl) ?_
 refine aD<|.sr<|.mo rfl<|.ag rfl<|.az rfl ?_
 refine .ret (aT (aZ _ (.two (.tmp rfl) (.tmp rfl)) rH ?_))
 ·exact⟨_,rfl,bn D w a,w,true,rfl,E,a4.step (by omega) (by omega) (by omega) (by omega) (by omega),b8.fin e1 (by omega)⟩
 have d1:B<=w:=by have:=aY h3;omega
 obtain⟨x,d⟩:∃x,D[B]? =some x:=⟨_,aC (by omega)⟩
 obtain⟨y,G⟩:∃x,D[w]? =some x:=⟨_,aC (by omega)⟩
 have f0:=b8.sw d1 (by omega) d G (f2 x (by omega) d) (f3 y d1 G)
 refine .kn<|.seq<|.bF [13,15] mixed ?_
 refine .tO 0 rfl .move<|.tO 1 rfl .move<|.tK 2 rfl .move<|.tK 3 rfl .move<|.tO 4 rfl .move<|.tO 5 rfl .move ?_
 refine RA.au 6 rfl (w) A G rfl rfl rfl (by kernel_rfl) (λl4=>?_)
 refine .tO 7 rfl (.aE rfl)<|.tO 8 rfl .move<|.tO 9 rfl .move ?_
 refine RA.au 10 rfl (B) A d rfl rfl rfl (by kernel_rfl) (λl5=>?_)
 refine .tO 11 rfl (.aE rfl) ?_
 refine RA.au 12 rfl (B) A d rfl rfl rfl (by kernel_rfl) (λl6=>?_)
 refine .sT 13 rfl ?_
 refine .bt (B) A d y (λb7 J=>?_) (A.one _ (aF G))
 refine .nil (Next.mod rfl ?_)
 refine RA.au 14 rfl (w) A G rfl rfl rfl (by kernel_rfl) (λi1=>?_)
 refine .sT 15 rfl ?_
 obtain⟨zz,K⟩:∃u,(D.set (B) y)[w]? =some u:=⟨_,aC (by rw[adh];exact(adg.1 G).1)⟩
 refine .bt (w) J K x (λV E=>?_) (A.one _ (aF d))
 rw[<-bS d G]at E
 refine .nil (Next.mod rfl ?_)
 refine RA.nil (by kernel_rfl) ?_
 refine aD<|.sr<|.mo rfl ?_
 refine .ia (B+1) .add ?_
 refine .ag rfl<|.z<|.mo rfl ?_
 refine .ia (w-1) .sub ?_
 refine .ag rfl<|.zs ?_
 refine bp.cut (X:=Nat×Nat×List aO×ay) (λy=>OS 152 9 aO.enc v y.2.2.1 y.2.2.2/\RP a b xs y.2.2.1/\PQ (λx=>ap c x p) y.2.2.1 a y.1 y.2.1 b p/\y.2.1<y.1) (λy=>[(0,v),(1,iN a),(4,.func (.func f) #[] caps.toArray),(12,iN y.1),(13,iN y.2.1)]) (λy=>[y.2.2.2]) ?_ ?_
 refine .block ?_
 refine .loop (X:=Nat×Nat×List aO×ay) (λy=>OS 152 9 aO.enc v y.2.2.1 y.2.2.2/\RP a b xs y.2.2.1/\PQ (λx=>ap c x p) y.2.2.1 a y.1 y.2.1 b p) (λy=>[(0,v),(1,iN a),(4,.func (.func f) #[] caps.toArray),(12,iN y.1),(13,iN y.2.1)]) (λy=>[y.2.2.2]) (λy=>y.2.1+1-y.1) (B+1,w-1,bn D B w,V) ⟨E,a4.step (by omega) (by omega) (by omega) (by omega) (by omega),f0.2⟩ kE.c.c.c.c.c rH ?_
 rintro⟨i,j,ys,T1⟩ ⟨F,a5,a2⟩
 simp only at F a5 a2⊢
 have h7:=a5.length
 have g0:=a2.i0
 have g2:=a2.ij
 have g7:=a2.jb
 have d4:=a2.at_
 refine .block<|.seq ?_
 refine bp.cut (X:=Nat) (λs=>i<=s/\PQ (λx=>ap c x p) ys a s j b p/\∀x,s<=j->ys[s]? =some x->ap c x p=false) (λs=>[(0,v),(1,iN a),(4,.func (.func f) #[] caps.toArray),(12,.int .i64 (s:Nat)),(13,iN j)]) (λ_=>[T1]) ?_ ?_
 refine .block ?_
 refine .loop (X:=Nat) (λs=>i<=s/\PQ (λx=>ap c x p) ys a s j b p) (λs=>[(0,v),(1,iN a),(4,.func (.func f) #[] caps.toArray),(12,.int .i64 (s:Nat)),(13,iN j)]) (λ_=>[T1]) (λs=>j+1-s) i ⟨adf _,a2⟩ kE.c.c.c.c.c rH ?_
 rintro N ⟨c1,a8⟩
 refine .seq<|.seq ?_
 refine .bQ 13 mixed (by kernel_rfl) ?_
 conv=>arg 6;dsimp only[List.take]
 refine .mo rfl<|.mo rfl<|.q .leq<|.mo rfl ?_
 refine .split (t:=108) rfl (λl=>?_) (λl=>?_)
 have e6:N<=j:=by have:=bo l;omega
 obtain⟨x6,b4⟩:∃x,ys[N]? =some x:=⟨_,aC (by omega)⟩
 have f8:=b0 x6 (a5.perm.mem_iff.1 (aF b4))
 refine .gT l<|.mo rfl<|.gT l<|.mo rfl<|.gT l<|.mo rfl<|.gT l ?_
 refine .au N F b4 (λi4=>?_)
 refine .gT l<|.q (.aE rfl)<|.gT l<|.mo rfl<|.gT l<|.mo rfl<|.gT l ?_
 refine .au a F d4 (λi5=>?_)
 refine .gT l<|.q (.aE rfl)<|.nil<|.gT l ?_
 refine .cj (first:=[]) (captured:=caps) (vs:=[(λt:aO=>Value.agg t.enc.toArray) x6,(λt:aO=>Value.agg t.enc.toArray) p]) (hf x6 p f8 c3 _ (λb o S=>.inl S)) (λu Y=>?_)
 subst Y
 refine .gT l<|.q .lss<|.q (.bu l) ?_
 refine .zn ?_
 refine .cond rfl (λh4=>?_) λh4=>?_
 refine .kn<|.block<|.region<|.mo rfl ?_
 refine .ia (N+1) .add ?_
 refine .ag rfl<|.nil<|bi ?_
 ·exact aN (N+1) ⟨by omega,a8.inc e6 b4 h4⟩ (by omega) kE.c.c.c.c.c rH
 refine .exit<|aP<|aV<|aR ?_
 first
  |exact ax N ⟨c1,a8,λx d e=>by rw[b4]at e;cases e;exact h4⟩ kE.c.c.c.c.c rH
  |exact ax N ⟨c1,a8,λx d e=>by have:=aY l;omega⟩ kE.c.c.c.c.c rH
 refine .gF l<|.gF l<|.gF l<|.gF l<|.gF l<|.gF l<|.gF l<|.gF l<|.gF l<|.nil<|.gF l<|.gF l<|.q (.bq l) ?_
 refine .zn<|.bB<|.exit<|aP<|aV<|aR ?_
 first
  |exact ax N ⟨c1,a8,λx d e=>by rw[b4]at e;cases e;exact h4⟩ kE.c.c.c.c.c rH
  |exact ax N ⟨c1,a8,λx d e=>by have:=aY l;omega⟩ kE.c.c.c.c.c rH
 intro x d
 obtain⟨C,d0⟩:∃C,C=x:=⟨_,rfl⟩
 rw[<-d0]at d⊢
 clear d0 x
 obtain⟨g6,c6,f4⟩:=d
 refine aD<|.seq ?_
 refine bp.cut (X:=Nat) (λr=>r<=j/\PQ (λx=>ap c x p) ys a C r b p/\∀x,C<=r->ys[r]? =some x->ap c x p=true) (λr=>[(0,v),(1,iN a),(4,.func (.func f) #[] caps.toArray),(12,iN C),(13,.int .i64 (r:Nat))]) (λ_=>[T1]) ?_ ?_
 refine .block ?_
 refine .loop (X:=Nat) (λr=>r<=j/\PQ (λx=>ap c x p) ys a C r b p) (λr=>[(0,v),(1,iN a),(4,.func (.func f) #[] caps.toArray),(12,iN C),(13,.int .i64 (r:Nat))]) (λ_=>[T1]) (λr=>r) j ⟨adf _,c6⟩ kE.c.c.c.c.c rH ?_
 rintro O ⟨c2,a9⟩
 have e3:=c6.i0
 refine .seq<|.seq ?_
 refine .bQ 13 mixed (by kernel_rfl) ?_
 conv=>arg 6;dsimp only[List.take]
 refine .mo rfl<|.mo rfl<|.q .leq<|.mo rfl ?_
 refine .split (t:=126) rfl (λg=>?_) (λg=>?_)
 have e7:C<=O:=by have:=bo g;omega
 obtain⟨x7,b5⟩:∃x,ys[O]? =some x:=⟨_,aC (by omega)⟩
 have f9:=b0 x7 (a5.perm.mem_iff.1 (aF b5))
 refine .gT g<|.mo rfl<|.gT g<|.mo rfl<|.gT g<|.mo rfl<|.gT g ?_
 refine .au O F b5 (λi6=>?_)
 refine .gT g<|.q (.aE rfl)<|.gT g<|.mo rfl<|.gT g<|.mo rfl<|.gT g ?_
 refine .au a F d4 (λi7=>?_)
 refine .gT g<|.q (.aE rfl)<|.nil<|.gT g ?_
 refine .cj (first:=[]) (captured:=caps) (vs:=[(λt:aO=>Value.agg t.enc.toArray) x7,(λt:aO=>Value.agg t.enc.toArray) p]) (hf x7 p f9 c3 _ (λb o S=>.inl S)) (λu Y=>?_)
 subst Y
 refine .gT g<|.q .lss<|.gT g<|.q .not<|.q (.bu g) ?_
 refine .zn ?_
 refine .cond rfl (λh5=>?_) λh5=>?_
 refine .kn<|.block<|.region<|.mo rfl ?_
 refine .ia (O-1) .sub ?_
 refine .ag rfl<|.nil<|bi ?_
 ·have e9:ap c x7 p=false:=by
   have d7:(!ap c x7 p)=true:=h5
   simpa using d7
  exact aN (O-1) ⟨by omega,a9.dec e7 b5 e9⟩ (by omega) kE.c.c.c.c.c rH
 refine .exit<|aP<|aV<|aR ?_
 first
  |exact ax O ⟨c2,a9,λx d e=>by
    have W:(!ap c x7 p)=false:=h5
    rw[b5]at e;cases e
    simpa using W⟩ kE.c.c.c.c.c rH
  |exact ax O ⟨c2,a9,λx d e=>by have:=aY g;omega⟩ kE.c.c.c.c.c rH
 refine .gF g<|.gF g<|.gF g<|.gF g<|.gF g<|.gF g<|.gF g<|.gF g<|.gF g<|.nil<|.gF g<|.gF g<|.gF g<|.q (.bq g) ?_
 refine .zn<|.bB<|.exit<|aP<|aV<|aR ?_
 first
  |exact ax O ⟨c2,a9,λx d e=>by
    have W:(!ap c x7 p)=false:=h5
    rw[b5]at e;cases e
    simpa using W⟩ kE.c.c.c.c.c rH
  |exact ax O ⟨c2,a9,λx d e=>by have:=aY g;omega⟩ kE.c.c.c.c.c rH
 intro x d
 obtain⟨H,d3⟩:∃H,H=x:=⟨_,rfl⟩
 rw[<-d3]at d⊢
 clear d3 x
 obtain⟨h0,b9,f5⟩:=d
 have e3:=b9.i0
 have g4:=b9.ij
 refine aD<|.seq<|.sr<|.mo rfl<|.mo rfl<|.q .gtr<|.zn ?_
 refine .cond rfl (λh6=>?_) λh6=>?_
 refine .exit (aP (dn (aV (aR ?_))))
 exact ax (C,H,ys,T1) ⟨F,a5,b9,by have:=bo h6;simp only;omega⟩ kE.c.c.c.c.c rH
 have d2:C<=H:=by have:=aY h6;omega
 obtain⟨x8,a0⟩:∃x,ys[C]? =some x:=⟨_,aC (by omega)⟩
 obtain⟨y8,a1⟩:∃x,ys[H]? =some x:=⟨_,aC (by omega)⟩
 have f1:=b9.sw d2 (by omega) a0 a1 (f4 x8 (by omega) a0) (f5 y8 d2 a1)
 refine .kn<|.seq<|.bF [13,15] mixed ?_
 refine .tO 0 rfl .move<|.tO 1 rfl .move<|.tK 2 rfl .move<|.tK 3 rfl .move<|.tO 4 rfl .move<|.tO 5 rfl .move ?_
 refine RA.au 6 rfl (H) F a1 rfl rfl rfl (by kernel_rfl) (λi8=>?_)
 refine .tO 7 rfl (.aE rfl)<|.tO 8 rfl .move<|.tO 9 rfl .move ?_
 refine RA.au 10 rfl (C) F a0 rfl rfl rfl (by kernel_rfl) (λj0=>?_)
 refine .tO 11 rfl (.aE rfl) ?_
 refine RA.au 12 rfl (C) F a0 rfl rfl rfl (by kernel_rfl) (λj1=>?_)
 refine .sT 13 rfl ?_
 refine .bt (C) F a0 y8 (λb7 J=>?_) (F.one _ (aF a1))
 refine .nil (Next.mod rfl ?_)
 refine RA.au 14 rfl (H) F a1 rfl rfl rfl (by kernel_rfl) (λj4=>?_)
 refine .sT 15 rfl ?_
 obtain⟨zz,K⟩:∃u,(ys.set (C) y8)[H]? =some u:=⟨_,aC (by rw[adh];exact(adg.1 a1).1)⟩
 refine .bt (H) J K x8 (λV E=>?_) (F.one _ (aF a0))
 rw[<-bS a0 a1]at E
 refine .nil (Next.mod rfl ?_)
 refine RA.nil (by kernel_rfl) ?_
 refine aD<|.sr<|.mo rfl ?_
 refine .ia (C+1) .add ?_
 refine .az rfl<|.region<|.mo rfl ?_
 refine .ia (H-1) .sub ?_
 refine .ag rfl<|.nil<|bi ?_
 ·exact aN (C+1,H-1,bn ys C H,V) ⟨E,a5.step (by omega) (by omega) (by omega) (by omega) (by omega),f1.2⟩ (by simp only;omega) kE.c.c.c.c.c rH
 intro x d
 obtain⟨i9,j9,zs,T9⟩:=x
 obtain⟨Q,c4,a3,c9⟩:=d
 simp only at Q c4 a3 c9⊢
 have h9:=c4.length
 have g5:=a3.ij
 have g1:=a3.i0
 have g8:=a3.jb
 have b1:=a3.at_
 obtain⟨y9,b6⟩:∃x,zs[j9]? =some x:=⟨_,aC (by omega)⟩
 refine aD<|.seq<|.bF [13,15] mixed ?_
 refine .tO 0 rfl .move<|.tO 1 rfl .move<|.tK 2 rfl .move<|.tK 3 rfl .move<|.tO 4 rfl .move<|.tO 5 rfl .move ?_
 refine RA.au 6 rfl (a) Q b1 rfl rfl rfl (by kernel_rfl) (λj5=>?_)
 refine .tO 7 rfl (.aE rfl)<|.tO 8 rfl .move<|.tO 9 rfl .move ?_
 refine RA.au 10 rfl (j9) Q b6 rfl rfl rfl (by kernel_rfl) (λj6=>?_)
 refine .tO 11 rfl (.aE rfl) ?_
 refine RA.au 12 rfl (j9) Q b6 rfl rfl rfl (by kernel_rfl) (λj7=>?_)
 refine .sT 13 rfl ?_
 refine .bt (j9) Q b6 p (λb7 J=>?_) (Q.one _ (aF b1))
 refine .nil (Next.mod rfl ?_)
 refine RA.au 14 rfl (a) Q b1 rfl rfl rfl (by kernel_rfl) (λj8=>?_)
 refine .sT 15 rfl ?_
 obtain⟨zz,K⟩:∃u,(zs.set (j9) p)[a]? =some u:=⟨_,aC (by rw[adh];exact(adg.1 b1).1)⟩
 refine .bt (a) J K y9 (λV E=>?_) (Q.one _ (aF b6))
 rw[<-bS b6 b1]at E
 refine .nil (Next.mod rfl ?_)
 refine RA.nil (by kernel_rfl) ?_
 refine aD<|.sr<|.mo rfl<|.ag rfl<|.az rfl ?_
 refine .ret (aZ _ (.two (.tmp rfl) (.tmp rfl)) rH ?_)
 ·exact⟨_,rfl,bn zs j9 a,j9,false,rfl,E,c4.step (by omega) (by omega) (by omega) (by omega) (by omega),a3.fin c9 (by omega)⟩
end
end SRW
namespace SRW
section
variable{c:aO->aO->Int}{ok:aO->Prop}{f:FuncId}{caps:List Value} [e:aI prog f]
def fD(c:aO->aO->Int)(ok:aO->Prop)(f:FuncId)(caps:List Value)(n:Nat):Prop:=∀(v:Value) (xs:List aO) (T:ay) (a b lim:Nat) (R:aA),OS 152 9 aO.enc v xs T->a<=b->b<=xs.length->xs.length<=1000000000->lim<=1000000000->cf prog f caps R (λt:aO=>Value.agg t.enc.toArray) c ok->(∀x∈xs,ok x)->LB (ap c) xs a b->b-a<n->
  Spec prog 238 [v,.int .i64 a,.int .i64 b,.int .i64 lim,.func (.func f) #[] caps.toArray] R [T] λu H'=>∃T',H'=[T']/\u=.tuple #[]/\∃ys,OS 152 9 aO.enc v ys T'/\RP a b xs ys/\SR (ap c) ys a b
theorem iS(n:Nat)(ih:fD c ok f caps n)(D:SO (ap c))(v:Value)(xs:List aO)(T:ay)(H F c7:Nat)(R:aA)(h:OS 152 9 aO.enc v xs T)(d6:H<=F)(hb:F<=xs.length)(hl:xs.length<=1000000000)(e0:c7<=1000000000)(O:cf prog f caps R (λt:aO=>Value.agg t.enc.toArray) c ok)(e2:∀x∈xs,ok x)(d8:LB (ap c) xs H F)(hn:F-H<n+1):
  Spec prog 238 [v,.int .i64 H,.int .i64 F,.int .i64 c7,.func (.func f) #[] caps.toArray] R [T] λu H'=>∃T',H'=[T']/\u=.tuple #[]/\∃ys,OS 152 9 aO.enc v ys T'/\RP H F xs ys/\SR (ap c) ys H F:=by
 have iv:=h.aL
 refine Spec.body func238 rfl results238 ntmps238 rfl ?_
 refine .sr<|.ag rfl<|.z<|.az rfl<|.block ?_
 refine .loop (X:=Nat×Nat×Nat×Bool×Bool×List aO×ay) (λy=>(H<=y.1/\y.1<=y.2.1/\y.2.1<=F/\y.2.2.1<=1000000000)/\OS 152 9 aO.enc v y.2.2.2.2.2.1 y.2.2.2.2.2.2/\RP H F xs y.2.2.2.2.2.1/\OX (ap c) y.2.2.2.2.2.1 H F y.1 y.2.1) (λy=>[(0,v),(1,iN y.1),(2,iN y.2.1),(3,iN y.2.2.1),(4,.func (.func f) #[] caps.toArray),(10,.bool y.2.2.2.1),(11,.bool y.2.2.2.2.1)]) (λy=>[y.2.2.2.2.2.2]) (λy=>y.2.1-y.1) (H,F,c7,true,true,xs,T) ⟨⟨adf _,d6,adf _,e0⟩,h,.refl _,.start⟩ kE.c.c.c.c.c.c.c rH ?_
 rintro⟨a,b,l,wb,wp,ys,T1⟩ ⟨⟨e,c1,g,d7⟩,b1,U,Z⟩
 simp only at e c1 g d7 b1 U Z⊢
 have f0:=U.length
 have b8:∀x∈ys,ok x:=λx W=>e2 x (U.perm.mem_iff.1 W)
 have d1:=Z.lb (d8.rp U) e g
 refine .block<|.sr<|.mo rfl<|.mo rfl ?_
 refine .ia (b-a) .sub ?_
 refine .ag rfl<|.zs<|.sr<|.mo rfl<|.q .leq<|.zn ?_
 refine .cond rfl (λh1=>?_) λh1=>?_
 refine .sr<|.mo rfl<|.mo rfl<|.mo rfl<|.mo rfl ?_
 refine .bb (iJ v ys T1 a b _ b1 c1 (by omega) (by omega) O b8 D) (λu T2 k=>?_)
 obtain⟨rfl,N,I,B,c0⟩:=k
 refine .zn ?_
 refine .ret (aT (bg (cc (bg (aZ _ .none rH ?_)))))
 ·first
   |exact⟨_,rfl,rfl,N,I,U.trans (B.mono e g (by omega)),(Z.rp B e g).cZ c0⟩
   |exact⟨_,rfl,rfl,ms,a2,U.trans ((C.trans Y).mono e g (by omega)),(Z.rp (C.trans Y) e g).cZ (c4 (by assumption))⟩
 have f4:12<b-a:=by have:=aY h1;omega
 refine .kn<|.seq<|.sr<|.mo rfl<|.q .cA<|.zn ?_
 refine .cond rfl (λh2=>?_) λh2=>?_
 refine .sr<|.mo rfl<|.mo rfl<|.mo rfl<|.mo rfl ?_
 refine .bb (iI v ys T1 a b _ b1 c1 (by omega) (by omega) O b8 D) (λu T2 k=>?_)
 obtain⟨rfl,N,I,B,c0⟩:=k
 refine .zn ?_
 refine .ret (aT (bg (cc (bg (aZ _ .none rH ?_)))))
 ·first
   |exact⟨_,rfl,rfl,N,I,U.trans (B.mono e g (by omega)),(Z.rp B e g).cZ c0⟩
   |exact⟨_,rfl,rfl,ms,a2,U.trans ((C.trans Y).mono e g (by omega)),(Z.rp (C.trans Y) e g).cZ (c4 (by assumption))⟩
 have e9:0<l:=by
  have e8:¬((l:Int)=0):=by simpa using h2
  omega
 refine .kn<|.seq ?_
 refine bp.cut (X:=Nat×List aO×ay) (λz=>z.1<=1000000000/\OS 152 9 aO.enc v z.2.1 z.2.2/\RP a b ys z.2.1) (λz=>[(0,v),(1,iN a),(2,iN b),(3,iN z.1),(4,.func (.func f) #[] caps.toArray),(10,.bool wb),(11,.bool wp),(12,.int .i64 ((b-a:Nat):Int))]) (λz=>[z.2.2]) ?_ ?_
 refine .sr<|.mo rfl<|.q .not<|.zn ?_
 refine .cond rfl (λh3=>?_) λh3=>?_
 refine .sr<|.mo rfl<|.mo rfl<|.mo rfl<|.mo rfl ?_
 refine .bb (iF v ys T1 a b _ (.func (.func f) #[] caps.toArray) inferInstance b1 c1 (by omega) (by omega)) (λu T2 k=>?_)
 obtain⟨rfl,N,I,B⟩:=k
 refine .zn<|.region<|.mo rfl ?_
 refine .ia (l-1) .sub ?_
 refine .ag rfl<|.nil ?_
 ·first
   |exact ax (l-1,N,T2) ⟨by simp only;omega,I,B⟩ kE.c.c.c.c.c.c.c.c rH
   |exact ax (l,ys,T1) ⟨by simp only;omega,b1,.refl _⟩ kE.c.c.c.c.c.c.c.c rH
 refine .skip ?_
 ·first
   |exact ax (l-1,N,T2) ⟨by simp only;omega,I,B⟩ kE.c.c.c.c.c.c.c.c rH
   |exact ax (l,ys,T1) ⟨by simp only;omega,b1,.refl _⟩ kE.c.c.c.c.c.c.c.c rH
 intro y hy
 obtain⟨r,N,T2⟩:=y
 obtain⟨s,I,B⟩:=hy
 simp only at s I B⊢
 have f1:=B.length
 have e3:∀x∈N,ok x:=λx W=>b8 x (B.perm.mem_iff.1 W)
 refine aD<|.sr<|.mo rfl<|.mo rfl<|.mo rfl<|.mo rfl ?_
 refine .bc (choose_spec v N a b _ (I.rs λp hp=>.inr (by simpa using hp)) (by omega) (by omega) (by omega) (O.mono λb o hb=>.inl hb) e3) (λu k=>?_)
 obtain⟨pv,d0,rfl,d2,d3⟩:=k
 refine .mo rfl<|.q .extract<|.q .extract<|.ag rfl<|.ag rfl<|.zs ?_
 refine bp.cut (X:=Nat×Int×List aO×ay) (λz=>(a<=z.1/\z.1<b)/\OS 152 9 aO.enc v z.2.2.1 z.2.2.2/\RP a b ys z.2.2.1) (λz=>[(0,v),(1,iN a),(2,iN b),(3,iN r),(4,.func (.func f) #[] caps.toArray),(10,.bool wb),(11,.bool wp),(12,.int .i64 ((b-a:Nat):Int)),(13,iN z.1),(14,.int .i64 z.2.1)]) (λz=>[z.2.2.2]) ?_ ?_
 refine .sr<|.mo rfl<|.q .cA<|.zn ?_
 refine .cond rfl (λh4=>?_) λh4=>?_
 refine .sr<|.mo rfl<|.mo rfl<|.mo rfl<|.mo rfl ?_
 refine .bb (iT v N T2 a b _ (.func (.func f) #[] caps.toArray) inferInstance I (by omega) (by omega) (by omega)) (λu T3 k=>?_)
 obtain⟨rfl,ws,c8,c9⟩:=k
 refine .z<|.mo rfl ?_
 refine .ia (b-1) .sub ?_
 refine .mo rfl<|.mo rfl ?_
 refine .ia (pv-a) .sub ?_
 refine .ia ((b-1)-(pv-a)) .sub ?_
 refine .az rfl<|.region<|.ag rfl<|.nil ?_
 ·first
   |exact ax ((b-1)-(pv-a),1,ws,T3) ⟨by simp only;omega,c8,B.trans c9⟩ kE.c.c.c.c.c.c.c.c.c.c rH
   |exact ax (pv,d0,N,T2) ⟨⟨d2,d3⟩,I,B⟩ kE.c.c.c.c.c.c.c.c.c.c rH
 refine .skip ?_
 ·first
   |exact ax ((b-1)-(pv-a),1,ws,T3) ⟨by simp only;omega,c8,B.trans c9⟩ kE.c.c.c.c.c.c.c.c.c.c rH
   |exact ax (pv,d0,N,T2) ⟨⟨d2,d3⟩,I,B⟩ kE.c.c.c.c.c.c.c.c.c.c rH
 intro y hy
 obtain⟨q,f5,us,T4⟩:=y
 obtain⟨⟨c2,c3⟩,b2,C⟩:=hy
 simp only at c2 c3 b2 C⊢
 have f2:=C.length
 have e4:∀x∈us,ok x:=λx W=>b8 x (C.perm.mem_iff.1 W)
 refine aD<|.seq ?_
 refine bp.cut (X:=List aO×ay) (λz=>OS 152 9 aO.enc v z.1 z.2/\RP a b ys z.1) (λz=>[(0,v),(1,iN a),(2,iN b),(3,iN r),(4,.func (.func f) #[] caps.toArray),(10,.bool wb),(11,.bool wp),(12,.int .i64 ((b-a:Nat):Int)),(13,iN q)]) (λz=>[z.2]) ?_ ?_
 refine .sr<|.mo rfl<|.mo rfl ?_
 refine .split (t:=69) rfl (λb5=>?_) (λb5=>?_)
 refine .gT b5<|.mo rfl<|.q (.bu b5) ?_
 refine .mo rfl ?_
 refine .split (t:=72) rfl (λa1=>?_) (λa1=>?_)
 refine .gT a1<|.mo rfl<|.gT a1<|.q .cA<|.q (.bu a1) ?_
 refine .zn ?_
 refine .cond rfl (λh5=>?_) λh5=>?_
 refine .sr<|.mo rfl<|.mo rfl<|.mo rfl<|.mo rfl ?_
 refine .bb (iQ v us T4 a b _ b2 (by omega) (by omega) (by omega) O e4 D (d1.rp C)) (λu T5 k=>?_)
 obtain⟨ms,mb,rfl,a2,Y,c4⟩:=k
 refine .zn ?_
 refine .cond rfl (λh6=>?_) λh6=>?_
 refine .ret (kZ (aT (bg (cc (bg (aZ _ .none rH ?_))))))
 ·first
   |exact⟨_,rfl,rfl,N,I,U.trans (B.mono e g (by omega)),(Z.rp B e g).cZ c0⟩
   |exact⟨_,rfl,rfl,ms,a2,U.trans ((C.trans Y).mono e g (by omega)),(Z.rp (C.trans Y) e g).cZ (c4 (by assumption))⟩
 refine .skip ?_
 ·first
   |exact ax (ms,T5) ⟨a2,C.trans Y⟩ kE.c.c.c.c.c.c.c.c.c rH
   |exact ax (us,T4) ⟨b2,C⟩ kE.c.c.c.c.c.c.c.c.c rH
 refine .skip ?_
 ·first
   |exact ax (ms,T5) ⟨a2,C.trans Y⟩ kE.c.c.c.c.c.c.c.c.c rH
   |exact ax (us,T4) ⟨b2,C⟩ kE.c.c.c.c.c.c.c.c.c rH
 refine .gF a1<|.gF a1<|.q (.bq a1) ?_
 refine .zn<|.bB<|.skip ?_
 ·first
   |exact ax (ms,T5) ⟨a2,C.trans Y⟩ kE.c.c.c.c.c.c.c.c.c rH
   |exact ax (us,T4) ⟨b2,C⟩ kE.c.c.c.c.c.c.c.c.c rH
 refine .gF b5<|.q (.bq b5) ?_
 refine .mo rfl<|.gX<|.gX<|.q .dv<|.zn<|.bB<|.skip ?_
 ·first
   |exact ax (ms,T5) ⟨a2,C.trans Y⟩ kE.c.c.c.c.c.c.c.c.c rH
   |exact ax (us,T4) ⟨b2,C⟩ kE.c.c.c.c.c.c.c.c.c rH
 intro y hy
 obtain⟨a9,T6⟩:=y
 obtain⟨b3,b4⟩:=hy
 simp only at b3 b4⊢
 have f3:=b4.length
 have a8:∀x∈a9,ok x:=λx W=>b8 x (b4.perm.mem_iff.1 W)
 have a3:RP H F xs a9:=U.trans (b4.mono e g (by omega))
 have a5:=Z.rp b4 e g
 have c5:=d1.rp b4
 obtain⟨p,hp⟩:∃x,a9[q]? =some x:=⟨_,aC (by omega)⟩
 have e5:=a8 p (aF hp)
 refine aD<|.seq<|.seq ?_
 refine .bQ 13 mixed (by kernel_rfl) ?_
 conv=>arg 6;dsimp only[List.take]
 refine .mo rfl<|.q .gtr<|.mo rfl ?_
 refine .split (t:=83) rfl (λi=>?_) (λi=>?_)
 have d5:0<a:=by have:=bo i;omega
 obtain⟨w,hw⟩:∃x,a9[a-1]? =some x:=⟨_,aC (by omega)⟩
 have e6:=a8 w (aF hw)
 refine .gT i<|.mo rfl<|.gT i<|.mo rfl<|.gT i<|.mo rfl<|.gT i ?_
 refine .ia (a-1) .sub ?_
 refine .gT i ?_
 refine .au (a-1) b3 hw (λf6=>?_)
 refine .gT i<|.q (.aE rfl)<|.gT i<|.mo rfl<|.gT i<|.mo rfl<|.gT i ?_
 refine .au q b3 hp (λf7=>?_)
 refine .gT i<|.q (.aE rfl)<|.nil<|.gT i ?_
 refine .cj (first:=[]) (captured:=caps) (vs:=[(λt:aO=>Value.agg t.enc.toArray) w,(λt:aO=>Value.agg t.enc.toArray) p]) (O w p e6 e5 _ (λb o hb=>.inl hb)) (λu k=>?_)
 subst k
 refine .gT i<|.q .lss<|.gT i<|.q .not<|.q (.bu i) ?_
 refine .zn ?_
 refine .cond rfl (λh7=>?_) λh7=>?_
 have e1:ap c w p=false:=by
  have d4:(!ap c w p)=true:=h7
  simpa using d4
 refine .sr<|.mo rfl<|.mo rfl<|.mo rfl<|.mo rfl<|.mo rfl ?_
 refine .bb (iP v a9 T6 a b q p _ b3 (by omega) ⟨c2,c3⟩ hp (by omega) (by omega) O a8 D (c5.lc D d5 hw e1)) (λu Q k=>?_)
 obtain⟨E,j,rfl,S,m,A⟩:=k
 have a7:=A.lo
 have a6:=A.hi
 refine .ag rfl<|.z<|.mo rfl<|.az rfl<|.exit<|aP<|aR ?_
 ·first
   |exact aN (j+1,b,r,_,_,M,G) ⟨⟨by simp only;omega,by simp only;omega,by simp only;omega,s⟩,J,K,L⟩ (by simp only;omega) (((((((kE.d rfl).d rfl).d rfl).d rfl).d rfl).d rfl).d rfl) rH
   |exact aN (a,j,r,_,_,M,G) ⟨⟨e,a7,by simp only;omega,s⟩,J,K,L⟩ (by simp only;omega) (((((((kE.d rfl).d rfl).d rfl).d rfl).d rfl).d rfl).d rfl) rH
   |exact aN (j,b,r,_,_,E,Q) ⟨⟨by simp only;omega,a6,g,s⟩,S,a3.trans (m.mono e g (by omega)),(a5.rp m e g).eqs D A⟩ (by simp only;omega) (((((((kE.d rfl).d rfl).d rfl).d rfl).d rfl).d rfl).d rfl) rH
 refine .kn<|.sr<|.mo rfl<|.mo rfl<|.mo rfl<|.mo rfl<|.mo rfl ?_
 refine .bb (fJ v a9 T6 a b q p _ b3 (by omega) ⟨c2,c3⟩ hp (by omega) (by omega) O a8 D) (λu Q k=>?_)
 obtain⟨E,j,e7,rfl,S,m,A⟩:=k
 have a7:=A.lo
 have a6:=A.hi
 have d9:=m.length
 have b9:∀x∈E,ok x:=λx W=>a8 x (m.perm.mem_iff.1 W)
 have b7:=a5.rp m e g
 have b6:RP H F xs E:=a3.trans (m.mono e g (by omega))
 have c6:=c5.rp m
 refine .mo rfl<|.q .extract<|.q .extract<|.ag rfl<|.ag rfl<|.z<|.mo rfl<|.ag rfl<|.z<|.mo rfl<|.mo rfl ?_
 refine .ia (j-a) .sub ?_
 refine .mo rfl<|.mo rfl ?_
 refine .ia (b-j) .sub ?_
 refine .ag rfl<|.ag rfl<|.z<|.mo rfl ?_
 refine .q (.i64 (((b-a)/8:Nat):Int) .quo ⟨by rw[adm (by omega)];omega,by omega,by omega⟩) ?_
 refine .ag rfl<|.z<|.mo rfl<|.mo rfl<|.q .lss<|.zn ?_
 refine .cond rfl (λh8=>?_) λh8=>?_
 refine .sr<|.mo rfl<|.mo rfl<|.q .geq<|.ag rfl<|.z<|.mo rfl<|.mo rfl<|.mo rfl<|.mo rfl<|.mo rfl ?_
 refine .bb (ih v E Q a j r _ S (by omega) (by omega) (by omega) s O b9 (c6.less (by omega)) (by omega)) (λu G k=>?_)
 obtain⟨rfl,M,J,V,a4⟩:=k
 have L:=b7.left D A V a4 e g (by omega)
 have K:=b6.trans (V.mono e (by omega) (by omega))
 refine .zn<|.region<|.mo rfl ?_
 refine .ia (j+1) .add ?_
 refine .ag rfl<|.nil<|bi ?_
 ·first
   |exact aN (j+1,b,r,_,_,M,G) ⟨⟨by simp only;omega,by simp only;omega,by simp only;omega,s⟩,J,K,L⟩ (by simp only;omega) (((((((kE.d rfl).d rfl).d rfl).d rfl).d rfl).d rfl).d rfl) rH
   |exact aN (a,j,r,_,_,M,G) ⟨⟨e,a7,by simp only;omega,s⟩,J,K,L⟩ (by simp only;omega) (((((((kE.d rfl).d rfl).d rfl).d rfl).d rfl).d rfl).d rfl) rH
   |exact aN (j,b,r,_,_,E,Q) ⟨⟨by simp only;omega,a6,g,s⟩,S,a3.trans (m.mono e g (by omega)),(a5.rp m e g).eqs D A⟩ (by simp only;omega) (((((((kE.d rfl).d rfl).d rfl).d rfl).d rfl).d rfl).d rfl) rH
 refine .sr<|.mo rfl<|.mo rfl<|.q .geq<|.ag rfl<|.z<|.mo rfl<|.mo rfl ?_
 refine .ia (j+1) .add ?_
 refine .mo rfl<|.mo rfl<|.mo rfl ?_
 refine .bb (ih v E Q (j+1) b r _ S (by omega) (by omega) (by omega) s O b9 A.lb (by omega)) (λu G k=>?_)
 obtain⟨rfl,M,J,V,a4⟩:=k
 have L:=b7.right D A V a4 e g (by omega)
 have K:=b6.trans (V.mono (by omega) g (by omega))
 refine .zn<|.region<|.mo rfl<|.ag rfl<|.nil<|bi ?_
 ·first
   |exact aN (j+1,b,r,_,_,M,G) ⟨⟨by simp only;omega,by simp only;omega,by simp only;omega,s⟩,J,K,L⟩ (by simp only;omega) (((((((kE.d rfl).d rfl).d rfl).d rfl).d rfl).d rfl).d rfl) rH
   |exact aN (a,j,r,_,_,M,G) ⟨⟨e,a7,by simp only;omega,s⟩,J,K,L⟩ (by simp only;omega) (((((((kE.d rfl).d rfl).d rfl).d rfl).d rfl).d rfl).d rfl) rH
   |exact aN (j,b,r,_,_,E,Q) ⟨⟨by simp only;omega,a6,g,s⟩,S,a3.trans (m.mono e g (by omega)),(a5.rp m e g).eqs D A⟩ (by simp only;omega) (((((((kE.d rfl).d rfl).d rfl).d rfl).d rfl).d rfl).d rfl) rH
 refine .gF i<|.gF i<|.gF i<|.gF i<|.gF i<|.gF i<|.gF i<|.gF i<|.gF i<|.gF i<|.nil<|.gF i<|.gF i<|.gF i<|.q (.bq i) ?_
 refine .zn<|.bB<|.kn<|.sr<|.mo rfl<|.mo rfl<|.mo rfl<|.mo rfl<|.mo rfl ?_
 refine .bb (fJ v a9 T6 a b q p _ b3 (by omega) ⟨c2,c3⟩ hp (by omega) (by omega) O a8 D) (λu Q k=>?_)
 obtain⟨E,j,e7,rfl,S,m,A⟩:=k
 have a7:=A.lo
 have a6:=A.hi
 have d9:=m.length
 have b9:∀x∈E,ok x:=λx W=>a8 x (m.perm.mem_iff.1 W)
 have b7:=a5.rp m e g
 have b6:RP H F xs E:=a3.trans (m.mono e g (by omega))
 have c6:=c5.rp m
 refine .mo rfl<|.q .extract<|.q .extract<|.ag rfl<|.ag rfl<|.z<|.mo rfl<|.ag rfl<|.z<|.mo rfl<|.mo rfl ?_
 refine .ia (j-a) .sub ?_
 refine .mo rfl<|.mo rfl ?_
 refine .ia (b-j) .sub ?_
 refine .ag rfl<|.ag rfl<|.z<|.mo rfl ?_
 refine .q (.i64 (((b-a)/8:Nat):Int) .quo ⟨by rw[adm (by omega)];omega,by omega,by omega⟩) ?_
 refine .ag rfl<|.z<|.mo rfl<|.mo rfl<|.q .lss<|.zn ?_
 refine .cond rfl (λh8=>?_) λh8=>?_
 refine .sr<|.mo rfl<|.mo rfl<|.q .geq<|.ag rfl<|.z<|.mo rfl<|.mo rfl<|.mo rfl<|.mo rfl<|.mo rfl ?_
 refine .bb (ih v E Q a j r _ S (by omega) (by omega) (by omega) s O b9 (c6.less (by omega)) (by omega)) (λu G k=>?_)
 obtain⟨rfl,M,J,V,a4⟩:=k
 have L:=b7.left D A V a4 e g (by omega)
 have K:=b6.trans (V.mono e (by omega) (by omega))
 refine .zn<|.region<|.mo rfl ?_
 refine .ia (j+1) .add ?_
 refine .ag rfl<|.nil<|bi ?_
 ·first
   |exact aN (j+1,b,r,_,_,M,G) ⟨⟨by simp only;omega,by simp only;omega,by simp only;omega,s⟩,J,K,L⟩ (by simp only;omega) (((((((kE.d rfl).d rfl).d rfl).d rfl).d rfl).d rfl).d rfl) rH
   |exact aN (a,j,r,_,_,M,G) ⟨⟨e,a7,by simp only;omega,s⟩,J,K,L⟩ (by simp only;omega) (((((((kE.d rfl).d rfl).d rfl).d rfl).d rfl).d rfl).d rfl) rH
   |exact aN (j,b,r,_,_,E,Q) ⟨⟨by simp only;omega,a6,g,s⟩,S,a3.trans (m.mono e g (by omega)),(a5.rp m e g).eqs D A⟩ (by simp only;omega) (((((((kE.d rfl).d rfl).d rfl).d rfl).d rfl).d rfl).d rfl) rH
 refine .sr<|.mo rfl<|.mo rfl<|.q .geq<|.ag rfl<|.z<|.mo rfl<|.mo rfl ?_
 refine .ia (j+1) .add ?_
 refine .mo rfl<|.mo rfl<|.mo rfl ?_
 refine .bb (ih v E Q (j+1) b r _ S (by omega) (by omega) (by omega) s O b9 A.lb (by omega)) (λu G k=>?_)
 obtain⟨rfl,M,J,V,a4⟩:=k
 have L:=b7.right D A V a4 e g (by omega)
 have K:=b6.trans (V.mono (by omega) g (by omega))
 refine .zn<|.region<|.mo rfl<|.ag rfl<|.nil<|bi ?_
 ·first
   |exact aN (j+1,b,r,_,_,M,G) ⟨⟨by simp only;omega,by simp only;omega,by simp only;omega,s⟩,J,K,L⟩ (by simp only;omega) (((((((kE.d rfl).d rfl).d rfl).d rfl).d rfl).d rfl).d rfl) rH
   |exact aN (a,j,r,_,_,M,G) ⟨⟨e,a7,by simp only;omega,s⟩,J,K,L⟩ (by simp only;omega) (((((((kE.d rfl).d rfl).d rfl).d rfl).d rfl).d rfl).d rfl) rH
   |exact aN (j,b,r,_,_,E,Q) ⟨⟨by simp only;omega,a6,g,s⟩,S,a3.trans (m.mono e g (by omega)),(a5.rp m e g).eqs D A⟩ (by simp only;omega) (((((((kE.d rfl).d rfl).d rfl).d rfl).d rfl).d rfl).d rfl) rH
theorem iR(q:SO (ap c))(n:Nat):fD c ok f caps n:=by
 induction n with
 |zero=>exact λv e T a b d R _ _ _ _ _ _ _ _ r=>by omega
 |succ n ih=>exact λv e T a b d R g h i j k l m o p=>iS n ih q v e T a b d R g h i j k l m o p
end
end SRW
namespace SRW
section
variable{c:aO->aO->Int}{ok:aO->Prop}{f:FuncId}{caps:List Value} [e:aI prog f]
theorem iW(v:Value)(xs:List aO)(T:ay)(R:aA)(h:OS 152 9 aO.enc v xs T)(k:xs.length<=1000000000)(j:cf prog f caps R (λt:aO=>Value.agg t.enc.toArray) c ok)(l:∀x∈xs,ok x)(m:SO (ap c)):
  Spec prog 162 [v,.func (.func f) #[] caps.toArray] R [T] λu H'=>∃T',H'=[T']/\u=.tuple #[]/\∃ys,OS 152 9 aO.enc v ys T'/\ys.Perm xs/\SR (ap c) ys 0 ys.length:=by
 have r:=h.aL
 have i:Lib.bitLen xs.length<=1000000000:=by
  have p:=bitLen_le 64 xs.length
  have o:Lib.bitLen xs.length=Lib.bitLenAux 64 xs.length:=rfl
  omega
 refine Spec.body func162 rfl results162 ntmps162 rfl ?_
 refine .sr<|.mo rfl<|.q (.fV h) ?_
 refine .az rfl<|.region<|.mo rfl<|.mo rfl<|.mo rfl ?_
 refine .q (bd.cast (v':=.int .u64 ((xs.length:Nat):Int)) .ez (by rw[gr (by omega) (by omega)])) ?_
 refine .bc (kj xs.length (by omega) _) (λu a=>?_)
 subst a
 refine .mo rfl ?_
 refine .bb (iR m (xs.length+1) v xs T 0 xs.length (Lib.bitLen xs.length) _ h (Nat.zero_le _) (adf _) k i j l (λd=>absurd d (by omega)) (by omega)) (λu n a=>?_)
 obtain⟨rfl,ys,e,b,g⟩:=a
 refine .nil<|ct _ .none rH ?_
 ·exact⟨_,rfl,rfl,ys,e,b.perm,b.length▸g⟩
end
end SRW
theorem GO(a b:aO)(R:aA):Spec prog 163 [.agg a.enc.toArray,.agg b.enc.toArray] R [] λv H'=>v=.int .i64 (ll a b)/\H'=[]:=by
 refine Spec.body func163 rfl results163 ntmps163 rfl ?_
 refine .sr ?_
 refine .cJ rfl (λe=>?_)
 refine .cJ rfl (λf=>?_)
 refine .ag rfl<|.zs<|.bF [] mixed ?_
 refine .tO 0 rfl (.fieldAddr rfl) ?_
 refine .tO 1 rfl (.loadT rfl) ?_
 refine .tO 2 rfl (.fieldAddr rfl) ?_
 refine .tO 3 rfl (.loadT rfl) ?_
 refine .tO 5 rfl (.fieldAddr rfl)<|.tO 6 rfl (.bO rfl)<|.tO 7 rfl (.fieldAddr rfl)<|.tO 8 rfl (.bO rfl) ?_
 refine .sT 4 rfl ?_
 refine .bc (FG a.t b.t _) (λv c=>?_)
 subst c
 refine .nil (Next.sub ?_)
 refine .sT 9 rfl ?_
 refine .bc (ul a.fr b.fr _) (λv c=>?_)
 subst c
 refine .nil (Next.sub ?_)
 refine .sT 10 rfl ?_
 refine .mJ [_,_] (λd=>?_)
 refine .nil (Next.sub ?_)
 refine .sT 11 rfl ?_
 refine .bc (nb _ [fj a.t b.t,eF a.fr b.fr] _ (RS.lits rfl (by simp[jw]) (by simp[jw,aL]))) (λv c=>?_)
 subst c
 refine .nil (Next.sub ?_)
 refine .tO 12 rfl .assign ?_
 refine RA.nil (by kernel_rfl) ?_
 refine aD ?_
 refine .ret (br rfl ?_)
 ·exact⟨rfl,rfl⟩
theorem tq(R:aA):cf prog 163 [] R (λx:aO=>Value.agg x.enc.toArray) ll (λ_=>True):=λx y _ _ a _=>GO x y a
theorem F9{R:aA}{g:Nat}{S:dr}{ps:List RB}{vf vr:Value}{m:List (dV×(Value×ay))}{Y:List (Sub×(Value×ay))}(h:SV R g S ps vf vr m Y)(N:S.rows.length<=4096):
  Spec prog 89 [pT g] R [] λu H'=>∃T,H'=[T]/\∃ys,OS 152 9 aO.enc u ys T/\ys.Perm S.rows/\nq ys:=by
 have pc:=h.pc
 have b8:=h.of
 have b9:=h.or
 have U:ps.length<=4096:=by rw[<-h.eq,List.length_map]at N;exact N
 refine Spec.ep (H':=[[],[]]) (by simp) ?_
 refine Spec.body func89 rfl results89 ntmps89 rfl ?_
 refine .sr<|.ag rfl<|.zs<|.sr<|.mo rfl ?_
 refine .bc (h.mono λb o hb=>.inl hb).ok (λv hv=>?_)
 subst hv
 refine .q .not<|.zn<|.bB<|.kn<|.sr<|.ag rfl<|.zs<|.sr<|.mo rfl<|.nc rfl<|.fa rfl<|.lo rfl ?_
 refine .range h.mf (λ_ _=>.inl) rfl (λB a0 a4=>?_)
 refine .zn<|.block ?_
 refine .loop (X:=List aO×List dV×Value×ay×ay) (λy=>y.2.1.Nodup/\y.1.Perm ((ps.filter λp=>decide (p.2.t.dT∉y.2.1)).map (·.2))/\OS 152 9 aO.enc y.2.2.1 y.1 y.2.2.2.1/\It R (λk:dV=>.agg k.enc.toArray) (λp:Value×ay=>p.1) vf m B y.2.1 y.2.2.2.2) (λy=>[(3,y.2.2.1),(15,B)]) (λy=>[y.2.2.2.1,y.2.2.2.2]) (λy=>y.2.1.length) ([],m.map (·.1),sZ,[],a0) ⟨h.nf,by
  rw[List.filter_eq_nil_iff.2 λp Q=>by simp[h.af p Q]];exact .refl _,OS.nil,a4⟩ kE.c.c ((cu [1,0])) ?_
 rintro⟨l,D,W,F,Ti⟩ ⟨w,i,e,K⟩
 simp only at w i e K⊢
 have io:=e.aL
 have b6:l.length<=4096:=by
  rw[i.length_eq,List.length_map]
  exact Nat.le_trans (List.length_filter_le _ _) U
 refine .sr ?_
 refine .l9 K (λ_ _=>.inl) rfl (λb rest E hf ht=>?_)
 refine .q .extract<|.zs ?_
 refine .cond rfl (λn=>?_) λn=>?_
 obtain⟨k,⟨v0,T0⟩,M,a6,L⟩:=ht n
 obtain⟨V,G,s,a9⟩:=h.lf k
 rw[a6]at s
 simp only[Option.map_some,Option.getD_some]at s
 subst s
 have a3:=qz w M
 have I:RS R 1 uz (.slice V (ids (λx=>x.t.dT) k ps).length G) (gP (λx=>x.t.dT) k ps):=RS.of_map (enc:=gO) (f:=λp:RB=>p.1) a9
 have b5:(gP (λx=>x.t.dT) k ps).length<=4096:=Nat.le_trans (List.length_filter_le _ _) U
 have b4:(ids (λx=>x.t.dT) k ps).length=(gP (λx=>x.t.dT) k ps).length:=by rw[EJ,List.length_map]
 refine .kn<|.block<|.sr ?_
 refine .q (.entry L (λ_ _=>.inl) rfl) ?_
 refine .q .extract<|.ag rfl<|.z<|.mo rfl<|.q (.dH I) ?_
 refine .mo rfl<|.zn<|.block ?_
 refine .loop (X:=Nat×Value×ay) (λy=>y.1<=(gP (λx=>x.t.dT) k ps).length/\OS 152 9 aO.enc y.2.1 (l++((gP (λx=>x.t.dT) k ps).take y.1).map (·.2)) y.2.2) (λy=>[(3,y.2.1),(15,B),(20,.slice V (ids (λx=>x.t.dT) k ps).length G),(21,.int .i64 ((gP (λx=>x.t.dT) k ps).length:Nat)),(22,iN y.1)]) (λy=>[y.2.2,E]) (λy=>(gP (λx=>x.t.dT) k ps).length-y.1) (0,W,F) ⟨Nat.zero_le _,by simpa using e⟩ kE.c.c.c.c.c rH ?_
 rintro⟨j,v1,a1⟩ ⟨hj,d⟩
 simp only at hj d⊢
 have b7:=d.aL
 refine .sr<|.q .lss<|.zs ?_
 refine .cond rfl (λr=>?_) λr=>?_
 have O:j<(gP (λx=>x.t.dT) k ps).length:=by have:=bo r;omega
 obtain⟨⟨b,x⟩,A⟩:=eL O
 have px:PC R (pT b) x.enc:=h.pr _ (List.mem_filter.1 (aF A)).1
 have b2:(gP (λx=>x.t.dT) k ps).take (j+1)=(gP (λx=>x.t.dT) k ps).take j++[(b,x)]:=by rw[List.take_add_one,A];rfl
 refine .kn<|.seq<|.block<|.sr ?_
 refine .cR j I A (λc0=>?_)
 refine .lo rfl<|.az rfl<|.region<|.mo rfl<|.mo rfl ?_
 refine .nc rfl<|.q (.aE rfl) ?_
 refine .je (λb3=>?_)
 refine .append d (RS.lits (xs:=[x]) rfl (by simp[aO.enc,bw.enc]) (by simp[aO.enc,bw.enc,aL])) (by simp;omega) (λv5 T5 a2=>?_)
 refine .ag rfl<|.nil<|bi<|aD<|.region ?_
 refine .ia (j+1) .add ?_
 refine .mo rfl<|.nil ?_
 ·exact aN (j+1,v5,T5) ⟨O,by simp only;rw[b2,List.map_append, <-List.append_assoc];exact a2⟩ (by simp only;omega) kE.c.c.c.c.c (cu [1,1])
 have a5:j=(gP (λx=>x.t.dT) k ps).length:=by have:=aY r;omega
 subst a5
 rw[List.take_length]at d
 refine .exit<|aP<|aV<|aR<|bi ?_
 ·refine aN (l++(gP (λx=>x.t.dT) k ps).map (·.2),D.filter λC=>decide (C≠k),v1,a1,E) ⟨w.sublist List.filter_sublist,?_,d,L.it⟩ ?_ kE.c.c (cu [0,0])
  ·simp only
   have h9:=qB (a:=λp:RB=>decide (p.2.t.dT∉D)) (b:=λp:RB=>decide (p.2.t.dT=k)) (c:=λp:RB=>decide (p.2.t.dT∉D.filter λC=>decide (C≠k))) ps λp _=>by
    by_cases H:p.2.t.dT=k
    ·rw[H];simp[M]
    ·simp[H]
   refine List.Perm.trans ?_ (h9.map _).symm
   rw[List.map_append]
   exact i.append (.refl _)
  ·have:=a3.length_eq
   simp only[List.length_cons]at this
   simp only;omega
 have b1:=hf n
 subst b1
 have a7:l.Perm S.rows:=by
  refine i.trans (.of_eq ?_)
  rw[<-h.eq,List.filter_eq_self.2 λp _=>by simp]
 refine .exit<|aP<|aV<|aR<|aD<|.sr<|.mo rfl ?_
 refine .bb (SRW.iW (caps:=[]) W _ F _ e (by omega) (tq _) (λp Q=>trivial) rQ.so) (λu Z hu=>?_)
 obtain⟨rfl,ys,J,a8,b0⟩:=hu
 have i5:=J.aL
 refine .z<|.mo rfl<|.az rfl ?_
 refine .ret (aZ _ (.one (.tmp rfl)) ((cu [0])) ?_)
 ·exact⟨Z,by simp[take,cq],ys,J,a8.trans a7,b0.ordered⟩
theorem GU(x:aO)(j:x.t.fits)(head cE:Int)(R:aA):Spec prog 364 [.agg x.enc.toArray,.int .u64 head,.int .u64 cE] R [] λv H'=>v=.bool (gV head cE x)/\H'=[]:=by
 refine Spec.body func364 rfl results364 ntmps364 rfl ?_
 refine .sr ?_
 refine .cJ rfl (λk=>?_)
 refine .ag rfl<|.z<|.fa rfl<|.q (.loadT rfl) ?_
 refine .bc (Fc x.t j _) (λv i=>?_)
 subst i
 refine .q .not<|.mo rfl ?_
 refine .split (t:=11) rfl (λf=>?_) (λf=>?_)
 refine .gT f<|.fa rfl<|.gT f<|.lo rfl<|.gT f<|.q .geq<|.q (.bu f) ?_
 refine .mo rfl ?_
 refine .split (t:=16) rfl (λe=>?_) (λe=>?_)
 refine .gT e<|.fa rfl<|.gT e<|.lo rfl<|.gT e<|.mo rfl<|.gT e<|.q .leq<|.q (.bu e) ?_
 refine .mo rfl ?_
 refine .split (t:=22) rfl (λb=>?_) (λb=>?_)
 refine .gT b<|.fa rfl<|.gT b<|.lo rfl<|.gT b<|.q .cA<|.gT b<|.mo rfl ?_
 refine .split (t:=26) rfl (λa=>?_) (λa=>?_)
 refine .gF a<|.gF a<|.gF a<|.gF a<|.gF a<|.gF a<|.ca rfl ?_
 refine .ca rfl ?_
 refine .ca rfl ?_
 refine .ca rfl ?_
 refine .gF a<|.gF a<|.ca rfl ?_
 refine .ca rfl ?_
 refine .ca rfl ?_
 refine .ca rfl ?_
 refine .gF a<|.gT b<|.q (.bu a) ?_
 refine .q (.bu b) ?_
 refine .az rfl ?_
 refine .ret (br rfl ?_)
 ·refine⟨adk _ ?_,rfl⟩
  obtain⟨t,g,h⟩:=x
  unfold gV
  rw[adl]
  simp_all
  try omega
 refine .gT a<|.fa rfl<|.gT a<|.lo rfl<|.gT a<|.fa rfl<|.gT a<|.lo rfl<|.gT a<|.q .gtr<|.gT a<|.mo rfl ?_
 refine .split (t:=32) rfl (λc=>?_) (λc=>?_)
 refine .gT c<|.fa rfl<|.gT c<|.lo rfl<|.gT c<|.mo rfl<|.gT c<|.q .gtr<|.gT a<|.q (.bu c) ?_
 refine .gT a<|.mo rfl ?_
 refine .split (t:=38) rfl (λd=>?_) (λd=>?_)
 refine .gT d<|.fa rfl<|.gT d<|.lo rfl<|.gT d<|.mo rfl<|.gT d<|.q .leq<|.gT a<|.q (.bu d) ?_
 refine .gT b<|.q (.bq a) ?_
 refine .q (.bu b) ?_
 refine .az rfl ?_
 refine .ret (br rfl ?_)
 ·refine⟨adk _ ?_,rfl⟩
  obtain⟨t,g,h⟩:=x
  unfold gV
  rw[adl]
  simp_all
  try omega
 refine .gF d<|.gF d<|.gF d<|.gF d<|.gT a<|.q (.bq d) ?_
 refine .gT b<|.q (.bq a) ?_
 refine .q (.bu b) ?_
 refine .az rfl ?_
 refine .ret (br rfl ?_)
 ·refine⟨adk _ ?_,rfl⟩
  obtain⟨t,g,h⟩:=x
  unfold gV
  rw[adl]
  simp_all
  try omega
 refine .gF c<|.gF c<|.gF c<|.gF c<|.gT a<|.q (.bq c) ?_
 refine .gT a<|.mo rfl<|.gX<|.gX<|.gX<|.gX<|.gT a<|.q .dv<|.gT b<|.q (.bq a) ?_
 refine .q (.bu b) ?_
 refine .az rfl ?_
 refine .ret (br rfl ?_)
 ·refine⟨adk _ ?_,rfl⟩
  obtain⟨t,g,h⟩:=x
  unfold gV
  rw[adl]
  simp_all
  try omega
 refine .gF b<|.gF b<|.gF b<|.gF b<|.ca rfl ?_
 refine .ca rfl ?_
 refine .ca rfl ?_
 refine .ca rfl ?_
 refine .ca rfl ?_
 refine .ca rfl ?_
 refine .ca rfl ?_
 refine .ca rfl ?_
 refine .ca rfl ?_
 refine .ca rfl ?_
 refine .ca rfl ?_
 refine .ca rfl ?_
 refine .ca rfl ?_
 refine .ca rfl ?_
 refine .ca rfl ?_
 refine .ca rfl ?_
 refine .ca rfl ?_
 refine .gF b<|.q (.bq b) ?_
 refine .az rfl ?_
 refine .ret (br rfl ?_)
 ·refine⟨adk _ ?_,rfl⟩
  obtain⟨t,g,h⟩:=x
  unfold gV
  rw[adl]
  simp_all
  try omega
 refine .gF e<|.gF e<|.gF e<|.gF e<|.q (.bq e) ?_
 refine .mo rfl<|.gX<|.gX<|.gX<|.gX<|.ca rfl ?_
 refine .ca rfl ?_
 refine .ca rfl ?_
 refine .ca rfl ?_
 refine .ca rfl ?_
 refine .ca rfl ?_
 refine .ca rfl ?_
 refine .ca rfl ?_
 refine .ca rfl ?_
 refine .ca rfl ?_
 refine .ca rfl ?_
 refine .ca rfl ?_
 refine .ca rfl ?_
 refine .ca rfl ?_
 refine .ca rfl ?_
 refine .ca rfl ?_
 refine .ca rfl ?_
 refine .gX<|.q .dv<|.az rfl ?_
 refine .ret (br rfl ?_)
 ·refine⟨adk _ ?_,rfl⟩
  obtain⟨t,g,h⟩:=x
  unfold gV
  rw[adl]
  simp_all
  try omega
 refine .gF f<|.gF f<|.gF f<|.q (.bq f) ?_
 refine .mo rfl<|.gX<|.gX<|.gX<|.gX<|.q .dv<|.mo rfl<|.gX<|.gX<|.gX<|.gX<|.ca rfl ?_
 refine .ca rfl ?_
 refine .ca rfl ?_
 refine .ca rfl ?_
 refine .ca rfl ?_
 refine .ca rfl ?_
 refine .ca rfl ?_
 refine .ca rfl ?_
 refine .ca rfl ?_
 refine .ca rfl ?_
 refine .ca rfl ?_
 refine .ca rfl ?_
 refine .ca rfl ?_
 refine .ca rfl ?_
 refine .ca rfl ?_
 refine .ca rfl ?_
 refine .ca rfl ?_
 refine .gX<|.q .dv<|.az rfl ?_
 refine .ret (br rfl ?_)
 ·refine⟨adk _ ?_,rfl⟩
  obtain⟨t,g,h⟩:=x
  unfold gV
  rw[adl]
  simp_all
  try omega
theorem Eo(x a:aO)(R:aA):Spec prog 365 [.agg x.enc.toArray,.agg a.enc.toArray] R [] λv H'=>v=.bool (iU x a)/\H'=[]:=by
 refine Spec.body func365 rfl results365 ntmps365 rfl ?_
 refine .sr ?_
 refine .cJ rfl (λg=>?_)
 refine .cJ rfl (λh=>?_)
 refine .ag rfl<|.zs<|.sr<|.fa rfl<|.q (.loadT rfl) ?_
 refine .fa rfl<|.q (.loadT rfl) ?_
 refine .q (.rk rfl rfl (bw.kinds x.t) (bw.kinds a.t)) ?_
 rw[show dS (List.take 7 (List.drop 0 x.enc)) (List.take 7 (List.drop 0 a.enc))=decide (x.t=a.t)from bw.eq x.t a.t]
 refine .zn ?_
 refine .cond rfl (λc=>?_) λc=>?_
 refine .sr<|.fa rfl<|.q (.loadT rfl) ?_
 refine .fa rfl<|.q (.loadT rfl) ?_
 refine .bc (oV a.t x.t _) (λv f=>?_)
 subst f
 refine .az rfl ?_
 refine .ret (aT (br rfl ?_))
 ·have e:¬x.t=a.t:=by simpa using c
  exact⟨by unfold iU;rw[adi e],rfl⟩
 refine .kn<|.sr<|.fa rfl<|.lo rfl<|.q .eb<|.mo rfl ?_
 refine .split (t:=18) rfl (λb=>?_) (λb=>?_)
 refine .gT b<|.fa rfl<|.gT b<|.lo rfl<|.gT b<|.fa rfl<|.gT b<|.lo rfl<|.gT b<|.q .leq<|.q (.bu b) ?_
 refine .az rfl ?_
 refine .ret (br rfl ?_)
 ·have d:x.t=a.t:=by simpa using c
  refine⟨adk _ ?_,rfl⟩
  unfold iU
  rw[adj d]
  simp_all
 refine .gF b<|.gF b<|.gF b<|.gF b<|.gF b<|.q (.bq b) ?_
 refine .az rfl ?_
 refine .ret (br rfl ?_)
 ·have d:x.t=a.t:=by simpa using c
  refine⟨adk _ ?_,rfl⟩
  unfold iU
  rw[adj d]
  simp_all
theorem GS(v:Value)(xs:List aO)(head cE:Int)(R:aA)(h:RS R 9 aO.enc v xs)(Z:∀x∈xs,x.t.fits):
  Spec prog 254 [v,.int .u64 head,.int .u64 cE] R [] λu H'=>∃T,H'=[T]/\∃p e,u=.tuple [p,.int .i64 e].toArray/\((lp xs head cE/\e=0/\∃g,p=pT g/\SI g ⟨xs,head,cE⟩ T)\/(¬lp xs head cE/\e=4/\p=.pointer none)):=by
 have J:=h.le
 obtain⟨Q,O,rfl⟩:=h.val
 refine Spec.ep (H':=[[]]) (by simp) ?_
 refine Spec.body func254 rfl results254 ntmps254 rfl ?_
 refine .sr<|.ag rfl<|.ag rfl<|.zs<|.sr<|.mo rfl<|.mo rfl<|.q .gtr<|.mo rfl ?_
 refine .split (t:=14) rfl (λm=>?_) (λm=>?_)
 refine .gF m<|.gF m<|.q (.bu m) ?_
 refine .mo rfl<|.gX<|.gX<|.gX<|.q .ed<|.zn<|.dG ?_
 have E:¬lp xs head cE:=λj=>by
  obtain⟨⟨L,M,N⟩,_⟩:=j
  have:=J
  simp_all
  try omega
 refine .sr<|.ag rfl<|.az rfl ?_
 refine .ret (aT (aZ _ (.two (.tmp rfl) (.tmp rfl)) ((cu [0])) ?_))
 ·exact⟨_,by simp[take];rfl,_,_,rfl,.inr ⟨E,rfl,rfl⟩⟩
 refine .gT m<|.mo rfl<|.gT m<|.q .gtr<|.q (.bq m) ?_
 refine .mo rfl ?_
 refine .split (t:=18) rfl (λf=>?_) (λf=>?_)
 refine .gF f<|.gF f<|.gF f<|.q (.bu f) ?_
 refine .zn<|.dG ?_
 have E:¬lp xs head cE:=λj=>by
  obtain⟨⟨L,M,N⟩,_⟩:=j
  have:=J
  simp_all
  try omega
 refine .sr<|.ag rfl<|.az rfl ?_
 refine .ret (aT (aZ _ (.two (.tmp rfl) (.tmp rfl)) ((cu [0])) ?_))
 ·exact⟨_,by simp[take];rfl,_,_,rfl,.inr ⟨E,rfl,rfl⟩⟩
 refine .gT f<|.mo rfl<|.gT f<|.q (.dH h) ?_
 refine .gT f<|.q .gtr<|.q (.bq f) ?_
 refine .zn ?_
 refine .cond rfl (λW=>?_) λW=>?_
 have E:¬lp xs head cE:=λj=>by
  obtain⟨⟨L,M,N⟩,_⟩:=j
  have:=J
  simp_all
  try omega
 refine .sr<|.ag rfl<|.az rfl ?_
 refine .ret (aT (aZ _ (.two (.tmp rfl) (.tmp rfl)) ((cu [0])) ?_))
 ·exact⟨_,by simp[take];rfl,_,_,rfl,.inr ⟨E,rfl,rfl⟩⟩
 have a5:cE<=head/\head<=4611686018427387903/\xs.length<=4096:=by
  simp_all
  try omega
 refine .kn<|.sr ?_
 refine .cL (sm _) (λu T0 k=>?_)
 obtain⟨g,rfl,hg⟩:=k
 obtain⟨n,S,U,K,a7,a8,rfl,Y⟩:=hg.cells
 refine .ag rfl<|.z ?_
 refine .sub (H':=[bl g [.bool true,.int .u64 0,.int .u64 0,.int .i64 n,S,U] 182,K]) (bV.du (by simp)) ?_
 refine .mo rfl<|.mo rfl<|.mo rfl<|.mo rfl<|.nc rfl<|.fa rfl<|.cO rfl rfl<|.nc rfl<|.fa rfl<|.cO rfl rfl<|.zs<|.sr<|.mo rfl<|.q (.dH h) ?_
 refine .mo rfl<|.zn<|.block ?_
 refine .loop (X:=Nat×ay) (λy=>(y.1<=xs.length/\mi head cE xs y.1)/\SI g ⟨xs.take y.1,head,cE⟩ y.2) (λy=>[(0,.slice Q xs.length O),(1,.int .u64 head),(2,.int .u64 cE),(8,pT g),(32,.slice Q xs.length O),(33,iN xs.length),(34,iN y.1)]) (λy=>[y.2]) (λy=>xs.length-y.1) (0,(g,Obj.cells [Value.bool true,Value.int .u64 head,Value.int .u64 cE,Value.int .i64 n,S,U].toArray 182 (0,0))::K) ⟨⟨Nat.zero_le _,F4⟩,Y head cE⟩ kE.c.c.c.c.c.c.c (bV.du (by simp[cF])) ?_
 rintro⟨i,T⟩ ⟨⟨hi,s⟩,B⟩
 simp only at hi s B⊢
 refine .sr<|.q .lss<|.zs ?_
 refine .cond rfl (λI=>?_) λI=>?_
 have r:i<xs.length:=de I
 obtain⟨x,l⟩:=eL r
 have a4:=Z x (aF l)
 have F:xs.take (i+1)=xs.take i++[x]:=by rw[List.take_add_one,l];rfl
 obtain⟨a,D⟩:∃a,xs[i-1]? =some a:=⟨_,aC (by omega)⟩
 refine .kn<|.seq<|.block<|.sr<|.mo rfl ?_
 refine .cR i h l (λa9=>?_)
 refine .q (.aE rfl) ?_
 refine .dz (λa6=>?_)
 refine .ag rfl<|.dx rfl rfl<|.zs<|.seq<|.bF [] mixed ?_
 refine .tO 0 rfl (.aE rfl)<|.tO 1 rfl .move<|.tO 2 rfl .move ?_
 refine .sT 3 rfl ?_
 refine .bc (GU x a4 head cE _) (λu k=>?_)
 subst k
 refine .nil (Next.sub ?_)
 refine .tO 4 rfl .not<|.tO 5 rfl .move ?_
 refine RA.split (t:=44) rfl (λd=>?_) (λd=>?_)
 refine .iX 6 rfl rfl d rfl (by kernel_rfl) ?_
 refine .iX 7 rfl rfl d rfl (by kernel_rfl) ?_
 refine .iX 8 rfl rfl d rfl (by kernel_rfl) ?_
 refine .kA 9 rfl rfl (by kernel_rfl) ?_
 refine .kA 10 rfl rfl (by kernel_rfl) ?_
 refine .kA 11 rfl rfl (by kernel_rfl) ?_
 refine .kA 12 rfl rfl (by kernel_rfl) ?_
 refine .kA 13 rfl rfl (by kernel_rfl) ?_
 refine .kA 14 rfl rfl (by kernel_rfl) ?_
 refine .sT 15 rfl ?_
 refine .ca rfl ?_
 refine .nil (Next.sub ?_)
 refine .kA 16 rfl rfl (by kernel_rfl) ?_
 refine .iX 17 rfl rfl d rfl (by kernel_rfl) ?_
 refine .tO 18 rfl (.bu d) ?_
 refine RA.nil (by kernel_rfl) ?_
 refine aD<|.dG<|.sr<|.ag rfl<|.az rfl ?_
 refine .ret (aT (bg (aT (cc (bg (aT (aZ _ (.two (.tmp rfl) (.tmp rfl)) ((cu [0])) ?_)))))))
 ·exact⟨_,by simp[take];rfl,_,_,rfl,.inr ⟨λj=>by have:=(j.2 i x r l).1;rw[this]at d;simp at d,rfl,rfl⟩⟩
 refine .iA 6 rfl rfl d .move (by kernel_rfl) ?_
 refine .iA 7 rfl rfl d .gtr (by kernel_rfl) ?_
 refine .iA 8 rfl rfl d .move (by kernel_rfl) ?_
 refine RA.split (t:=47) rfl (λb=>?_) (λb=>?_)
 have V:0<i:=by simpa using b
 have b0:=h.pc D
 refine .iA 9 rfl rfl b (.aE rfl) (by kernel_rfl) ?_
 refine .iA 10 rfl rfl b .move (by kernel_rfl) ?_
 refine .iA 11 rfl rfl b .move (by kernel_rfl) ?_
 refine .iA 12 rfl rfl b (.i64 ((i-1:Nat):Int) .sub ⟨by omega,by omega,by omega⟩) (by kernel_rfl) ?_
 refine .iA 13 rfl rfl b (.cR (i-1) h D rfl rfl rfl) (by kernel_rfl) ?_
 refine .iA 14 rfl rfl b (.aE rfl) (by kernel_rfl) ?_
 refine .sT 15 rfl ?_
 refine .gT b ?_
 refine .bc (Eo x a _) (λu k=>?_)
 subst k
 refine .nil (Next.sub ?_)
 refine .iA 16 rfl rfl b .not (by kernel_rfl) ?_
 refine .iA 17 rfl rfl d (.bu b) (by kernel_rfl) ?_
 refine .tO 18 rfl (.bq d) ?_
 refine RA.nil (by kernel_rfl) ?_
 refine aD ?_
 refine .cond rfl (λA=>?_) λA=>?_
 refine .sr<|.ag rfl<|.az rfl ?_
 refine .ret (aT (bg (aT (cc (bg (aT (aZ _ (.two (.tmp rfl) (.tmp rfl)) ((cu [0])) ?_)))))))
 ·exact⟨_,by simp[take];rfl,_,_,rfl,.inr ⟨λj=>by have:=(j.2 i x r l).2 a V D;rw[this]at A;simp at A,rfl,rfl⟩⟩
 refine .kn<|.region<|.mo rfl<|.q (.aE rfl) ?_
 refine .bb (pb g _ T B x (by simp only[List.length_take];omega) _) (λu w k=>?_)
 obtain⟨rfl,C⟩:=k
 refine .nil<|bi<|aD<|.region ?_
 refine .ia (i+1) .add ?_
 refine .mo rfl<|.nil ?_
 ·first
   |exact aN (i+1,w) ⟨⟨r,nn s l (by simpa using d) λG H o=>by simp at b;omega⟩,by simp only;rw[F];exact C⟩ (by simp only;omega) kE.c.c.c.c.c.c.c (cu [1])
   |exact aN (i+1,w) ⟨⟨r,nn s l (by simpa using d) λG H o=>by rw[D]at o;cases o;simpa using A⟩,by simp only;rw[F];exact C⟩ (by simp only;omega) kE.c.c.c.c.c.c.c (cu [1])
 refine .iX 9 rfl rfl b rfl (by kernel_rfl) ?_
 refine .iX 10 rfl rfl b rfl (by kernel_rfl) ?_
 refine .iX 11 rfl rfl b rfl (by kernel_rfl) ?_
 refine .iX 12 rfl rfl b rfl (by kernel_rfl) ?_
 refine .iX 13 rfl rfl b rfl (by kernel_rfl) ?_
 refine .iX 14 rfl rfl b rfl (by kernel_rfl) ?_
 refine .sT 15 rfl ?_
 refine .gF b ?_
 refine .nil (Next.sub ?_)
 refine .iX 16 rfl rfl b rfl (by kernel_rfl) ?_
 refine .iA 17 rfl rfl d (.bq b) (by kernel_rfl) ?_
 refine .tO 18 rfl (.bq d) ?_
 refine RA.nil (by kernel_rfl) ?_
 refine aD<|.bB<|.kn<|.region<|.mo rfl<|.q (.aE rfl) ?_
 refine .bb (pb g _ T B x (by simp only[List.length_take];omega) _) (λu w k=>?_)
 obtain⟨rfl,C⟩:=k
 refine .nil<|bi<|aD<|.region ?_
 refine .ia (i+1) .add ?_
 refine .mo rfl<|.nil ?_
 ·first
   |exact aN (i+1,w) ⟨⟨r,nn s l (by simpa using d) λG H o=>by simp at b;omega⟩,by simp only;rw[F];exact C⟩ (by simp only;omega) kE.c.c.c.c.c.c.c (cu [1])
   |exact aN (i+1,w) ⟨⟨r,nn s l (by simpa using d) λG H o=>by rw[D]at o;cases o;simpa using A⟩,by simp only;rw[F];exact C⟩ (by simp only;omega) kE.c.c.c.c.c.c.c (cu [1])
 refine .exit<|aP<|aV<|aR<|aD<|.sr<|.mo rfl<|.ag rfl<|.az rfl ?_
 refine .ret (aZ _ (.two (.tmp rfl) (.tmp rfl)) ((cu [0])) ?_)
 ·have a0:i=xs.length:=by have:=aY I;omega
  subst a0
  rw[List.take_length]at B
  exact⟨T,by simp[take],_,_,rfl,.inl ⟨⟨a5,s⟩,rfl,g,rfl,B⟩⟩
end Go.Proofs.YtgppncmdpcefhaaGreatDoor
