/- What the law 'OpNobody' uses. No condition. -/
import Derived.Test.YtgppncmdpcefhaaGreatDoorKOpNobodyB
import Derived.Test.YtgppncmdpcefhaaGreatDoorKOpNobodyF
import Derived.Test.YtgppncmdpcefhaaGreatDoorKOpNobodyH
import Derived.Test.YtgppncmdpcefhaaGreatDoorKOpNobodyM
namespace Go.Proofs.YtgppncmdpcefhaaGreatDoor
set_option linter.defProp false
def ac0:=@Nat.le_refl
def ac1:=@List.getElem?_eq_some_iff
def ac2:=@List.length_set
def ac3:=@if_neg
def ac4:=@if_pos
def ac5:=@Int.tdiv_eq_ediv_of_nonneg
def ac6:=@List.length_drop
def ac7:=@Bool.and_eq_true
def ac8:=@decide_eq_true_eq
def ac9:=@List.filter_cons
def ada:=@Nat.lt_or_ge
def adb:=@Bool.or_eq_true
def ade:=@List.filter_congr
open Tryz
set_option linter.unusedVariables false
set_option linter.unusedSimpArgs false
set_option maxRecDepth 4000
theorem pj:∀(f x:Nat),x<2^f->x≠0->2^Lib.bitLenAux f x<=2*x/\x<2^Lib.bitLenAux f x
 |0,x,h,h0=>by simp at h;omega
 |f+1,x,h,h0=>by
  unfold Lib.bitLenAux
  rw[ac3 h0]
  by_cases a:x/2=0
  ·have:x=1:=by omega
   subst this
   have:Lib.bitLenAux f (1/2)=0:=by cases f<;>simp[Lib.bitLenAux]
   rw[this];omega
  ·have b:=pj f (x/2) (by rw[Nat.pow_succ]at h;omega) a
   rw[Nat.add_comm,Nat.pow_succ]
   omega
theorem bitLen_le:∀(f x:Nat),Lib.bitLenAux f x<=f
 |0,x=>by simp[Lib.bitLenAux]
 |f+1,x=>by
  unfold Lib.bitLenAux
  split
  ·omega
  ·have:=bitLen_le f (x/2);omega
theorem kj(n:Nat)(h:n<2^63)(R:aA):Spec prog 232 [.int .u64 n] R [] λv H'=>v=.int .i64 (Lib.bitLen n:Nat)/\H'=[]:=by
 have:=Spec.m3 (λw=>tu (n:Int) w (by omega) (by omega)) R
 simpa using this
theorem ld(n:Nat)(b:n≠0)(h:n<=1000000000)(R:aA):Spec prog 408 [.int .i64 n] R [] λv H'=>(∃m:Nat,v=.int .u64 m/\n<m/\m<=2*n)/\H'=[]:=by
 have a:=pj 64 n (by omega) b
 have g:=bitLen_le 64 n
 refine Spec.body func408 rfl results408 ntmps408 rfl ?_
 refine .sr<|.ag rfl<|.z<|.mo rfl ?_
 refine .q (bd.cast (v':=.int .u64 (n:Nat)) .ez (by rw[gr (by omega) (by omega)])) ?_
 refine .bc (kj n (by omega) _) (λv d=>?_)
 subst d
 refine .q (bd.cast (v':=.int .u64 ((2^Lib.bitLen n:Nat):Int)) (.nz) (by
  have e:min ((Lib.bitLen n:Nat):Int).toNat IntKind.u64.bits=Lib.bitLen n:=by
   unfold Lib.bitLen;simp[IntKind.bits];omega
  rw[e,Int.one_mul,gr]
  ·congr 1
  ·exact Int.le_of_lt (Int.pow_pos (by omega))
  ·have f:(2^Lib.bitLen n:Nat)<=2*n:=a.1
   have c:((2:Int)^Lib.bitLen n)=((2^Lib.bitLen n:Nat):Int):=by push_cast;rfl
   rw[c];omega)) ?_
 refine .az rfl ?_
 refine .ret (br rfl ?_)
 ·exact⟨⟨2^Lib.bitLen n,rfl,a.2,a.1⟩,rfl⟩
theorem ln(b:Nat)(z:Int)(R:aA):Spec prog 409 [pT b] R [bl b [.int .u64 z] 508] λv H'=>∃T',H'=[T']/\∃z',v=.int .u64 z'/\T'=(bl b [.int .u64 z'] 508):=by
 refine Spec.body func409 rfl results409 ntmps409 rfl ?_
 refine .sr<|.ag rfl<|.zs ?_
 refine .bQ 9 mixed (by kernel_rfl) ?_
 conv=>arg 6;dsimp only[List.take]
 refine .mo rfl<|.nc rfl<|.lo rfl<|.mo rfl ?_
 refine .nc rfl<|.lo rfl<|.q .nz<|.q .o5<|.nc rfl<|.nil<|.cO rfl rfl<|.zs ?_
 refine .bQ 9 mixed (by kernel_rfl) ?_
 conv=>arg 6;dsimp only[List.take]
 refine .mo rfl<|.nc rfl<|.lo rfl<|.mo rfl ?_
 refine .nc rfl<|.lo rfl<|.q .sk<|.q .o5<|.nc rfl<|.nil<|.cO rfl rfl<|.zs ?_
 refine .bQ 9 mixed (by kernel_rfl) ?_
 conv=>arg 6;dsimp only[List.take]
 refine .mo rfl<|.nc rfl<|.lo rfl<|.mo rfl ?_
 refine .nc rfl<|.lo rfl<|.q .nz<|.q .o5<|.nc rfl<|.nil<|.cO rfl rfl<|.z<|.mo rfl<|.nc rfl<|.lo rfl<|.az rfl ?_
 refine .ret (aZ _ (.one (.tmp rfl)) rH ?_)
 ·exact⟨_,rfl,_,rfl,rfl⟩
namespace SCL
section
variable{c:CP->CP->Int}{ok:CP->Prop}{f:FuncId}{caps:List Value} [e:aI prog f]
theorem iJ(v:Value)(xs:List CP)(T:ay)(a b:Nat)(R:aA)(h:OS 24 4 bP v xs T)(a3:a<=b)(J:b<=xs.length)(hl:xs.length<=1000000000)(O:cf prog f caps R (λp:CP=>Value.agg (bP p).toArray) c ok)(K:∀x∈xs,ok x)(G:SO (ap c)):
  Spec prog 318 [v,.int .i64 a,.int .i64 b,.func (.func f) #[] caps.toArray] R [T] λu H'=>∃T',H'=[T']/\u=.tuple #[]/\∃ys,OS 24 4 bP v ys T'/\RP a b xs ys/\SR (ap c) ys a b:=by
 have iv:=h.aL
 refine Spec.body func318 rfl results318 ntmps318 rfl ?_
 refine .sr<|.mo rfl ?_
 refine .ia (a+1) .add ?_
 refine .az rfl<|.block ?_
 refine .loop (X:=Nat×List CP×ay) (λy=>(a+1<=y.1/\(y.1<=b\/y.1=a+1))/\OS 24 4 bP v y.2.1 y.2.2/\RP a b xs y.2.1/\SR (ap c) y.2.1 a y.1) (λy=>[(0,v),(1,iN a),(2,iN b),(3,.func (.func f) #[] caps.toArray),(8,iN y.1)]) (λy=>[y.2.2]) (λy=>b-y.1) (a+1,xs,T) ⟨⟨by simp only;omega,.inr rfl⟩,h,.refl _,λi j s m I=>by simp only at I;omega⟩ kE.c.c.c.c.c rH ?_
 rintro⟨i,ys,M⟩ ⟨⟨Q,S⟩,D,C,E⟩
 simp only at Q S D C E⊢
 have a6:=C.length
 refine .seq<|.sr<|.mo rfl<|.mo rfl<|.q .lss<|.zn ?_
 refine .cond rfl (λs=>?_) λs=>?_
 have a5:i<b:=by simp at s;omega
 refine .kn<|.seq<|.block<|.sr<|.mo rfl<|.az rfl<|.block ?_
 refine .loop (X:=Nat×List CP×ay) (λy=>(a<=y.1/\y.1<=i)/\OS 24 4 bP v y.2.1 y.2.2/\RP a b xs y.2.1/\fg (ap c) y.2.1 a y.1 (i+1)) (λy=>[(0,v),(1,iN a),(2,iN b),(3,.func (.func f) #[] caps.toArray),(8,iN i),(9,iN y.1)]) (λy=>[y.2.2]) (λy=>y.1) (i,ys,M) ⟨⟨by simp only;omega,ac0 _⟩,D,C,E.ins⟩ kE.c.c.c.c.c.c rH ?_
 rintro⟨j,z,H⟩ ⟨⟨U,V⟩,e,n,B⟩
 simp only at U V e n B⊢
 have a7:=n.length
 refine .seq<|.seq ?_
 refine .bQ 14 mixed (by kernel_rfl) ?_
 conv=>arg 6;dsimp only[List.take]
 refine .mo rfl<|.mo rfl<|.q .gtr<|.mo rfl ?_
 refine .split (t:=21) rfl (λd=>?_) (λd=>?_)
 have F:a<j:=by have:=bo d;omega
 obtain⟨x,g⟩:∃x,z[j]? =some x:=⟨_,aC (by omega)⟩
 obtain⟨y,l⟩:∃x,z[j-1]? =some x:=⟨_,aC (by omega)⟩
 have a0:=K x (n.perm.mem_iff.1 (aF g))
 have a1:=K y (n.perm.mem_iff.1 (aF l))
 refine .gT d<|.mo rfl<|.gT d<|.mo rfl<|.gT d<|.mo rfl<|.gT d ?_
 refine .au j e g (λa8=>?_)
 refine .gT d<|.q (.aE rfl)<|.gT d<|.mo rfl<|.gT d<|.mo rfl<|.gT d ?_
 refine .ia (j-1) .sub ?_
 refine .gT d ?_
 refine .au (j-1) e l (λa9=>?_)
 refine .gT d<|.q (.aE rfl)<|.nil<|.gT d ?_
 refine .cj (first:=[]) (captured:=caps) (vs:=[(λp:CP=>Value.agg (bP p).toArray) x,(λp:CP=>Value.agg (bP p).toArray) y]) (O x y a0 a1 _ (λb o J=>.inl J)) (λu r=>?_)
 subst r
 refine .gT d<|.q .lss<|.q (.bu d) ?_
 refine .zn ?_
 refine .cond rfl (λm=>?_) λm=>?_
 refine .kn<|.seq<|.block<|.bF [15,17] mixed ?_
 refine .tO 0 rfl .move<|.tO 1 rfl .move<|.tK 2 rfl .move<|.tK 3 rfl .move ?_
 refine .take 4 rfl (.i64 ((j-1:Nat):Int) .sub ⟨by omega,by omega,by omega⟩) (by kernel_rfl) ?_
 refine .tO 5 rfl .move<|.tO 6 rfl .move ?_
 refine .cH 7 rfl (.i64 ((j-1:Nat):Int) .sub ⟨by omega,by omega,by omega⟩) (by kernel_rfl) ?_
 refine RA.au 8 rfl (j-1) e l rfl rfl rfl (by kernel_rfl) (λb0=>?_)
 refine .tO 9 rfl (.aE rfl)<|.tO 10 rfl .move<|.tO 11 rfl .move ?_
 refine RA.au 12 rfl (j) e g rfl rfl rfl (by kernel_rfl) (λb1=>?_)
 refine .tO 13 rfl (.aE rfl) ?_
 refine RA.au 14 rfl (j) e g rfl rfl rfl (by kernel_rfl) (λb2=>?_)
 refine .sT 15 rfl ?_
 refine .bt (j) e g y (λa2 Y=>?_) (e.one _ (aF l))
 refine .nil (Next.mod rfl ?_)
 refine RA.au 16 rfl (j-1) e l rfl rfl rfl (by kernel_rfl) (λb3=>?_)
 refine .sT 17 rfl ?_
 obtain⟨zz,Z⟩:∃u,(z.set (j) y)[j-1]? =some u:=⟨_,aC (by rw[ac2];exact(ac1.1 l).1)⟩
 refine .bt (j-1) Y Z x (λN L=>?_) (e.one _ (aF g))
 rw[<-bS g l]at L
 refine .nil (Next.mod rfl ?_)
 refine RA.nil (by kernel_rfl) ?_
 refine bi<|aD<|.region<|.mo rfl ?_
 refine .ia (j-1) .sub ?_
 refine .ag rfl<|.nil ?_
 ·have W:ap c x y=true:=m
  exact aN (j-1,bn z j (j-1),N) ⟨⟨by simp only;omega,by simp only;omega⟩,L,n.step (by omega) (by omega) (by omega) (by omega) (by omega),B.step G (by omega) (by omega) F g l W⟩ (by simp only;omega) kE.c.c.c.c.c.c rH
 refine .exit<|aP<|aV<|aR<|bi<|aD<|.region<|.mo rfl ?_
 refine .ia (i+1) .add ?_
 refine .ag rfl<|.nil ?_
 ·refine aN (i+1,z,H) ⟨⟨by simp only;omega,.inl (by simp only;omega)⟩,e,n,B.done G (by omega) (by omega) ?_⟩ (by simp only;omega) kE.c.c.c.c.c rH
  first
   |exact .inr ⟨F,λu w r A=>by
     rw[l]at r;rw[g]at A;cases r;cases A;exact m⟩
   |exact .inl (by have:=aY d;omega)
 refine .gF d<|.gF d<|.gF d<|.gF d<|.gF d<|.gF d<|.gF d<|.gF d<|.gF d<|.gF d<|.nil<|.gF d<|.gF d<|.q (.bq d) ?_
 refine .zn<|.bB<|.exit<|aP<|aV<|aR<|bi<|aD<|.region<|.mo rfl ?_
 refine .ia (i+1) .add ?_
 refine .ag rfl<|.nil ?_
 ·refine aN (i+1,z,H) ⟨⟨by simp only;omega,.inl (by simp only;omega)⟩,e,n,B.done G (by omega) (by omega) ?_⟩ (by simp only;omega) kE.c.c.c.c.c rH
  first
   |exact .inr ⟨F,λu w r A=>by
     rw[l]at r;rw[g]at A;cases r;cases A;exact m⟩
   |exact .inl (by have:=aY d;omega)
 refine .exit<|aP<|aV<|aR<|ct _ .none rH ?_
 ·have a4:b<=i:=by simp at s;omega
  exact⟨_,rfl,rfl,ys,D,C,λj k s m I=>E j k s m (by omega)⟩
theorem fL(v:Value)(xs:List CP)(T:ay)(lo k d:Nat)(R:aA)(h:OS 24 4 bP v xs T)(b2:lo<=k)(W:d+k<=xs.length)(hl:xs.length<=1000000000)(hf:cf prog f caps R (λp:CP=>Value.agg (bP p).toArray) c ok)(a4:∀x∈xs,ok x)(K:SO (ap c)):
    Spec prog 407 [v,.int .i64 lo,.int .i64 k,.int .i64 d,.func (.func f) #[] caps.toArray] R [T] λu H'=>∃T',H'=[T']/\u=.tuple #[]/\∃ys,OS 24 4 bP v ys T'/\RP d (d+k) xs ys/\
      (ew (λx y=>ap c y x) (xs.drop d) k lo lo->dI (λx y=>ap c y x) (ys.drop d) k lo):=by
  have iv:=h.aL
  have a5:=K.rev
  refine Spec.body func407 rfl results407 ntmps407 rfl ?_
  refine .sr<|.mo rfl<|.az rfl<|.block ?_
  refine .loop (X:=Nat×List CP×ay) (λy=>(lo<=y.1/\y.1<=k)/\OS 24 4 bP v y.2.1 y.2.2/\RP d (d+k) xs y.2.1/\(ew (λx y=>ap c y x) (xs.drop d) k lo lo->ew (λx y=>ap c y x) (y.2.1.drop d) k lo y.1)) (λy=>[(0,v),(2,iN k),(3,iN d),(4,.func (.func f) #[] caps.toArray),(10,iN y.1)]) (λy=>[y.2.2]) (λy=>k-y.1) (lo,xs,T) ⟨⟨ac0 _,b2⟩,h,.refl _,λh=>h⟩ kE.c.c.c.c.c rH ?_
  rintro⟨r,ys,T1⟩ ⟨⟨a7,b4⟩,m,E,V⟩
  simp only at a7 b4 m E V⊢
  have c2:=E.length
  have c1:(ys.drop d).length=ys.length-d:=ac6
  refine .block<|.sr<|.mo rfl ?_
  refine .ia (2*r) .mul ?_
  refine .ia (2*r+1) .add ?_
  refine .ag rfl<|.zs<|.sr<|.mo rfl<|.mo rfl<|.q .geq<|.zn ?_
  refine .cond rfl (λO=>?_) λO=>?_
  have b9:k<=2*r+1:=by have:=bo O;omega
  refine .exit (aP (dn (aV (aR ?_))))
  refine ct _ .none rH ?_
  ·refine⟨_,rfl,rfl,ys,m,E,λS=>(V S).stop λa D F l u w g U=>?_⟩
   first
     |(simp only[aX]at l;omega)
     |(rw[cQ]at g U
       rw[A]at g;cases g
       have Q:(!ap c H x)=true:=M
       exact a5.dW _ _ _ (Y a w D F l U) (by simpa using Q))
  have N:2*r+1<k:=by have:=aY O;omega
  obtain⟨H,A⟩:∃y,ys[d+r]? =some y:=⟨_,aC (by omega)⟩
  obtain⟨s,n⟩:∃y,ys[d+(2*r+1)]? =some y:=⟨_,aC (by omega)⟩
  have b7:=a4 H (E.perm.mem_iff.1 (aF A))
  have J:=a4 s (E.perm.mem_iff.1 (aF n))
  refine .kn<|.seq ?_
  refine bp.cut (X:=Nat×CP) (λz=>0<z.1/\z.1<k/\aX z.1=r/\ys[d+z.1]? =some z.2/\ok z.2/\∀a u,0<a->a<k->aX a=r->ys[d+a]? =some u->ap c z.2 u=false) (λz=>[(0,v),(2,iN k),(3,iN d),(4,.func (.func f) #[] caps.toArray),(10,iN r),(11,iN z.1)]) (λz=>[T1]) ?_ ?_
  refine .seq ?_
  refine .bQ 19 mixed (by kernel_rfl) ?_
  conv=>arg 6;dsimp only[List.take]
  refine .mo rfl ?_
  refine .ia (2*r+2) .add ?_
  refine .mo rfl<|.q .lss<|.mo rfl ?_
  refine .split (t:=23) rfl (λe=>?_) (λe=>?_)
  have a2:2*r+2<k:=by have:=bo e;omega
  obtain⟨L,C⟩:∃y,ys[d+(2*r+2)]? =some y:=⟨_,aC (by omega)⟩
  have Z:=a4 L (E.perm.mem_iff.1 (aF C))
  refine .gT e<|.mo rfl<|.gT e<|.mo rfl<|.gT e<|.mo rfl<|.gT e<|.mo rfl<|.gT e ?_
  refine .ia (d+(2*r+1)) .add ?_
  refine .gT e ?_
  refine .au (d+(2*r+1)) m n (λc3=>?_)
  refine .gT e<|.q (.aE rfl)<|.gT e<|.mo rfl<|.gT e<|.mo rfl<|.gT e<|.mo rfl<|.gT e ?_
  refine .ia (d+(2*r+1)) .add ?_
  refine .gT e ?_
  refine .ia (d+(2*r+2)) .add ?_
  refine .gT e ?_
  refine .au (d+(2*r+2)) m C (λc4=>?_)
  refine .gT e<|.q (.aE rfl)<|.nil<|.gT e ?_
  refine .cj (first:=[]) (captured:=caps) (vs:=[(λp:CP=>Value.agg (bP p).toArray) s,(λp:CP=>Value.agg (bP p).toArray) L]) (hf s L J Z _ (λb o W=>.inl W)) (λu g=>?_)
  subst g
  refine .gT e<|.q .lss<|.q (.bu e) ?_
  refine .zn ?_
  refine .cond rfl (λI=>?_) λI=>?_
  have a3:∀a u,0<a->a<k->aX a=r->ys[d+a]? =some u->ap c L u=false:=λa u D F l g=>by
    have:a=2*r+1\/a=2*r+2:=by simp only[aX]at l;omega
    rcases this with rfl|rfl
    ·rw[n]at g;cases g;exact K.gx I
    ·rw[C]at g;cases g;exact K.cP _
  refine .region<|.mo rfl ?_
  refine .ia (2*r+2) .add ?_
  refine .ag rfl<|.nil ?_
  ·first
      |exact ax (2*r+2,L) ⟨by simp only;omega,a2,by simp only[aX];omega,C,Z,a3⟩ kE.c.c.c.c.c.c rH
      |exact ax (2*r+1,s) ⟨by simp only;omega,N,by simp only[aX];omega,n,J,B⟩ kE.c.c.c.c.c.c rH
      |(have B:∀a u,0<a->a<k->aX a=r->ys[d+a]? =some u->ap c s u=false:=λa u D F l g=>by
           have:a=2*r+1\/a=2*r+2:=by simp only[aX]at l;omega
           rcases this with rfl|rfl
           ·rw[n]at g;cases g;exact K.cP _
           ·rw[C]at g;cases g;exact I
        exact ax (2*r+1,s) ⟨by simp only;omega,N,by simp only[aX];omega,n,J,B⟩ kE.c.c.c.c.c.c rH)
  refine .skip ?_
  ·first
      |exact ax (2*r+2,L) ⟨by simp only;omega,a2,by simp only[aX];omega,C,Z,a3⟩ kE.c.c.c.c.c.c rH
      |exact ax (2*r+1,s) ⟨by simp only;omega,N,by simp only[aX];omega,n,J,B⟩ kE.c.c.c.c.c.c rH
      |(have B:∀a u,0<a->a<k->aX a=r->ys[d+a]? =some u->ap c s u=false:=λa u D F l g=>by
           have:a=2*r+1\/a=2*r+2:=by simp only[aX]at l;omega
           rcases this with rfl|rfl
           ·rw[n]at g;cases g;exact K.cP _
           ·rw[C]at g;cases g;exact I
        exact ax (2*r+1,s) ⟨by simp only;omega,N,by simp only[aX];omega,n,J,B⟩ kE.c.c.c.c.c.c rH)
  have B:∀a u,0<a->a<k->aX a=r->ys[d+a]? =some u->ap c s u=false:=λa u D F l g=>by
    have:a=2*r+1:=by have:=aY e;simp only[aX]at l;omega
    subst this
    rw[n]at g;cases g;exact K.cP _
  refine .gF e<|.gF e<|.gF e<|.gF e<|.gF e<|.gF e<|.gF e<|.gF e<|.gF e<|.gF e<|.gF e<|.gF e<|.gF e<|.gF e<|.nil<|.gF e<|.gF e<|.q (.bq e) ?_
  refine .zn<|.bB<|.skip ?_
  ·first
      |exact ax (2*r+2,L) ⟨by simp only;omega,a2,by simp only[aX];omega,C,Z,a3⟩ kE.c.c.c.c.c.c rH
      |exact ax (2*r+1,s) ⟨by simp only;omega,N,by simp only[aX];omega,n,J,B⟩ kE.c.c.c.c.c.c rH
      |(have B:∀a u,0<a->a<k->aX a=r->ys[d+a]? =some u->ap c s u=false:=λa u D F l g=>by
           have:a=2*r+1\/a=2*r+2:=by simp only[aX]at l;omega
           rcases this with rfl|rfl
           ·rw[n]at g;cases g;exact K.cP _
           ·rw[C]at g;cases g;exact I
        exact ax (2*r+1,s) ⟨by simp only;omega,N,by simp only[aX];omega,n,J,B⟩ kE.c.c.c.c.c.c rH)
  intro y hy
  obtain⟨j,x⟩:=y
  obtain⟨a0,a6,a1,G,a9,Y⟩:=hy
  simp only at a0 a6 a1 G a9 Y⊢
  have c0:r<j:=a1▸dO a0
  refine aD<|.seq<|.seq ?_
  refine .bQ 13 mixed (by kernel_rfl) ?_
  conv=>arg 6;dsimp only[List.take]
  refine .mo rfl<|.mo rfl<|.mo rfl<|.mo rfl ?_
  refine .ia (d+r) .add ?_
  refine .au (d+r) m A (λc5=>?_)
  refine .q (.aE rfl)<|.mo rfl<|.mo rfl<|.mo rfl ?_
  refine .ia (d+j) .add ?_
  refine .au (d+j) m G (λc6=>?_)
  refine .q (.aE rfl)<|.nil ?_
  refine .cj (first:=[]) (captured:=caps) (vs:=[(λp:CP=>Value.agg (bP p).toArray) H,(λp:CP=>Value.agg (bP p).toArray) x]) (hf H x b7 a9 _ (λb o W=>.inl W)) (λu g=>?_)
  subst g
  refine .q .lss<|.q .not<|.zn ?_
  refine .cond rfl (λM=>?_) λM=>?_
  refine .ret (aT (bg (cc (bg (aZ _ .none rH ?_)))))
  ·refine⟨_,rfl,rfl,ys,m,E,λS=>(V S).stop λa D F l u w g U=>?_⟩
   first
     |(simp only[aX]at l;omega)
     |(rw[cQ]at g U
       rw[A]at g;cases g
       have Q:(!ap c H x)=true:=M
       exact a5.dW _ _ _ (Y a w D F l U) (by simpa using Q))
  refine .kn<|.seq<|.bF [21,23] mixed ?_
  refine .tO 0 rfl .move<|.tO 1 rfl .move<|.tO 2 rfl .move ?_
  refine .cH 3 rfl (.i64 ((d+r:Nat):Int) .add ⟨by omega,by omega,by omega⟩) (by kernel_rfl) ?_
  refine .tK 4 rfl .move<|.tK 5 rfl .move<|.tK 6 rfl .move ?_
  refine .take 7 rfl (.i64 ((d+j:Nat):Int) .add ⟨by omega,by omega,by omega⟩) (by kernel_rfl) ?_
  refine .tO 8 rfl .move<|.tO 9 rfl .move<|.tO 10 rfl .move ?_
  refine .cH 11 rfl (.i64 ((d+j:Nat):Int) .add ⟨by omega,by omega,by omega⟩) (by kernel_rfl) ?_
  refine RA.au 12 rfl (d+j) m G rfl rfl rfl (by kernel_rfl) (λc7=>?_)
  refine .tO 13 rfl (.aE rfl)<|.tO 14 rfl .move<|.tO 15 rfl .move<|.tO 16 rfl .move ?_
  refine .cH 17 rfl (.i64 ((d+r:Nat):Int) .add ⟨by omega,by omega,by omega⟩) (by kernel_rfl) ?_
  refine RA.au 18 rfl (d+r) m A rfl rfl rfl (by kernel_rfl) (λc8=>?_)
  refine .tO 19 rfl (.aE rfl) ?_
  refine RA.au 20 rfl (d+r) m A rfl rfl rfl (by kernel_rfl) (λc9=>?_)
  refine .sT 21 rfl ?_
  refine .bt (d+r) m A x (λb8 b5=>?_) (m.one _ (aF G))
  refine .nil (Next.mod rfl ?_)
  refine RA.au 22 rfl (d+j) m G rfl rfl rfl (by kernel_rfl) (λd0=>?_)
  refine .sT 23 rfl ?_
  obtain⟨zz,b6⟩:∃u,(ys.set (d+r) x)[d+j]? =some u:=⟨_,aC (by rw[ac2];exact(ac1.1 G).1)⟩
  refine .bt (d+j) b5 b6 H (λb0 a8=>?_) (m.one _ (aF A))
  rw[<-bS A G]at a8
  refine .nil (Next.mod rfl ?_)
  refine RA.nil (by kernel_rfl) ?_
  refine aD<|.region<|.mo rfl<|.ag rfl<|.nil<|bi ?_
  ·have b3:ap c H x=true:=by
      have Q:(!ap c H x)=false:=M
      simpa using Q
   have b1:=hS (xs:=ys) (f:=d) (i:=r) (j:=j) (by omega) (by omega)
   exact aN (j,bn ys (d+r) (d+j),b0) ⟨⟨by simp only;omega,by simp only;omega⟩,a8,E.step (by omega) (by omega) (by omega) (by omega) (by omega),λS=>by
     simp only
     rw[b1]
     exact(V S).step a5 a7 a0 a6 (by omega) a1 (by rw[cQ];exact G) (by rw[cQ];exact A) b3 λa z O I M h4=>Y a z O I M (by rw[<-cQ];exact h4)⟩ (by simp only;omega) kE.c.c.c.c.c rH
end
end SCL
namespace SCL
section
variable{c:CP->CP->Int}{ok:CP->Prop}{f:FuncId}{caps:List Value} [e:aI prog f]
theorem iI(v:Value)(xs:List CP)(T:ay)(a b:Nat)(R:aA)(h:OS 24 4 bP v xs T)(a8:a<=b)(hb:b<=xs.length)(hl:xs.length<=1000000000)(M:cf prog f caps R (λp:CP=>Value.agg (bP p).toArray) c ok)(N:∀x∈xs,ok x)(G:SO (ap c)):
  Spec prog 319 [v,.int .i64 a,.int .i64 b,.func (.func f) #[] caps.toArray] R [T] λu H'=>∃T',H'=[T']/\u=.tuple #[]/\∃ys,OS 24 4 bP v ys T'/\RP a b xs ys/\SR (ap c) ys a b:=by
 have iv:=h.aL
 have a6:=G.rev
 obtain⟨n,hn⟩:∃n,b=a+n:=⟨b-a,by omega⟩
 subst hn
 refine Spec.body func319 rfl results319 ntmps319 rfl ?_
 refine .sr<|.mo rfl<|.ag rfl<|.z<|.ag rfl<|.z<|.mo rfl<|.mo rfl ?_
 refine .ia (n) .sub ?_
 refine .ag rfl<|.zs<|.sr<|.mo rfl ?_
 refine .q (.i64 ((n:Int)-1) .sub ⟨rfl,by omega,by omega⟩) ?_
 refine .q (.i64 (((n-1)/2:Nat):Int) .quo ⟨kB,by omega,by omega⟩) ?_
 refine .az rfl<|.block ?_
 refine .loop (X:=Nat×Int×List CP×ay) (λy=>(y.2.1=(y.1:Int)-1/\y.1<=n+1)/\OS 24 4 bP v y.2.2.1 y.2.2.2/\RP a (a+n) xs y.2.2.1/\dI (λx y=>ap c y x) (y.2.2.1.drop a) n y.1) (λy=>[(0,v),(3,.func (.func f) #[] caps.toArray),(8,iN a),(9,.int .i64 ((0:Nat):Int)),(10,iN n),(11,.int .i64 y.2.1)]) (λy=>[y.2.2.2]) (λy=>y.1) ((n-1)/2+1,(((n-1)/2:Nat):Int),xs,T) ⟨⟨by simp only;omega,by simp only;omega⟩,h,.refl _,λk V hk hp=>by simp only[aX]at hp;omega⟩ kE.c.c.c.c.c.c rH ?_
 rintro⟨m,z,ys,H⟩ ⟨⟨hz,hm⟩,C,s,B⟩
 simp only at hz hm C s B⊢
 have a9:=s.length
 refine .seq<|.sr<|.mo rfl<|.q .geq<|.zn ?_
 refine .cond rfl (λo=>?_) λo=>?_
 have a3:0<=z:=bo o
 obtain⟨k,rfl⟩:∃k,m=k+1:=⟨m-1,by omega⟩
 obtain rfl:z=(k:Int):=by omega
 refine .kn<|.seq<|.block<|.region<|.mo rfl<|.mo rfl<|.mo rfl<|.mo rfl<|.mo rfl ?_
 refine .bb (fL (c:=c) (ok:=ok) v ys H k n a _ C (by omega) (by omega) (by omega) M (λx e=>N x (s.perm.mem_iff.1 e)) G) (λu I F=>?_)
 obtain⟨rfl,g,d,l,r⟩:=F
 refine .nil<|bi<|aD<|.region<|.mo rfl ?_
 refine .q (.i64 ((k:Int)-1) .sub ⟨rfl,by omega,by omega⟩) ?_
 refine .ag rfl<|.nil ?_
 ·exact aN (k,(k:Int)-1,g,I) ⟨⟨rfl,by simp only;omega⟩,d,s.trans l,r B.hole⟩ (by simp only;omega) kE.c.c.c.c.c.c rH
 have E:m=0:=by have:=aY o;omega
 subst E
 refine .exit<|aP<|aV<|aR<|aD<|.sr<|.mo rfl ?_
 refine .q (.i64 ((n:Int)-1) .sub ⟨rfl,by omega,by omega⟩) ?_
 refine .az rfl<|.block ?_
 refine .loop (X:=Nat×Int×List CP×ay) (λy=>(y.2.1=(y.1:Int)-1/\y.1<=n)/\OS 24 4 bP v y.2.2.1 y.2.2.2/\RP a (a+n) xs y.2.2.1/\dI (λx y=>ap c y x) (y.2.2.1.drop a) y.1 0/\OX (ap c) y.2.2.1 a (a+n) a (a+y.1)) (λy=>[(0,v),(3,.func (.func f) #[] caps.toArray),(8,iN a),(9,.int .i64 ((0:Nat):Int)),(10,iN n),(12,.int .i64 y.2.1)]) (λy=>[y.2.2.2]) (λy=>y.1) (n,(n:Int)-1,ys,H) ⟨⟨rfl,ac0 _⟩,C,s,B,OX.start⟩ kE.c.c.c.c.c.c rH ?_
 rintro⟨m,Q,g,I⟩ ⟨⟨a4,a1⟩,d,l,r,D⟩
 simp only at a4 a1 d l r D⊢
 have b0:=l.length
 refine .seq<|.sr<|.mo rfl<|.q .geq<|.zn ?_
 refine .cond rfl (λA=>?_) λA=>?_
 have a3:0<=Q:=bo A
 obtain⟨k,rfl⟩:∃k,m=k+1:=⟨m-1,by omega⟩
 obtain rfl:Q=(k:Int):=by omega
 obtain⟨x,e⟩:∃x,g[a]? =some x:=⟨_,aC (by omega)⟩
 obtain⟨y,t⟩:∃x,g[a+k]? =some x:=⟨_,aC (by omega)⟩
 refine .kn<|.seq<|.block<|.seq<|.bF [17,19] mixed ?_
 refine .tO 0 rfl .move<|.tO 1 rfl .move<|.tK 2 rfl .move<|.tK 3 rfl .move<|.tK 4 rfl .move ?_
 refine .take 5 rfl (.i64 ((a+k:Nat):Int) .add ⟨by omega,by omega,by omega⟩) (by kernel_rfl) ?_
 refine .tO 6 rfl .move<|.tO 7 rfl .move<|.tO 8 rfl .move ?_
 refine .cH 9 rfl (.i64 ((a+k:Nat):Int) .add ⟨by omega,by omega,by omega⟩) (by kernel_rfl) ?_
 refine RA.au 10 rfl (a+k) d t rfl rfl rfl (by kernel_rfl) (λb1=>?_)
 refine .tO 11 rfl (.aE rfl)<|.tO 12 rfl .move<|.tO 13 rfl .move ?_
 refine RA.au 14 rfl (a) d e rfl rfl rfl (by kernel_rfl) (λb2=>?_)
 refine .tO 15 rfl (.aE rfl) ?_
 refine RA.au 16 rfl (a) d e rfl rfl rfl (by kernel_rfl) (λb3=>?_)
 refine .sT 17 rfl ?_
 refine .bt (a) d e y (λa7 a2=>?_) (d.one _ (aF t))
 refine .nil (Next.mod rfl ?_)
 refine RA.au 18 rfl (a+k) d t rfl rfl rfl (by kernel_rfl) (λb4=>?_)
 refine .sT 19 rfl ?_
 obtain⟨zz,a5⟩:∃u,(g.set (a) y)[a+k]? =some u:=⟨_,aC (by rw[ac2];exact(ac1.1 t).1)⟩
 refine .bt (a+k) a2 a5 x (λU O=>?_) (d.one _ (aF e))
 rw[<-bS e t]at O
 refine .nil (Next.mod rfl ?_)
 refine RA.nil (by kernel_rfl) ?_
 refine aD<|.region<|.mo rfl<|.mo rfl<|.mo rfl<|.mo rfl<|.mo rfl ?_
 have L:=hS (xs:=g) (f:=a) (i:=0) (j:=k) (by omega) (by omega)
 have J:=l.step (i:=a) (j:=a+k) (by omega) (by omega) (by omega) (by omega) (by omega)
 have a0:=OX.last (m:=a+k) (x:=x) D (by omega) (by omega) (by omega) e (λj w o W hw=>dI.top a6 r (by rw[ac6];omega) (x:=x) (by rw[cQ];exact e) (j-a) w (by omega) (by rw[cQ,show a+(j-a)=j by omega];exact hw))
 refine .bb (fL (c:=c) (ok:=ok) v (bn g a (a+k)) U 0 k a _ O (by omega) (by rw[eI];omega) (by rw[eI];omega) M (λx e=>N x (J.perm.mem_iff.1 e)) G) (λu S F=>?_)
 obtain⟨rfl,ws,Z,K,Y⟩:=F
 refine .nil<|bi<|aD<|.region<|.mo rfl ?_
 refine .q (.i64 ((k:Int)-1) .sub ⟨rfl,by omega,by omega⟩) ?_
 refine .ag rfl<|.nil ?_
 ·exact aN (k,(k:Int)-1,ws,S) ⟨⟨rfl,by simp only;omega⟩,Z,J.trans (K.mono (ac0 a) (by omega) (by rw[eI];omega)),Y (r.kX λj V hj=>by
   rw[Nat.add_zero]at L
   rw[L,cX (by rw[ac6];omega) (by rw[ac6];omega),ac3 (by omega),ac3 (by omega)]),a0.rp K (ac0 _) (by omega)⟩ (by simp only;omega) kE.c.c.c.c.c.c rH
 refine .exit<|aP<|aV<|aR<|ct _ .none rH ?_
 ·have E:m=0:=by have:=aY A;omega
  subst E
  exact⟨_,rfl,rfl,g,d,l,D.cZ λi j o A W=>by omega⟩
theorem iT(v:Value)(xs:List CP)(T:ay)(a b:Nat)(R:aA)(k:Value)(D:One k)(h:OS 24 4 bP v xs T)(B:a<b)(C:b<=xs.length)(E:xs.length<=1000000000):
  Spec prog 322 [v,.int .i64 a,.int .i64 b,k] R [T] λu H'=>∃T',H'=[T']/\u=.tuple #[]/\∃ys,OS 24 4 bP v ys T'/\RP a b xs ys:=by
 have H:=h.aL
 refine Spec.body func322 rfl results322 ntmps322 rfl ?_
 refine .sr<|.mo rfl<|.ag rfl<|.z<|.mo rfl ?_
 refine .ia (b-1) .sub ?_
 refine .az rfl<|.block ?_
 refine .loop (X:=Nat×Nat×List CP×ay) (λy=>(a<=y.1/\y.1<=y.2.1+1/\y.2.1<b)/\OS 24 4 bP v y.2.2.1 y.2.2.2/\RP a b xs y.2.2.1) (λy=>[(0,v),(8,iN y.1),(9,iN y.2.1)]) (λy=>[y.2.2.2]) (λy=>b-y.1) (a,b-1,xs,T) ⟨⟨ac0 _,by simp only;omega,by simp only;omega⟩,h,.refl _⟩ kE.c.c.c rH ?_
 rintro⟨i,j,ys,w⟩ ⟨⟨o,p,r⟩,d,g⟩
 simp only at o p r d g⊢
 have F:=g.length
 refine .seq<|.sr<|.mo rfl<|.mo rfl<|.q .lss<|.zn ?_
 refine .cond rfl (λl=>?_) λl=>?_
 have G:i<j:=de l
 obtain⟨x,e⟩:∃x,ys[i]? =some x:=⟨_,aC (by omega)⟩
 obtain⟨y,f⟩:∃x,ys[j]? =some x:=⟨_,aC (by omega)⟩
 refine .kn<|.block<|.seq<|.bF [13,15] mixed ?_
 refine .tO 0 rfl .move<|.tO 1 rfl .move<|.tK 2 rfl .move<|.tK 3 rfl .move<|.tO 4 rfl .move<|.tO 5 rfl .move ?_
 refine RA.au 6 rfl (j) d f rfl rfl rfl (by kernel_rfl) (λI=>?_)
 refine .tO 7 rfl (.aE rfl)<|.tO 8 rfl .move<|.tO 9 rfl .move ?_
 refine RA.au 10 rfl (i) d e rfl rfl rfl (by kernel_rfl) (λJ=>?_)
 refine .tO 11 rfl (.aE rfl) ?_
 refine RA.au 12 rfl (i) d e rfl rfl rfl (by kernel_rfl) (λK=>?_)
 refine .sT 13 rfl ?_
 refine .bt (i) d e y (λA s=>?_) (d.one _ (aF f))
 refine .nil (Next.mod rfl ?_)
 refine RA.au 14 rfl (j) d f rfl rfl rfl (by kernel_rfl) (λL=>?_)
 refine .sT 15 rfl ?_
 obtain⟨M,t⟩:∃u,(ys.set (i) y)[j]? =some u:=⟨_,aC (by rw[ac2];exact(ac1.1 f).1)⟩
 refine .bt (j) s t x (λn m=>?_) (d.one _ (aF e))
 rw[<-bS e f]at m
 refine .nil (Next.mod rfl ?_)
 refine RA.nil (by kernel_rfl) ?_
 refine aD<|.sr<|.mo rfl ?_
 refine .ia (i+1) .add ?_
 refine .az rfl<|.region<|.mo rfl ?_
 refine .ia (j-1) .sub ?_
 refine .ag rfl<|.nil<|bi ?_
 ·exact aN (i+1,j-1,bn ys i j,n) ⟨⟨by simp only;omega,by simp only;omega,by simp only;omega⟩,m,g.step (by omega) (by omega) (by omega) (by omega) (by omega)⟩ (by simp only;omega) kE.c.c.c rH
 refine .exit<|aP<|aV<|aR<|ct _ .none rH ?_
 ·exact⟨_,rfl,rfl,ys,d,g⟩
theorem iF(v:Value)(xs:List CP)(T:ay)(a b:Nat)(R:aA)(s:Value)(V:One s)(h:OS 24 4 bP v xs T)(S:a<=b)(U:b<=xs.length)(Y:xs.length<=1000000000):
  Spec prog 320 [v,.int .i64 a,.int .i64 b,s] R [T] λu H'=>∃T',H'=[T']/\u=.tuple #[]/\∃ys,OS 24 4 bP v ys T'/\RP a b xs ys:=by
 have iv:=h.aL
 obtain⟨n,J⟩:∃n,b=a+n:=⟨b-a,by omega⟩
 subst J
 refine Spec.body func320 rfl results320 ntmps320 rfl ?_
 refine .sr<|.mo rfl<|.mo rfl ?_
 refine .ia (n) .sub ?_
 refine .ag rfl<|.z<|.mo rfl<|.q .geq<|.zn ?_
 refine .cond rfl (λt=>?_) λt=>?_
 have a2:8<=n:=by have:=bo t;omega
 obtain⟨q,D⟩:∃q,q=n/4:=⟨_,rfl⟩
 refine .sr<|.mo rfl<|.q .ez ?_
 refine .hK (λe=>?_)
 refine .cO rfl rfl<|.z<|.mo rfl ?_
 refine .bc (ld n (by omega) (by omega) _) (λu r=>?_)
 obtain⟨j,rfl,a0,a1⟩:=r
 refine .ag rfl<|.z<|.mo rfl<|.mo rfl ?_
 refine .q (.i64 ((q:Nat):Int) .quo ⟨by rw[D,ac5 (by omega)];omega,by omega,by omega⟩) ?_
 refine .ia (q*2) .mul ?_
 refine .ia (a+q*2) .add ?_
 refine .ia (a+q*2-1) .sub ?_
 refine .az rfl<|.block ?_
 refine .loop (X:=Nat×Int×List CP×ay) (λy=>(a+q*2-1<=y.1/\y.1<=a+q*2+2)/\OS 24 4 bP v y.2.2.1 y.2.2.2/\RP a (a+n) xs y.2.2.1) (λy=>[(0,v),(1,iN a),(8,iN n),(9,pT e),(10,.int .u64 (j:Nat)),(11,iN y.1)]) (λy=>[bl e [.int .u64 y.2.1] 508,y.2.2.2]) (λy=>a+q*2+2-y.1) (a+q*2-1,_,xs,T) ⟨⟨ac0 _,by simp only;omega⟩,h,.refl _⟩ kE.c.c.c.c.c.c rH ?_
 rintro⟨i,z,ys,F⟩ ⟨⟨H,I⟩,d,k⟩
 simp only at H I d k⊢
 have Z:=k.length
 refine .seq<|.sr<|.mo rfl<|.mo rfl<|.mo rfl ?_
 refine .q (.i64 ((q:Nat):Int) .quo ⟨by rw[D,ac5 (by omega)];omega,by omega,by omega⟩) ?_
 refine .ia (q*2) .mul ?_
 refine .ia (a+q*2) .add ?_
 refine .ia (a+q*2+1) .add ?_
 refine .q .leq<|.zn ?_
 refine .cond rfl (λA=>?_) λA=>?_
 have W:i<=a+q*2+1:=by have:=bo A;omega
 refine .kn<|.seq<|.block<|.sr ?_
 refine .bb (ln e z _) (λu O r=>?_)
 obtain⟨l,rfl,rfl⟩:=r
 refine .mo rfl ?_
 refine .q (bd.cast (v':=.int .u64 ((j-1:Nat):Int)) .sub (by rw[gr (by omega) (by omega)];congr 1;omega)) ?_
 have B:=kH (z:=l) (q:=((j-1:Nat):Int)) (by omega) (by omega)
 obtain⟨o,C⟩:∃o:Nat,IntKind.u64.wrap (BitVec.ofInt IntKind.u64.bits l&&&BitVec.ofInt IntKind.u64.bits ((j-1:Nat):Int)).toNat=(o:Int):=⟨_,(Int.toNat_of_nonneg B.1).symm⟩
 refine .q (bd.cast (v':=.int .u64 ((o:Nat):Int)) .kG (by rw[C])) ?_
 rw[C]at B
 refine .q (bd.cast (v':=.int .i64 ((o:Nat):Int)) .ez (by rw[lE (by omega) (by omega)])) ?_
 refine .ag rfl<|.zs ?_
 refine bp.cut (X:=Nat) (λp=>p<n) (λp=>[(0,v),(1,iN a),(8,iN n),(9,pT e),(10,.int .u64 (j:Nat)),(11,iN i),(12,iN p)]) (λ_=>[bl e [.int .u64 l] 508,F]) ?_ ?_
 refine .sr<|.mo rfl<|.mo rfl<|.q .geq<|.zn ?_
 refine .cond rfl (λm=>?_) λm=>?_
 have K:n<=o:=by have:=bo m;omega
 refine .region<|.mo rfl<|.mo rfl ?_
 refine .ia (o-n) .sub ?_
 refine .ag rfl<|.nil ?_
 ·first
   |exact ax (o-n) (by omega) kE.c.c.c.c.c.c.c rH
   |exact ax o (by omega) kE.c.c.c.c.c.c.c rH
 have K:o<n:=by have:=aY m;omega
 refine .skip ?_
 ·first
   |exact ax (o-n) (by omega) kE.c.c.c.c.c.c.c rH
   |exact ax o (by omega) kE.c.c.c.c.c.c.c rH
 intro y M
 have a3:y<n:=M
 obtain⟨p,rfl⟩:∃p,p=y:=⟨_,rfl⟩
 obtain⟨x,g⟩:∃x,ys[i]? =some x:=⟨_,aC (by omega)⟩
 obtain⟨w,f⟩:∃x,ys[a+p]? =some x:=⟨_,aC (by omega)⟩
 refine aD<|.bF [17,19] mixed ?_
 refine .tO 0 rfl .move<|.tO 1 rfl .move<|.tK 2 rfl .move<|.tK 3 rfl .move<|.tK 4 rfl .move ?_
 refine .take 5 rfl (.i64 ((a+p:Nat):Int) .add ⟨by omega,by omega,by omega⟩) (by kernel_rfl) ?_
 refine .tO 6 rfl .move<|.tO 7 rfl .move<|.tO 8 rfl .move ?_
 refine .cH 9 rfl (.i64 ((a+p:Nat):Int) .add ⟨by omega,by omega,by omega⟩) (by kernel_rfl) ?_
 refine RA.au 10 rfl (a+p) d f rfl rfl rfl (by kernel_rfl) (λa4=>?_)
 refine .tO 11 rfl (.aE rfl)<|.tO 12 rfl .move<|.tO 13 rfl .move ?_
 refine RA.au 14 rfl (i) d g rfl rfl rfl (by kernel_rfl) (λa5=>?_)
 refine .tO 15 rfl (.aE rfl) ?_
 refine RA.au 16 rfl (i) d g rfl rfl rfl (by kernel_rfl) (λa6=>?_)
 refine .sT 17 rfl ?_
 refine .bt (i) d g w (λQ L=>?_) (d.one _ (aF f))
 refine .nil (Next.mod rfl ?_)
 refine RA.au 18 rfl (a+p) d f rfl rfl rfl (by kernel_rfl) (λa7=>?_)
 refine .sT 19 rfl ?_
 obtain⟨zz,N⟩:∃u,(ys.set (i) w)[a+p]? =some u:=⟨_,aC (by rw[ac2];exact(ac1.1 f).1)⟩
 refine .bt (a+p) L N x (λG E=>?_) (d.one _ (aF g))
 rw[<-bS g f]at E
 refine .nil (Next.mod rfl ?_)
 refine RA.nil (by kernel_rfl) ?_
 refine bi<|aD<|.region<|.mo rfl ?_
 refine .ia (i+1) .add ?_
 refine .ag rfl<|.nil ?_
 ·exact aN (i+1,l,bn ys i (a+p),G) ⟨⟨by simp only;omega,by simp only;omega⟩,E,k.step (by omega) (by omega) (by omega) (by omega) (by omega)⟩ (by simp only;omega) kE.c.c.c.c.c.c rH
 refine .exit<|aP<|aV<|aR<|ct _ .none (cu [1]) ?_
 ·exact⟨_,rfl,rfl,ys,d,k⟩
 refine .skip<|ct _ .none rH ?_
 ·exact⟨_,rfl,rfl,xs,h,.refl _⟩
end
end SCL
namespace SCL
section
variable{c:CP->CP->Int}{ok:CP->Prop}{f:FuncId}{caps:List Value} [e:aI prog f]
theorem iQ(v:Value)(xs:List CP)(T:ay)(a b:Nat)(R:aA)(h:OS 24 4 bP v xs T)(b5:a<b)(V:b<=xs.length)(hl:xs.length<=1000000000)(hf:cf prog f caps R (λp:CP=>Value.agg (bP p).toArray) c ok)(W:∀x∈xs,ok x)(so:SO (ap c))(c4:LB (ap c) xs a b):
  Spec prog 323 [v,.int .i64 a,.int .i64 b,.func (.func f) #[] caps.toArray] R [T] λu H'=>∃T',H'=[T']/\∃ys m,u=.bool m/\OS 24 4 bP v ys T'/\RP a b xs ys/\(m=true->SR (ap c) ys a b):=by
 have iv:=h.aL
 refine Spec.body func323 rfl results323 ntmps323 rfl ?_
 refine .sr<|.ag rfl<|.z<|.mo rfl ?_
 refine .ia (a+1) .add ?_
 refine .ag rfl<|.zs<|.sr<|.az rfl<|.block ?_
 refine .loop (X:=Nat×Nat×List CP×ay) (λy=>(y.1<=5/\a+1<=y.2.1/\y.2.1<=b)/\OS 24 4 bP v y.2.2.1 y.2.2.2/\RP a b xs y.2.2.1/\SR (ap c) y.2.2.1 a y.2.1) (λy=>[(0,v),(1,iN a),(2,iN b),(3,.func (.func f) #[] caps.toArray),(9,iN y.2.1),(10,iN y.1)]) (λy=>[y.2.2.2]) (λy=>5-y.1) (0,a+1,xs,T) ⟨⟨by omega,ac0 _,b5⟩,h,.refl _,λi j S U M=>by simp only at M;omega⟩ kE.c.c.c.c.c.c rH ?_
 rintro⟨n,i,ys,T1⟩ ⟨⟨hn,I,J⟩,B,N,E⟩
 simp only at hn I J B N E⊢
 have c8:=N.length
 refine .seq<|.sr<|.mo rfl<|.q .lss<|.zn ?_
 refine .cond rfl (λS=>?_) λS=>?_
 have d1:n<5:=de S
 refine .kn<|.seq<|.block<|.seq ?_
 refine bp.cut (X:=Nat) (λi=>(a+1<=i/\i<=b)/\SR (ap c) ys a i) (λi=>[(0,v),(1,iN a),(2,iN b),(3,.func (.func f) #[] caps.toArray),(9,iN i),(10,iN n)]) (λ_=>[T1]) ?_ ?_
 refine .block ?_
 refine .loop (X:=Nat) (λi=>(a+1<=i/\i<=b)/\SR (ap c) ys a i) (λi=>[(0,v),(1,iN a),(2,iN b),(3,.func (.func f) #[] caps.toArray),(9,iN i),(10,iN n)]) (λ_=>[T1]) (λi=>b-i) i ⟨⟨I,J⟩,E⟩ kE.c.c.c.c.c.c rH ?_
 clear I J E
 rintro i ⟨⟨I,J⟩,E⟩
 refine .seq<|.seq ?_
 refine .bQ 14 mixed (by kernel_rfl) ?_
 conv=>arg 6;dsimp only[List.take]
 refine .mo rfl<|.mo rfl<|.q .lss<|.mo rfl ?_
 refine .split (t:=22) rfl (λe=>?_) (λe=>?_)
 have c3:i<b:=by have:=bo e;omega
 obtain⟨x,F⟩:∃x,ys[i]? =some x:=⟨_,aC (by omega)⟩
 obtain⟨y,D⟩:∃x,ys[i-1]? =some x:=⟨_,aC (by omega)⟩
 have c6:=W x (N.perm.mem_iff.1 (aF F))
 have c7:=W y (N.perm.mem_iff.1 (aF D))
 refine .gT e<|.mo rfl<|.gT e<|.mo rfl<|.gT e<|.mo rfl<|.gT e ?_
 refine .au i B F (λe1=>?_)
 refine .gT e<|.q (.aE rfl)<|.gT e<|.mo rfl<|.gT e<|.mo rfl<|.gT e ?_
 refine .ia (i-1) .sub ?_
 refine .gT e ?_
 refine .au (i-1) B D (λe2=>?_)
 refine .gT e<|.q (.aE rfl)<|.nil<|.gT e ?_
 refine .cj (first:=[]) (captured:=caps) (vs:=[(λp:CP=>Value.agg (bP p).toArray) x,(λp:CP=>Value.agg (bP p).toArray) y]) (hf x y c6 c7 _ (λb o V=>.inl V)) (λu H=>?_)
 subst H
 refine .gT e<|.q .lss<|.gT e<|.q .not<|.q (.bu e) ?_
 refine .zn ?_
 refine .cond rfl (λU=>?_) λU=>?_
 refine .kn<|.block<|.region<|.mo rfl ?_
 refine .ia (i+1) .add ?_
 refine .ag rfl<|.nil<|bi ?_
 ·have c5:ap c x y=false:=by
   have b8:(!ap c x y)=true:=U
   simpa using b8
  exact aN (i+1) ⟨⟨by omega,by omega⟩,E.snoc so (by omega) (by omega) λu w H hw=>by
   rw[D]at H;rw[F]at hw;cases H;cases hw;exact c5⟩ (by omega) kE.c.c.c.c.c.c rH
 refine .exit<|aP<|aV<|aR ?_
 exact ax i ⟨⟨I,J⟩,E⟩ kE.c.c.c.c.c.c rH
 refine .gF e<|.gF e<|.gF e<|.gF e<|.gF e<|.gF e<|.gF e<|.gF e<|.gF e<|.gF e<|.nil<|.gF e<|.gF e<|.gF e<|.q (.bq e) ?_
 refine .zn<|.bB<|.exit<|aP<|aV<|aR ?_
 exact ax i ⟨⟨I,J⟩,E⟩ kE.c.c.c.c.c.c rH
 intro x F
 obtain⟨d,b6⟩:∃d,d=x:=⟨_,rfl⟩
 rw[<-b6]at F⊢
 clear b6 x I J E
 obtain⟨⟨I,J⟩,E⟩:=F
 refine aD<|.seq<|.sr<|.mo rfl<|.mo rfl<|.q .cA<|.zn ?_
 refine .cond rfl (λM=>?_) λM=>?_
 refine .sr<|.az rfl ?_
 refine .ret (aT (bg (aT (cc (bg (aT (aZ _ (.one (.tmp rfl)) rH ?_)))))))
 ·have c2:d=b:=by
   have b9:((d:Int)=b):=by simpa using M
   omega
  exact⟨_,rfl,ys,true,rfl,B,N,λ_=>c2▸E⟩
 have c3:d<b:=by
  have b9:¬((d:Int)=b):=by simpa using M
  omega
 obtain⟨x,F⟩:∃x,ys[d]? =some x:=⟨_,aC (by omega)⟩
 obtain⟨y,D⟩:∃x,ys[d-1]? =some x:=⟨_,aC (by omega)⟩
 refine .kn<|.seq<|.sr<|.mo rfl<|.mo rfl ?_
 refine .ia (b-a) .sub ?_
 refine .q .lss<|.zn ?_
 refine .cond rfl (λh4=>?_) λh4=>?_
 refine .sr<|.az rfl ?_
 refine .ret (aT (bg (aT (cc (bg (aT (aZ _ (.one (.tmp rfl)) rH ?_)))))))
 ·exact⟨_,rfl,ys,false,rfl,B,N,λh=>by cases h⟩
 refine .kn<|.seq<|.bF [15,17] mixed ?_
 refine .tO 0 rfl .move<|.tO 1 rfl .move<|.tK 2 rfl .move<|.tK 3 rfl .move ?_
 refine .take 4 rfl (.i64 ((d-1:Nat):Int) .sub ⟨by omega,by omega,by omega⟩) (by kernel_rfl) ?_
 refine .tO 5 rfl .move<|.tO 6 rfl .move ?_
 refine .cH 7 rfl (.i64 ((d-1:Nat):Int) .sub ⟨by omega,by omega,by omega⟩) (by kernel_rfl) ?_
 refine RA.au 8 rfl (d-1) B D rfl rfl rfl (by kernel_rfl) (λe3=>?_)
 refine .tO 9 rfl (.aE rfl)<|.tO 10 rfl .move<|.tO 11 rfl .move ?_
 refine RA.au 12 rfl (d) B F rfl rfl rfl (by kernel_rfl) (λe4=>?_)
 refine .tO 13 rfl (.aE rfl) ?_
 refine RA.au 14 rfl (d) B F rfl rfl rfl (by kernel_rfl) (λe5=>?_)
 refine .sT 15 rfl ?_
 refine .bt (d) B F y (λb1 a0=>?_) (B.one _ (aF D))
 refine .nil (Next.mod rfl ?_)
 refine RA.au 16 rfl (d-1) B D rfl rfl rfl (by kernel_rfl) (λe6=>?_)
 refine .sT 17 rfl ?_
 obtain⟨zz,a1⟩:∃u,(ys.set (d) y)[d-1]? =some u:=⟨_,aC (by rw[ac2];exact(ac1.1 D).1)⟩
 refine .bt (d-1) a0 a1 x (λL G=>?_) (B.one _ (aF F))
 rw[<-bS F D]at G
 refine .nil (Next.mod rfl ?_)
 refine RA.nil (by kernel_rfl) ?_
 have a3:=N.step (i:=d) (j:=d-1) (by omega) (by omega) (by omega) (by omega) (by omega)
 have c0:=E.lB (by omega)
 clear E
 refine aD<|.seq ?_
 refine bp.cut (X:=List CP×ay) (λz=>OS 24 4 bP v z.1 z.2/\RP a b xs z.1/\SR (ap c) z.1 a d) (λ_=>[(0,v),(1,iN a),(2,iN b),(3,.func (.func f) #[] caps.toArray),(9,iN d),(10,iN n)]) (λz=>[z.2]) ?_ ?_
 refine .sr<|.mo rfl<|.mo rfl ?_
 refine .ia (d-a) .sub ?_
 refine .q .geq<|.zn ?_
 refine .cond rfl (λh5=>?_) λh5=>?_
 refine .sr<|.mo rfl ?_
 refine .ia (d-1) .sub ?_
 refine .az rfl<|.block ?_
 refine .loop (X:=Nat×List CP×ay) (λz=>(a<=z.1/\z.1<=d-1)/\OS 24 4 bP v z.2.1 z.2.2/\RP a b xs z.2.1/\fg (ap c) z.2.1 a z.1 d) (λz=>[(0,v),(1,iN a),(2,iN b),(3,.func (.func f) #[] caps.toArray),(9,iN d),(10,iN n),(11,iN z.1)]) (λz=>[z.2.2]) (λz=>z.1) (d-1,bn ys d (d-1),L) ⟨⟨by simp only;omega,ac0 _⟩,G,a3,c0⟩ kE.c.c.c.c.c.c.c rH ?_
 rintro⟨q,A,K⟩ ⟨⟨a7,a8⟩,g,r,a2⟩
 simp only at a7 a8 g r a2⊢
 have c9:=r.length
 refine .seq<|.sr<|.mo rfl<|.q .geq<|.zn ?_
 refine .cond rfl (λh6=>?_) λh6=>?_
 have d2:1<=q:=by have:=bo h6;omega
 obtain⟨s,k⟩:∃x,A[q]? =some x:=⟨_,aC (by omega)⟩
 obtain⟨t,l⟩:∃x,A[q-1]? =some x:=⟨_,aC (by omega)⟩
 have a9:=W s (r.perm.mem_iff.1 (aF k))
 have b0:=W t (r.perm.mem_iff.1 (aF l))
 refine .kn<|.seq<|.block<|.seq<|.seq ?_
 refine .bQ 10 mixed (by kernel_rfl) ?_
 conv=>arg 6;dsimp only[List.take]
 refine .mo rfl<|.mo rfl<|.mo rfl ?_
 refine .au q g k (λe7=>?_)
 refine .q (.aE rfl)<|.mo rfl<|.mo rfl ?_
 refine .ia (q-1) .sub ?_
 refine .au (q-1) g l (λe8=>?_)
 refine .q (.aE rfl)<|.nil ?_
 refine .cj (first:=[]) (captured:=caps) (vs:=[(λp:CP=>Value.agg (bP p).toArray) s,(λp:CP=>Value.agg (bP p).toArray) t]) (hf s t a9 b0 _ (λb o V=>.inl V)) (λu H=>?_)
 subst H
 refine .q .lss<|.q .not<|.zn ?_
 refine .cond rfl (λh7=>?_) λh7=>?_
 have a4:SR (ap c) A a d:=a2.done so (by omega) (by omega) (by
  have a5:(!ap c s t)=true:=h7
  rcases ada a q with hh|hh
  ·exact .inr ⟨hh,λu w H hw=>by rw[l]at H;rw[k]at hw;cases H;cases hw;simpa using a5⟩
  ·exact .inl (by omega))
 refine .exit (aP (dn (aP (aV (aR ?_)))))
 ·first
   |exact ax (A,K) ⟨g,r,a4⟩ kE.c.c.c.c.c.c rH
   |exact ax (bn ys d (d-1),L) ⟨G,a3,λp q S U M=>by have:=aY h5;omega⟩ kE.c.c.c.c.c.c rH
 have a6:ap c s t=true:=by
  have a5:(!ap c s t)=false:=h7
  simpa using a5
 have c1:a<q:=by
  rcases ada a q with hh|hh
  ·exact hh
  ·have ea:q=a:=by omega
   subst ea
   have:=(c4.rp r) (by omega) q (ac0 _) b5 t s l k
   rw[this]at a6;cases a6
 refine .kn<|.bF [15,17] mixed ?_
 refine .tO 0 rfl .move<|.tO 1 rfl .move<|.tK 2 rfl .move<|.tK 3 rfl .move ?_
 refine .take 4 rfl (.i64 ((q-1:Nat):Int) .sub ⟨by omega,by omega,by omega⟩) (by kernel_rfl) ?_
 refine .tO 5 rfl .move<|.tO 6 rfl .move ?_
 refine .cH 7 rfl (.i64 ((q-1:Nat):Int) .sub ⟨by omega,by omega,by omega⟩) (by kernel_rfl) ?_
 refine RA.au 8 rfl (q-1) g l rfl rfl rfl (by kernel_rfl) (λe9=>?_)
 refine .tO 9 rfl (.aE rfl)<|.tO 10 rfl .move<|.tO 11 rfl .move ?_
 refine RA.au 12 rfl (q) g k rfl rfl rfl (by kernel_rfl) (λf0=>?_)
 refine .tO 13 rfl (.aE rfl) ?_
 refine RA.au 14 rfl (q) g k rfl rfl rfl (by kernel_rfl) (λf1=>?_)
 refine .sT 15 rfl ?_
 refine .bt (q) g k t (λb1 a0=>?_) (g.one _ (aF l))
 refine .nil (Next.mod rfl ?_)
 refine RA.au 16 rfl (q-1) g l rfl rfl rfl (by kernel_rfl) (λd4=>?_)
 refine .sT 17 rfl ?_
 obtain⟨zz,a1⟩:∃u,(A.set (q) t)[q-1]? =some u:=⟨_,aC (by rw[ac2];exact(ac1.1 l).1)⟩
 refine .bt (q-1) a0 a1 s (λL G=>?_) (g.one _ (aF k))
 rw[<-bS k l]at G
 refine .nil (Next.mod rfl ?_)
 refine RA.nil (by kernel_rfl) ?_
 refine bi<|aD<|.region<|.mo rfl ?_
 refine .ia (q-1) .sub ?_
 refine .ag rfl<|.nil ?_
 ·exact aN (q-1,bn A q (q-1),L) ⟨⟨by simp only;omega,by simp only;omega⟩,G,r.step (by omega) (by omega) (by omega) (by omega) (by omega),a2.step so (by omega) (by omega) c1 k l a6⟩ (by simp only;omega) kE.c.c.c.c.c.c.c rH
 have a4:SR (ap c) A a d:=a2.done so (by omega) (by omega) (.inl (by have:=aY h6;omega))
 refine .exit<|aP<|aV<|aR ?_
 ·first
   |exact ax (A,K) ⟨g,r,a4⟩ kE.c.c.c.c.c.c rH
   |exact ax (bn ys d (d-1),L) ⟨G,a3,λp q S U M=>by have:=aY h5;omega⟩ kE.c.c.c.c.c.c rH
 refine .skip ?_
 ·first
   |exact ax (A,K) ⟨g,r,a4⟩ kE.c.c.c.c.c.c rH
   |exact ax (bn ys d (d-1),L) ⟨G,a3,λp q S U M=>by have:=aY h5;omega⟩ kE.c.c.c.c.c.c rH
 intro y D
 obtain⟨A,K⟩:=y
 obtain⟨g,r,Y⟩:=D
 simp only at g r Y⊢
 refine aD ?_
 refine bp.cut (X:=List CP×ay) (λz=>OS 24 4 bP v z.1 z.2/\RP a b xs z.1/\SR (ap c) z.1 a d) (λ_=>[(0,v),(1,iN a),(2,iN b),(3,.func (.func f) #[] caps.toArray),(9,iN d),(10,iN n)]) (λz=>[z.2]) ?_ ?_
 refine .sr<|.mo rfl<|.mo rfl ?_
 refine .ia (b-d) .sub ?_
 refine .q .geq<|.zn ?_
 refine .cond rfl (λh8=>?_) λh8=>?_
 refine .sr<|.mo rfl ?_
 refine .ia (d+1) .add ?_
 refine .az rfl<|.block ?_
 refine .loop (X:=Nat×List CP×ay) (λz=>(d+1<=z.1/\z.1<=b)/\OS 24 4 bP v z.2.1 z.2.2/\RP a b xs z.2.1/\SR (ap c) z.2.1 a d) (λz=>[(0,v),(1,iN a),(2,iN b),(3,.func (.func f) #[] caps.toArray),(9,iN d),(10,iN n),(12,iN z.1)]) (λz=>[z.2.2]) (λz=>b-z.1) (d+1,A,K) ⟨⟨ac0 _,by simp only;omega⟩,g,r,Y⟩ kE.c.c.c.c.c.c.c rH ?_
 rintro⟨q,Q,T4⟩ ⟨⟨a7,a8⟩,C,O,Z⟩
 simp only at a7 a8 C O Z⊢
 have d0:=O.length
 refine .seq<|.sr<|.mo rfl<|.mo rfl<|.q .lss<|.zn ?_
 refine .cond rfl (λh9=>?_) λh9=>?_
 have d3:q<b:=de h9
 obtain⟨s,k⟩:∃x,Q[q]? =some x:=⟨_,aC (by omega)⟩
 obtain⟨t,l⟩:∃x,Q[q-1]? =some x:=⟨_,aC (by omega)⟩
 have a9:=W s (O.perm.mem_iff.1 (aF k))
 have b0:=W t (O.perm.mem_iff.1 (aF l))
 refine .kn<|.seq<|.block<|.seq<|.seq ?_
 refine .bQ 10 mixed (by kernel_rfl) ?_
 conv=>arg 6;dsimp only[List.take]
 refine .mo rfl<|.mo rfl<|.mo rfl ?_
 refine .au q C k (λd5=>?_)
 refine .q (.aE rfl)<|.mo rfl<|.mo rfl ?_
 refine .ia (q-1) .sub ?_
 refine .au (q-1) C l (λd6=>?_)
 refine .q (.aE rfl)<|.nil ?_
 refine .cj (first:=[]) (captured:=caps) (vs:=[(λp:CP=>Value.agg (bP p).toArray) s,(λp:CP=>Value.agg (bP p).toArray) t]) (hf s t a9 b0 _ (λb o V=>.inl V)) (λu H=>?_)
 subst H
 refine .q .lss<|.q .not<|.zn ?_
 refine .cond rfl (λb7=>?_) λb7=>?_
 refine .exit (aP (dn (aP (aV (aR ?_)))))
 ·first
   |exact ax (Q,T4) ⟨C,O,Z⟩ kE.c.c.c.c.c.c rH
   |exact ax (A,K) ⟨g,r,Y⟩ kE.c.c.c.c.c.c rH
 refine .kn<|.bF [15,17] mixed ?_
 refine .tO 0 rfl .move<|.tO 1 rfl .move<|.tK 2 rfl .move<|.tK 3 rfl .move ?_
 refine .take 4 rfl (.i64 ((q-1:Nat):Int) .sub ⟨by omega,by omega,by omega⟩) (by kernel_rfl) ?_
 refine .tO 5 rfl .move<|.tO 6 rfl .move ?_
 refine .cH 7 rfl (.i64 ((q-1:Nat):Int) .sub ⟨by omega,by omega,by omega⟩) (by kernel_rfl) ?_
 refine RA.au 8 rfl (q-1) C l rfl rfl rfl (by kernel_rfl) (λd7=>?_)
 refine .tO 9 rfl (.aE rfl)<|.tO 10 rfl .move<|.tO 11 rfl .move ?_
 refine RA.au 12 rfl (q) C k rfl rfl rfl (by kernel_rfl) (λd8=>?_)
 refine .tO 13 rfl (.aE rfl) ?_
 refine RA.au 14 rfl (q) C k rfl rfl rfl (by kernel_rfl) (λd9=>?_)
 refine .sT 15 rfl ?_
 refine .bt (q) C k t (λb1 a0=>?_) (C.one _ (aF l))
 refine .nil (Next.mod rfl ?_)
 refine RA.au 16 rfl (q-1) C l rfl rfl rfl (by kernel_rfl) (λe0=>?_)
 refine .sT 17 rfl ?_
 obtain⟨zz,a1⟩:∃u,(Q.set (q) t)[q-1]? =some u:=⟨_,aC (by rw[ac2];exact(ac1.1 l).1)⟩
 refine .bt (q-1) a0 a1 s (λL G=>?_) (C.one _ (aF k))
 rw[<-bS k l]at G
 refine .nil (Next.mod rfl ?_)
 refine RA.nil (by kernel_rfl) ?_
 refine bi<|aD<|.region<|.mo rfl ?_
 refine .ia (q+1) .add ?_
 refine .ag rfl<|.nil ?_
 ·exact aN (q+1,bn Q q (q-1),L) ⟨⟨by simp only;omega,by simp only;omega⟩,G,O.step (by omega) (by omega) (by omega) (by omega) (by omega),Z.lC (by omega) (by omega) (by omega) (by omega)⟩ (by simp only;omega) kE.c.c.c.c.c.c.c rH
 refine .exit<|aP<|aV<|aR ?_
 ·first
   |exact ax (Q,T4) ⟨C,O,Z⟩ kE.c.c.c.c.c.c rH
   |exact ax (A,K) ⟨g,r,Y⟩ kE.c.c.c.c.c.c rH
 refine .skip ?_
 ·first
   |exact ax (Q,T4) ⟨C,O,Z⟩ kE.c.c.c.c.c.c rH
   |exact ax (A,K) ⟨g,r,Y⟩ kE.c.c.c.c.c.c rH
 intro y D
 obtain⟨us,T5⟩:=y
 obtain⟨b2,b3,b4⟩:=D
 simp only at b2 b3 b4⊢
 refine bi<|aD<|.region<|.mo rfl ?_
 refine .ia (n+1) .add ?_
 refine .ag rfl<|.nil ?_
 ·exact aN (n+1,d,us,T5) ⟨⟨by simp only;omega,I,J⟩,b2,b3,b4⟩ (by simp only;omega) kE.c.c.c.c.c.c rH
 refine .exit<|aP<|aV<|aR<|aD<|.sr<|.az rfl ?_
 refine .ret (aZ _ (.one (.tmp rfl)) rH ?_)
 ·exact⟨_,rfl,ys,false,rfl,B,N,λh=>by cases h⟩
end
end SCL
namespace SCL
section
variable{c:CP->CP->Int}{ok:CP->Prop}{f:FuncId}{caps:List Value} [e:aI prog f]
theorem eQ(v:Value)(xs:List CP)(a b lo d g:Nat)(s:Int)(R:aA)(h:RS R 4 bP v xs)(i:lo<=a/\a<d)(e:lo<=b/\b<d)(A:d<=xs.length)(n:cf prog f caps R (λp:CP=>Value.agg (bP p).toArray) c ok)(j:∀x∈xs,ok x):
  Spec prog 447 [v,.int .i64 a,.int .i64 b,pT g,.func (.func f) #[] caps.toArray] R [bl g [.int .i64 s] 3] λu H'=>∃T',H'=[T']/\∃(s':Int) (p q:Nat),u=.tuple [.int .i64 p,.int .i64 q].toArray/\T'=(bl g [.int .i64 s'] 3)/\(lo<=p/\p<d)/\(lo<=q/\q<d):=by
 have B:=h.aL
 obtain⟨x,k⟩:∃x,xs[b]? =some x:=⟨_,aC (by omega)⟩
 obtain⟨y,l⟩:∃x,xs[a]? =some x:=⟨_,aC (by omega)⟩
 have t:=j x (aF k)
 have w:=j y (aF l)
 refine Spec.body func447 rfl results447 ntmps447 rfl ?_
 refine .sr<|.ag rfl<|.ag rfl<|.zs<|.seq ?_
 refine .bQ 9 mixed (by kernel_rfl) ?_
 conv=>arg 6;dsimp only[List.take]
 refine .mo rfl<|.mo rfl<|.mo rfl ?_
 refine .cR b h k (λC=>?_)
 refine .q (.aE rfl)<|.mo rfl<|.mo rfl ?_
 refine .cR a h l (λD=>?_)
 refine .q (.aE rfl)<|.nil ?_
 refine .cj (first:=[]) (captured:=caps) (vs:=[(λp:CP=>Value.agg (bP p).toArray) x,(λp:CP=>Value.agg (bP p).toArray) y]) (n x y t w _ (λb o e=>.inl e)) (λu r=>?_)
 subst r
 refine .q .lss<|.zn ?_
 refine .cond rfl (λm=>?_) λm=>?_
 refine .sr<|.mo rfl<|.nc rfl<|.lo rfl<|.q .add ?_
 refine .nc rfl<|.cO rfl rfl<|.z<|.mo rfl<|.mo rfl<|.ag rfl<|.az rfl ?_
 refine .ret (aT (aZ _ (.two (.tmp rfl) (.tmp rfl)) rH ?_))
 ·exact⟨_,rfl,_,b,a,rfl,rfl,e,i⟩
 refine .kn<|.sr<|.mo rfl<|.mo rfl<|.ag rfl<|.az rfl ?_
 refine .ret (aZ _ (.two (.tmp rfl) (.tmp rfl)) rH ?_)
 ·exact⟨_,rfl,_,a,b,rfl,rfl,i,e⟩
theorem fI(v:Value)(xs:List CP)(a b d lo e g:Nat)(s:Int)(R:aA)(h:RS R 4 bP v xs)(m:lo<=a/\a<e)(n:lo<=b/\b<e)(o:lo<=d/\d<e)(k:e<=xs.length)(j:cf prog f caps R (λp:CP=>Value.agg (bP p).toArray) c ok)(l:∀x∈xs,ok x):
  Spec prog 411 [v,.int .i64 a,.int .i64 b,.int .i64 d,pT g,.func (.func f) #[] caps.toArray] R [bl g [.int .i64 s] 3] λu H'=>∃T',H'=[T']/\∃(s':Int) (p:Nat),u=.int .i64 p/\T'=(bl g [.int .i64 s'] 3)/\(lo<=p/\p<e):=by
 have M:=h.aL
 refine Spec.body func411 rfl results411 ntmps411 rfl ?_
 refine .sr<|.ag rfl<|.z<|.mo rfl<|.mo rfl<|.mo rfl<|.mo rfl<|.mo rfl ?_
 refine .bb (eQ v xs a b lo e g s _ h m n k j l) (λu H i=>?_)
 obtain⟨E,A,C,rfl,rfl,r,w⟩:=i
 refine .mo rfl<|.q .extract<|.q .extract<|.ag rfl<|.ag rfl<|.z<|.mo rfl<|.mo rfl<|.mo rfl<|.mo rfl<|.mo rfl ?_
 refine .bb (eQ v xs C d lo e g E _ h w o k j l) (λu I i=>?_)
 obtain⟨F,B,O,rfl,rfl,t,L⟩:=i
 refine .mo rfl<|.q .extract<|.q .extract<|.ag rfl<|.ag rfl<|.z<|.mo rfl<|.mo rfl<|.mo rfl<|.mo rfl<|.mo rfl ?_
 refine .bb (eQ v xs A B lo e g F _ h r t k j l) (λu J i=>?_)
 obtain⟨G,N,D,rfl,rfl,K,y⟩:=i
 refine .mo rfl<|.q .extract<|.q .extract<|.ag rfl<|.ag rfl<|.z<|.mo rfl<|.az rfl ?_
 refine .ret (aZ _ (.one (.tmp rfl)) rH ?_)
 ·exact⟨_,rfl,G,D,rfl,rfl,y⟩
theorem eP(v:Value)(xs:List CP)(a lo d b:Nat)(s:Int)(R:aA)(h:RS R 4 bP v xs)(o:lo+1<=a/\a+1<d)(g:d<=xs.length)(q:xs.length<=1000000000)(e:cf prog f caps R (λp:CP=>Value.agg (bP p).toArray) c ok)(i:∀x∈xs,ok x):
  Spec prog 410 [v,.int .i64 a,pT b,.func (.func f) #[] caps.toArray] R [bl b [.int .i64 s] 3] λu H'=>∃T',H'=[T']/\∃(s':Int) (p:Nat),u=.int .i64 p/\T'=(bl b [.int .i64 s'] 3)/\(lo<=p/\p<d):=by
 have r:=h.aL
 refine Spec.body func410 rfl results410 ntmps410 rfl ?_
 refine .sr<|.ag rfl<|.z<|.mo rfl<|.mo rfl ?_
 refine .ia (a-1) .sub ?_
 refine .mo rfl<|.mo rfl ?_
 refine .ia (a+1) .add ?_
 refine .mo rfl<|.mo rfl ?_
 refine .bb (fI v xs (a-1) a (a+1) lo d b s _ h (by omega) (by omega) (by omega) g e i) (λu n k=>?_)
 obtain⟨m,l,rfl,rfl,j⟩:=k
 refine .az rfl ?_
 refine .ret (aZ _ (.one (.tmp rfl)) rH ?_)
 ·exact⟨_,rfl,m,l,rfl,rfl,j⟩
theorem choose_spec(v:Value)(xs:List CP)(a b:Nat)(R:aA)(h:RS R 4 bP v xs)(Y:a<b)(l:b<=xs.length)(w:xs.length<=1000000000)(m:cf prog f caps R (λp:CP=>Value.agg (bP p).toArray) c ok)(o:∀x∈xs,ok x):
  Spec prog 321 [v,.int .i64 a,.int .i64 b,.func (.func f) #[] caps.toArray] R [] λu H'=>(∃(p:Nat) (t:Int),u=.tuple [.int .i64 p,.int .i64 t].toArray/\a<=p/\p<b)/\H'=[]:=by
 have iv:=h.aL
 obtain⟨n,U⟩:∃n,b=a+n:=⟨b-a,by omega⟩
 subst U
 obtain⟨q,A⟩:∃q,q=n/4:=⟨_,rfl⟩
 refine Spec.body func321 rfl results321 ntmps321 rfl ?_
 refine .sr<|.ag rfl<|.ag rfl<|.z<|.mo rfl<|.mo rfl ?_
 refine .ia (n) .sub ?_
 refine .ag rfl<|.z ?_
 refine .hK (λe=>?_)
 refine .z<|.mo rfl<|.mo rfl ?_
 refine .q (.i64 ((q:Nat):Int) .quo ⟨by rw[A,ac5 (by omega)];omega,by omega,by omega⟩) ?_
 refine .ia (q) .mul ?_
 refine .ia (a+q) .add ?_
 refine .ag rfl<|.z<|.mo rfl<|.mo rfl ?_
 refine .q (.i64 ((q:Nat):Int) .quo ⟨by rw[A,ac5 (by omega)];omega,by omega,by omega⟩) ?_
 refine .ia (q*2) .mul ?_
 refine .ia (a+q*2) .add ?_
 refine .ag rfl<|.z<|.mo rfl<|.mo rfl ?_
 refine .q (.i64 ((q:Nat):Int) .quo ⟨by rw[A,ac5 (by omega)];omega,by omega,by omega⟩) ?_
 refine .ia (q*3) .mul ?_
 refine .ia (a+q*3) .add ?_
 refine .ag rfl<|.zs ?_
 refine bp.cut (X:=Nat×Int) (λz=>a<=z.1/\z.1<a+n) (λz=>[(11,pT e),(13,iN z.1)]) (λz=>[bl e [.int .i64 z.2] 3]) ?_ ?_
 refine .sr<|.mo rfl<|.q .geq<|.zn ?_
 refine .cond rfl (λB=>?_) λB=>?_
 have a0:8<=n:=by have:=bo B;omega
 refine .seq ?_
 refine bp.cut (X:=Nat×Nat×Nat×Int) (λz=>(a<=z.1/\z.1<a+n)/\(a<=z.2.1/\z.2.1<a+n)/\(a<=z.2.2.1/\z.2.2.1<a+n)) (λz=>[(0,v),(3,.func (.func f) #[] caps.toArray),(11,pT e),(12,iN z.1),(13,iN z.2.1),(14,iN z.2.2.1)]) (λz=>[bl e [.int .i64 z.2.2.2] 3]) ?_ ?_
 refine .sr<|.mo rfl<|.q .geq<|.zn ?_
 refine .cond rfl (λC=>?_) λC=>?_
 have Z:50<=n:=by have:=bo C;omega
 refine .sr<|.mo rfl<|.mo rfl<|.mo rfl ?_
 refine .bb (eP v xs (a+q) a (a+n) e 0 _ h (by omega) l w m o) (λu r g=>?_)
 obtain⟨V,K,rfl,rfl,G⟩:=g
 refine .ag rfl<|.z<|.mo rfl<|.mo rfl<|.mo rfl ?_
 refine .bb (eP v xs (a+q*2) a (a+n) e V _ h (by omega) l w m o) (λu r g=>?_)
 obtain⟨W,L,rfl,rfl,H⟩:=g
 refine .az rfl<|.region<|.mo rfl<|.mo rfl<|.mo rfl ?_
 refine .bb (eP v xs (a+q*3) a (a+n) e W _ h (by omega) l w m o) (λu r g=>?_)
 obtain⟨O,M,rfl,rfl,I⟩:=g
 refine .ag rfl<|.nil ?_
 ·first
   |exact ax (K,L,M,O) ⟨G,H,I⟩ kE.c.c.c.c.c.c rH
   |exact ax (a+q,a+q*2,a+q*3,0) ⟨by simp only;omega,by simp only;omega,by simp only;omega⟩ kE.c.c.c.c.c.c rH
 refine .skip ?_
 ·first
   |exact ax (K,L,M,O) ⟨G,H,I⟩ kE.c.c.c.c.c.c rH
   |exact ax (a+q,a+q*2,a+q*3,0) ⟨by simp only;omega,by simp only;omega,by simp only;omega⟩ kE.c.c.c.c.c.c rH
 intro y d
 obtain⟨i,j,k,s⟩:=y
 obtain⟨D,E,F⟩:=d
 simp only at D E F⊢
 refine aD<|.region<|.mo rfl<|.mo rfl<|.mo rfl<|.mo rfl<|.mo rfl ?_
 refine .bb (fI v xs i j k a (a+n) e s _ h D E F l m o) (λu r g=>?_)
 obtain⟨Q,N,rfl,rfl,J⟩:=g
 refine .ag rfl<|.nil ?_
 ·first
   |exact ax (N,Q) J kE.c.c rH
   |exact ax (a+q*2,0) (by simp only;omega) kE.c.c rH
 refine .skip ?_
 ·first
   |exact ax (N,Q) J kE.c.c rH
   |exact ax (a+q*2,0) (by simp only;omega) kE.c.c rH
 intro y d
 obtain⟨p,s⟩:=y
 simp only at d⊢
 refine aD<|.sr<|.lo rfl<|.zn<|.block<|.sr<|.q .cA<|.az rfl ?_
 refine .cond rfl (λS=>?_) λS=>?_
 refine .sr<|.mo rfl<|.ag rfl<|.az rfl ?_
 refine .ret (bg (aZ _ (.two (.tmp rfl) (.tmp rfl)) (.none _) ?_))
 ·exact⟨⟨p,_,rfl,d.1,d.2⟩,rfl⟩
 refine .sr<|.q .cA<|.az rfl ?_
 refine .cond rfl (λT=>?_) λT=>?_
 refine .sr<|.mo rfl<|.ag rfl<|.az rfl ?_
 refine .ret (bg (aZ _ (.two (.tmp rfl) (.tmp rfl)) (.none _) ?_))
 ·exact⟨⟨p,_,rfl,d.1,d.2⟩,rfl⟩
 refine .sr<|.mo rfl<|.ag rfl<|.az rfl ?_
 refine .ret (bg (aZ _ (.two (.tmp rfl) (.tmp rfl)) (.none _) ?_))
 ·exact⟨⟨p,_,rfl,d.1,d.2⟩,rfl⟩
end
end SCL
namespace SCL
section
variable{c:CP->CP->Int}{ok:CP->Prop}{f:FuncId}{caps:List Value} [e:aI prog f]
theorem iP(v:Value)(xs:List CP)(T:ay)(a b m:Nat)(p:CP)(R:aA)(h:OS 24 4 bP v xs T)(b1:a<b)(hm:a<=m/\m<b)(C:xs[m]? =some p)(U:b<=xs.length)(hl:xs.length<=1000000000)(hf:cf prog f caps R (λp:CP=>Value.agg (bP p).toArray) c ok)(a0:∀x∈xs,ok x)(so:SO (ap c))
  (b7:∀(k:Nat) (x:CP),a<=k->k<b->xs[k]? =some x->ap c x p=false):
  Spec prog 324 [v,.int .i64 a,.int .i64 b,.int .i64 m,.func (.func f) #[] caps.toArray] R [T] λu H'=>∃T',H'=[T']/\∃ys mid,u=iN mid/\OS 24 4 bP v ys T'/\RP a b xs ys/\jG (ap c) ys a mid b p:=by
 have iv:=h.aL
 obtain⟨x0,E⟩:∃x,xs[a]? =some x:=⟨_,aC (by omega)⟩
 have a8:=a0 p (aF C)
 refine Spec.body func324 rfl results324 ntmps324 rfl ?_
 refine .sr<|.ag rfl<|.zs<|.bF [13,15] mixed ?_
 refine .tO 0 rfl .move<|.tO 1 rfl .move<|.tK 2 rfl .move<|.tK 3 rfl .move<|.tO 4 rfl .move<|.tO 5 rfl .move ?_
 refine RA.au 6 rfl (m) h C rfl rfl rfl (by kernel_rfl) (λd1=>?_)
 refine .tO 7 rfl (.aE rfl)<|.tO 8 rfl .move<|.tO 9 rfl .move ?_
 refine RA.au 10 rfl (a) h E rfl rfl rfl (by kernel_rfl) (λd2=>?_)
 refine .tO 11 rfl (.aE rfl) ?_
 refine RA.au 12 rfl (a) h E rfl rfl rfl (by kernel_rfl) (λd3=>?_)
 refine .sT 13 rfl ?_
 refine .bt (a) h E p (λa9 a1=>?_) (h.one _ (aF C))
 refine .nil (Next.mod rfl ?_)
 refine RA.au 14 rfl (m) h C rfl rfl rfl (by kernel_rfl) (λd4=>?_)
 refine .sT 15 rfl ?_
 obtain⟨zz,a2⟩:∃u,(xs.set (a) p)[m]? =some u:=⟨_,aC (by rw[ac2];exact(ac1.1 C).1)⟩
 refine .bt (m) a1 a2 x0 (λY K=>?_) (h.one _ (aF E))
 rw[<-bS E C]at K
 refine .nil (Next.mod rfl ?_)
 refine RA.nil (by kernel_rfl) ?_
 have b0:RP a b xs (bn xs a m):=(RP.refl xs).step (by omega) (by omega) (by omega) (by omega) (by omega)
 have b2:(bn xs a m)[a]? =some p:=by
  rw[cX (by omega) (by omega)]
  by_cases hk:a=m
  ·rw[ac4 hk,E, <-C, <-hk,E]
  ·rw[ac3 hk,ac4 rfl,C]
 refine aD<|.sr<|.mo rfl ?_
 refine .ia (a+1) .add ?_
 refine .mo rfl ?_
 refine .ia (b-1) .sub ?_
 refine .ag rfl<|.ag rfl<|.zs<|.block ?_
 refine .loop (X:=Nat×Nat×List CP×ay) (λy=>OS 24 4 bP v y.2.2.1 y.2.2.2/\RP a b xs y.2.2.1/\PQ (λx=> !ap c p x) y.2.2.1 a y.1 y.2.1 b p) (λy=>[(0,v),(1,iN a),(4,.func (.func f) #[] caps.toArray),(11,iN y.1),(12,iN y.2.1)]) (λy=>[y.2.2.2]) (λy=>y.2.1+1-y.1) (a+1,b-1,bn xs a m,Y) ⟨K,b0,.start b1 b2⟩ kE.c.c.c.c.c rH ?_
 rintro⟨i,j,ys,N⟩ ⟨r,D,G⟩
 simp only at r D G⊢
 have d0:=D.length
 have c4:=G.i0
 have c6:=G.ij
 have c8:=G.jb
 have a7:=G.at_
 refine .block<|.seq ?_
 refine bp.cut (X:=Nat) (λs=>i<=s/\PQ (λx=> !ap c p x) ys a s j b p/\∀x,s<=j->ys[s]? =some x->(!ap c p x)=false) (λs=>[(0,v),(1,iN a),(4,.func (.func f) #[] caps.toArray),(11,.int .i64 (s:Nat)),(12,iN j)]) (λ_=>[N]) ?_ ?_
 refine .block ?_
 refine .loop (X:=Nat) (λs=>i<=s/\PQ (λx=> !ap c p x) ys a s j b p) (λs=>[(0,v),(1,iN a),(4,.func (.func f) #[] caps.toArray),(11,.int .i64 (s:Nat)),(12,iN j)]) (λ_=>[N]) (λs=>j+1-s) i ⟨ac0 _,G⟩ kE.c.c.c.c.c rH ?_
 rintro A ⟨V,I⟩
 refine .seq<|.seq ?_
 refine .bQ 13 mixed (by kernel_rfl) ?_
 conv=>arg 6;dsimp only[List.take]
 refine .mo rfl<|.mo rfl<|.q .leq<|.mo rfl ?_
 refine .split (t:=34) rfl (λd=>?_) (λd=>?_)
 have b5:A<=j:=by have:=bo d;omega
 obtain⟨x2,L⟩:∃x,ys[A]? =some x:=⟨_,aC (by omega)⟩
 have c2:=a0 x2 (D.perm.mem_iff.1 (aF L))
 refine .gT d<|.mo rfl<|.gT d<|.mo rfl<|.gT d<|.mo rfl<|.gT d ?_
 refine .au a r a7 (λd5=>?_)
 refine .gT d<|.q (.aE rfl)<|.gT d<|.mo rfl<|.gT d<|.mo rfl<|.gT d ?_
 refine .au A r L (λd6=>?_)
 refine .gT d<|.q (.aE rfl)<|.nil<|.gT d ?_
 refine .cj (first:=[]) (captured:=caps) (vs:=[(λp:CP=>Value.agg (bP p).toArray) p,(λp:CP=>Value.agg (bP p).toArray) x2]) (hf p x2 a8 c2 _ (λb o U=>.inl U)) (λu hu=>?_)
 subst hu
 refine .gT d<|.q .lss<|.gT d<|.q .not<|.q (.bu d) ?_
 refine .zn ?_
 refine .cond rfl (λO=>?_) λO=>?_
 refine .kn<|.block<|.region<|.mo rfl ?_
 refine .ia (A+1) .add ?_
 refine .ag rfl<|.nil<|bi ?_
 ·exact aN (A+1) ⟨by omega,I.inc b5 L O⟩ (by omega) kE.c.c.c.c.c rH
 refine .exit<|aP<|aV<|aR ?_
 first
  |exact ax A ⟨V,I,λx g n=>by rw[L]at n;cases n;exact O⟩ kE.c.c.c.c.c rH
  |exact ax A ⟨V,I,λx g n=>by have:=aY d;omega⟩ kE.c.c.c.c.c rH
 refine .gF d<|.gF d<|.gF d<|.gF d<|.gF d<|.gF d<|.gF d<|.gF d<|.gF d<|.nil<|.gF d<|.gF d<|.gF d<|.q (.bq d) ?_
 refine .zn<|.bB<|.exit<|aP<|aV<|aR ?_
 first
  |exact ax A ⟨V,I,λx g n=>by rw[L]at n;cases n;exact O⟩ kE.c.c.c.c.c rH
  |exact ax A ⟨V,I,λx g n=>by have:=aY d;omega⟩ kE.c.c.c.c.c rH
 intro x g
 obtain⟨l,a4⟩:∃l,l=x:=⟨_,rfl⟩
 rw[<-a4]at g⊢
 clear a4 x
 obtain⟨c5,a3,c0⟩:=g
 refine aD<|.seq ?_
 refine bp.cut (X:=Nat) (λw=>w<=j/\PQ (λx=> !ap c p x) ys a l w b p/\∀x,l<=w->ys[w]? =some x->(!ap c p x)=true) (λw=>[(0,v),(1,iN a),(4,.func (.func f) #[] caps.toArray),(11,iN l),(12,.int .i64 (w:Nat))]) (λ_=>[N]) ?_ ?_
 refine .block ?_
 refine .loop (X:=Nat) (λw=>w<=j/\PQ (λx=> !ap c p x) ys a l w b p) (λw=>[(0,v),(1,iN a),(4,.func (.func f) #[] caps.toArray),(11,iN l),(12,.int .i64 (w:Nat))]) (λ_=>[N]) (λw=>w) j ⟨ac0 _,a3⟩ kE.c.c.c.c.c rH ?_
 rintro B ⟨W,J⟩
 have b4:=a3.i0
 refine .seq<|.seq ?_
 refine .bQ 13 mixed (by kernel_rfl) ?_
 conv=>arg 6;dsimp only[List.take]
 refine .mo rfl<|.mo rfl<|.q .leq<|.mo rfl ?_
 refine .split (t:=53) rfl (λe=>?_) (λe=>?_)
 have b6:l<=B:=by have:=bo e;omega
 obtain⟨H,M⟩:∃x,ys[B]? =some x:=⟨_,aC (by omega)⟩
 have c3:=a0 H (D.perm.mem_iff.1 (aF M))
 refine .gT e<|.mo rfl<|.gT e<|.mo rfl<|.gT e<|.mo rfl<|.gT e ?_
 refine .au a r a7 (λd7=>?_)
 refine .gT e<|.q (.aE rfl)<|.gT e<|.mo rfl<|.gT e<|.mo rfl<|.gT e ?_
 refine .au B r M (λd8=>?_)
 refine .gT e<|.q (.aE rfl)<|.nil<|.gT e ?_
 refine .cj (first:=[]) (captured:=caps) (vs:=[(λp:CP=>Value.agg (bP p).toArray) p,(λp:CP=>Value.agg (bP p).toArray) H]) (hf p H a8 c3 _ (λb o U=>.inl U)) (λu hu=>?_)
 subst hu
 refine .gT e<|.q .lss<|.q (.bu e) ?_
 refine .zn ?_
 refine .cond rfl (λQ=>?_) λQ=>?_
 refine .kn<|.block<|.region<|.mo rfl ?_
 refine .ia (B-1) .sub ?_
 refine .ag rfl<|.nil<|bi ?_
 ·have b8:ap c p H=true:=Q
  exact aN (B-1) ⟨by omega,J.dec b6 M (by rw[b8];rfl)⟩ (by omega) kE.c.c.c.c.c rH
 refine .exit<|aP<|aV<|aR ?_
 first
  |exact ax B ⟨W,J,λx g n=>by have hh:ap c p H=false:=Q;rw[M]at n;cases n;rw[hh];rfl⟩ kE.c.c.c.c.c rH
  |exact ax B ⟨W,J,λx g n=>by have:=aY e;omega⟩ kE.c.c.c.c.c rH
 refine .gF e<|.gF e<|.gF e<|.gF e<|.gF e<|.gF e<|.gF e<|.gF e<|.gF e<|.nil<|.gF e<|.gF e<|.q (.bq e) ?_
 refine .zn<|.bB<|.exit<|aP<|aV<|aR ?_
 first
  |exact ax B ⟨W,J,λx g n=>by have hh:ap c p H=false:=Q;rw[M]at n;cases n;rw[hh];rfl⟩ kE.c.c.c.c.c rH
  |exact ax B ⟨W,J,λx g n=>by have:=aY e;omega⟩ kE.c.c.c.c.c rH
 intro x g
 obtain⟨z,a5⟩:∃z,z=x:=⟨_,rfl⟩
 rw[<-a5]at g⊢
 clear a5 x
 obtain⟨c9,S,c1⟩:=g
 have b4:=S.i0
 have c7:=S.ij
 refine aD<|.seq<|.sr<|.mo rfl<|.mo rfl<|.q .gtr<|.zn ?_
 refine .cond rfl (λZ=>?_) λZ=>?_
 refine .exit (aP (dn (aV (aR ?_))))
 refine aD<|.sr<|.mo rfl<|.az rfl ?_
 refine .ret (aZ _ (.one (.tmp rfl)) rH ?_)
 ·have b3:z<l:=de Z
  exact⟨_,rfl,ys,l,rfl,r,D,S.kU so b3 (D.all (p:=λx=>ap c x p=false) b7)⟩
 have a6:l<=z:=by have:=aY Z;omega
 obtain⟨x,g⟩:∃x,ys[l]? =some x:=⟨_,aC (by omega)⟩
 obtain⟨y,F⟩:∃x,ys[z]? =some x:=⟨_,aC (by omega)⟩
 have b9:=S.sw a6 (by omega) g F (c0 x (by omega) g) (c1 y a6 F)
 refine .kn<|.seq<|.bF [13,15] mixed ?_
 refine .tO 0 rfl .move<|.tO 1 rfl .move<|.tK 2 rfl .move<|.tK 3 rfl .move<|.tO 4 rfl .move<|.tO 5 rfl .move ?_
 refine RA.au 6 rfl (z) r F rfl rfl rfl (by kernel_rfl) (λd9=>?_)
 refine .tO 7 rfl (.aE rfl)<|.tO 8 rfl .move<|.tO 9 rfl .move ?_
 refine RA.au 10 rfl (l) r g rfl rfl rfl (by kernel_rfl) (λe0=>?_)
 refine .tO 11 rfl (.aE rfl) ?_
 refine RA.au 12 rfl (l) r g rfl rfl rfl (by kernel_rfl) (λe1=>?_)
 refine .sT 13 rfl ?_
 refine .bt (l) r g y (λa9 a1=>?_) (r.one _ (aF F))
 refine .nil (Next.mod rfl ?_)
 refine RA.au 14 rfl (z) r F rfl rfl rfl (by kernel_rfl) (λe2=>?_)
 refine .sT 15 rfl ?_
 obtain⟨zz,a2⟩:∃u,(ys.set (l) y)[z]? =some u:=⟨_,aC (by rw[ac2];exact(ac1.1 F).1)⟩
 refine .bt (z) a1 a2 x (λY K=>?_) (r.one _ (aF g))
 rw[<-bS g F]at K
 refine .nil (Next.mod rfl ?_)
 refine RA.nil (by kernel_rfl) ?_
 refine aD<|.sr<|.mo rfl ?_
 refine .ia (l+1) .add ?_
 refine .az rfl<|.region<|.mo rfl ?_
 refine .ia (z-1) .sub ?_
 refine .ag rfl<|.nil<|bi ?_
 ·exact aN (l+1,z-1,bn ys l z,Y) ⟨K,D.step (by omega) (by omega) (by omega) (by omega) (by omega),b9.2⟩ (by simp only;omega) kE.c.c.c.c.c rH
theorem fJ(v:Value)(xs:List CP)(T:ay)(a b m:Nat)(p:CP)(R:aA)(h:OS 24 4 bP v xs T)(e0:a<b)(hm:a<=m/\m<b)(U:xs[m]? =some p)(S:b<=xs.length)(hl:xs.length<=1000000000)(hf:cf prog f caps R (λp:CP=>Value.agg (bP p).toArray) c ok)(b0:∀x∈xs,ok x)(so:SO (ap c)):
  Spec prog 325 [v,.int .i64 a,.int .i64 b,.int .i64 m,.func (.func f) #[] caps.toArray] R [T] λu H'=>∃T',H'=[T']/\∃ys mid z,u=.tuple [iN mid,.bool z].toArray/\OS 24 4 bP v ys T'/\RP a b xs ys/\Part (ap c) ys a mid b p:=by
 have iv:=h.aL
 obtain⟨x0,Z⟩:∃x,xs[a]? =some x:=⟨_,aC (by omega)⟩
 have c3:=b0 p (aF U)
 refine Spec.body func325 rfl results325 ntmps325 rfl ?_
 refine .sr<|.ag rfl<|.ag rfl<|.zs<|.bF [13,15] mixed ?_
 refine .tO 0 rfl .move<|.tO 1 rfl .move<|.tK 2 rfl .move<|.tK 3 rfl .move<|.tO 4 rfl .move<|.tO 5 rfl .move ?_
 refine RA.au 6 rfl (m) h U rfl rfl rfl (by kernel_rfl) (λk0=>?_)
 refine .tO 7 rfl (.aE rfl)<|.tO 8 rfl .move<|.tO 9 rfl .move ?_
 refine RA.au 10 rfl (a) h Z rfl rfl rfl (by kernel_rfl) (λk1=>?_)
 refine .tO 11 rfl (.aE rfl) ?_
 refine RA.au 12 rfl (a) h Z rfl rfl rfl (by kernel_rfl) (λk4=>?_)
 refine .sT 13 rfl ?_
 refine .bt (a) h Z p (λb7 J=>?_) (h.one _ (aF U))
 refine .nil (Next.mod rfl ?_)
 refine RA.au 14 rfl (m) h U rfl rfl rfl (by kernel_rfl) (λk5=>?_)
 refine .sT 15 rfl ?_
 obtain⟨zz,K⟩:∃u,(xs.set (a) p)[m]? =some u:=⟨_,aC (by rw[ac2];exact(ac1.1 U).1)⟩
 refine .bt (m) J K x0 (λV E=>?_) (h.one _ (aF Z))
 rw[<-bS Z U]at E
 refine .nil (Next.mod rfl ?_)
 refine RA.nil (by kernel_rfl) ?_
 have a4:RP a b xs (bn xs a m):=(RP.refl xs).step (by omega) (by omega) (by omega) (by omega) (by omega)
 have I:(bn xs a m)[a]? =some p:=by
  rw[cX (by omega) (by omega)]
  by_cases hk:a=m
  ·rw[ac4 hk,Z, <-U, <-hk,Z]
  ·rw[ac3 hk,ac4 rfl,U]
 obtain⟨D,d5⟩:∃D,D=bn xs a m:=⟨_,rfl⟩
 rw[<-d5]at E a4 I
 obtain⟨T0,d9⟩:∃T0,T0=V:=⟨_,rfl⟩
 rw[<-d9]at E⊢
 have h8:=a4.length
 have A:=E
 clear E
 have d8:PQ (λx=>ap c x p) D a (a+1) (b-1) b p:=.start e0 I
 clear d5
 refine aD<|.sr<|.mo rfl ?_
 refine .ia (a+1) .add ?_
 refine .mo rfl ?_
 refine .ia (b-1) .sub ?_
 refine .ag rfl<|.ag rfl<|.zs ?_
 refine bp.cut (X:=Nat) (λs=>PQ (λx=>ap c x p) D a s (b-1) b p/\∀x,s<=b-1->D[s]? =some x->ap c x p=false) (λs=>[(0,v),(1,iN a),(4,.func (.func f) #[] caps.toArray),(12,.int .i64 (s:Nat)),(13,.int .i64 ((b-1:Nat):Int))]) (λ_=>[T0]) ?_ ?_
 refine .block ?_
 refine .loop (X:=Nat) (λs=>PQ (λx=>ap c x p) D a s (b-1) b p) (λs=>[(0,v),(1,iN a),(4,.func (.func f) #[] caps.toArray),(12,.int .i64 (s:Nat)),(13,.int .i64 ((b-1:Nat):Int))]) (λ_=>[T0]) (λs=>b-s) (a+1) d8 kE.c.c.c.c.c rH ?_
 rintro L a6
 refine .seq<|.seq ?_
 refine .bQ 13 mixed (by kernel_rfl) ?_
 conv=>arg 6;dsimp only[List.take]
 refine .mo rfl<|.mo rfl<|.q .leq<|.mo rfl ?_
 refine .split (t:=35) rfl (λn=>?_) (λn=>?_)
 have e4:L<=b-1:=by have:=bo n;omega
 obtain⟨x2,b2⟩:∃x,D[L]? =some x:=⟨_,aC (by omega)⟩
 have f6:=b0 x2 (a4.perm.mem_iff.1 (aF b2))
 refine .gT n<|.mo rfl<|.gT n<|.mo rfl<|.gT n<|.mo rfl<|.gT n ?_
 refine .au L A b2 (λk6=>?_)
 refine .gT n<|.q (.aE rfl)<|.gT n<|.mo rfl<|.gT n<|.mo rfl<|.gT n ?_
 refine .au a A I (λk7=>?_)
 refine .gT n<|.q (.aE rfl)<|.nil<|.gT n ?_
 refine .cj (first:=[]) (captured:=caps) (vs:=[(λp:CP=>Value.agg (bP p).toArray) x2,(λp:CP=>Value.agg (bP p).toArray) p]) (hf x2 p f6 c3 _ (λb o S=>.inl S)) (λu Y=>?_)
 subst Y
 refine .gT n<|.q .lss<|.q (.bu n) ?_
 refine .zn ?_
 refine .cond rfl (λh1=>?_) λh1=>?_
 refine .kn<|.block<|.region<|.mo rfl ?_
 refine .ia (L+1) .add ?_
 refine .ag rfl<|.nil<|bi ?_
 ·exact aN (L+1) (a6.inc e4 b2 h1) (by omega) kE.c.c.c.c.c rH
 refine .exit<|aP<|aV<|aR ?_
 first
  |exact ax L ⟨a6,λx d e=>by rw[b2]at e;cases e;exact h1⟩ kE.c.c.c.c.c rH
  |exact ax L ⟨a6,λx d e=>by have:=aY n;omega⟩ kE.c.c.c.c.c rH
 refine .gF n<|.gF n<|.gF n<|.gF n<|.gF n<|.gF n<|.gF n<|.gF n<|.gF n<|.nil<|.gF n<|.gF n<|.q (.bq n) ?_
 refine .zn<|.bB<|.exit<|aP<|aV<|aR ?_
 first
  |exact ax L ⟨a6,λx d e=>by rw[b2]at e;cases e;exact h1⟩ kE.c.c.c.c.c rH
  |exact ax L ⟨a6,λx d e=>by have:=aY n;omega⟩ kE.c.c.c.c.c rH
 intro x d
 obtain⟨B,c7⟩:∃B,B=x:=⟨_,rfl⟩
 rw[<-c7]at d⊢
 clear c7 x
 obtain⟨c5,f2⟩:=d
 refine aD<|.seq ?_
 refine bp.cut (X:=Nat) (λr=>r<=b-1/\PQ (λx=>ap c x p) D a B r b p/\∀x,B<=r->D[r]? =some x->ap c x p=true) (λr=>[(0,v),(1,iN a),(4,.func (.func f) #[] caps.toArray),(12,iN B),(13,.int .i64 (r:Nat))]) (λ_=>[T0]) ?_ ?_
 refine .block ?_
 refine .loop (X:=Nat) (λr=>r<=b-1/\PQ (λx=>ap c x p) D a B r b p) (λr=>[(0,v),(1,iN a),(4,.func (.func f) #[] caps.toArray),(12,iN B),(13,.int .i64 (r:Nat))]) (λ_=>[T0]) (λr=>r) (b-1) ⟨ac0 _,c5⟩ kE.c.c.c.c.c rH ?_
 rintro M ⟨c0,a7⟩
 have e2:=c5.i0
 refine .seq<|.seq ?_
 refine .bQ 13 mixed (by kernel_rfl) ?_
 conv=>arg 6;dsimp only[List.take]
 refine .mo rfl<|.mo rfl<|.q .leq<|.mo rfl ?_
 refine .split (t:=53) rfl (λk=>?_) (λk=>?_)
 have e5:B<=M:=by have:=bo k;omega
 obtain⟨x4,b3⟩:∃x,D[M]? =some x:=⟨_,aC (by omega)⟩
 have f7:=b0 x4 (a4.perm.mem_iff.1 (aF b3))
 refine .gT k<|.mo rfl<|.gT k<|.mo rfl<|.gT k<|.mo rfl<|.gT k ?_
 refine .au M A b3 (λk8=>?_)
 refine .gT k<|.q (.aE rfl)<|.gT k<|.mo rfl<|.gT k<|.mo rfl<|.gT k ?_
 refine .au a A I (λk9=>?_)
 refine .gT k<|.q (.aE rfl)<|.nil<|.gT k ?_
 refine .cj (first:=[]) (captured:=caps) (vs:=[(λp:CP=>Value.agg (bP p).toArray) x4,(λp:CP=>Value.agg (bP p).toArray) p]) (hf x4 p f7 c3 _ (λb o S=>.inl S)) (λu Y=>?_)
 subst Y
 refine .gT k<|.q .lss<|.gT k<|.q .not<|.q (.bu k) ?_
 refine .zn ?_
 refine .cond rfl (λh2=>?_) λh2=>?_
 refine .kn<|.block<|.region<|.mo rfl ?_
 refine .ia (M-1) .sub ?_
 refine .ag rfl<|.nil<|bi ?_
 ·have e8:ap c x4 p=false:=by
   have d6:(!ap c x4 p)=true:=h2
   simpa using d6
  exact aN (M-1) ⟨by omega,a7.dec e5 b3 e8⟩ (by omega) kE.c.c.c.c.c rH
 refine .exit<|aP<|aV<|aR ?_
 first
  |exact ax M ⟨c0,a7,λx d e=>by
    have W:(!ap c x4 p)=false:=h2
    rw[b3]at e;cases e
    simpa using W⟩ kE.c.c.c.c.c rH
  |exact ax M ⟨c0,a7,λx d e=>by have:=aY k;omega⟩ kE.c.c.c.c.c rH
 refine .gF k<|.gF k<|.gF k<|.gF k<|.gF k<|.gF k<|.gF k<|.gF k<|.gF k<|.nil<|.gF k<|.gF k<|.gF k<|.q (.bq k) ?_
 refine .zn<|.bB<|.exit<|aP<|aV<|aR ?_
 first
  |exact ax M ⟨c0,a7,λx d e=>by
    have W:(!ap c x4 p)=false:=h2
    rw[b3]at e;cases e
    simpa using W⟩ kE.c.c.c.c.c rH
  |exact ax M ⟨c0,a7,λx d e=>by have:=aY k;omega⟩ kE.c.c.c.c.c rH
 intro x d
 obtain⟨w,c8⟩:∃w,w=x:=⟨_,rfl⟩
 rw[<-c8]at d⊢
 clear c8 x
 obtain⟨g9,b8,f3⟩:=d
 have e2:=b8.i0
 have g3:=b8.ij
 refine aD<|.seq<|.sr<|.mo rfl<|.mo rfl<|.q .gtr<|.zn ?_
 refine .cond rfl (λh3=>?_) λh3=>?_
 have e1:w<B:=de h3
 obtain⟨y,G⟩:∃x,D[w]? =some x:=⟨_,aC (by omega)⟩
 refine .seq<|.bF [13,15] mixed ?_
 refine .tO 0 rfl .move<|.tO 1 rfl .move<|.tK 2 rfl .move<|.tK 3 rfl .move<|.tO 4 rfl .move<|.tO 5 rfl .move ?_
 refine RA.au 6 rfl (a) A I rfl rfl rfl (by kernel_rfl) (λl0=>?_)
 refine .tO 7 rfl (.aE rfl)<|.tO 8 rfl .move<|.tO 9 rfl .move ?_
 refine RA.au 10 rfl (w) A G rfl rfl rfl (by kernel_rfl) (λl1=>?_)
 refine .tO 11 rfl (.aE rfl) ?_
 refine RA.au 12 rfl (w) A G rfl rfl rfl (by kernel_rfl) (λl2=>?_)
 refine .sT 13 rfl ?_
 refine .bt (w) A G p (λb7 J=>?_) (A.one _ (aF I))
 refine .nil (Next.mod rfl ?_)
 refine RA.au 14 rfl (a) A I rfl rfl rfl (by kernel_rfl) (λl3=>?_)
 refine .sT 15 rfl ?_
 obtain⟨zz,K⟩:∃u,(D.set (w) p)[a]? =some u:=⟨_,aC (by rw[ac2];exact(ac1.1 I).1)⟩
 refine .bt (a) J K y (λV E=>?_) (A.one _ (aF G))
 rw[<-bS G I]at E
 refine .nil (Next.mod rfl ?_)
 refine RA.nil (by kernel_rfl) ?_
 refine aD<|.sr<|.mo rfl<|.ag rfl<|.az rfl ?_
 refine .ret (aT (aZ _ (.two (.tmp rfl) (.tmp rfl)) rH ?_))
 ·exact⟨_,rfl,bn D w a,w,true,rfl,E,a4.step (by omega) (by omega) (by omega) (by omega) (by omega),b8.fin e1 (by omega)⟩
 have d1:B<=w:=by have:=aY h3;omega
 obtain⟨x,d⟩:∃x,D[B]? =some x:=⟨_,aC (by omega)⟩
 obtain⟨y,G⟩:∃x,D[w]? =some x:=⟨_,aC (by omega)⟩
 have f0:=b8.sw d1 (by omega) d G (f2 x (by omega) d) (f3 y d1 G)
 refine .kn<|.seq<|.bF [13,15] mixed ?_
 refine .tO 0 rfl .move<|.tO 1 rfl .move<|.tK 2 rfl .move<|.tK 3 rfl .move<|.tO 4 rfl .move<|.tO 5 rfl .move ?_
 refine RA.au 6 rfl (w) A G rfl rfl rfl (by kernel_rfl) (λl4=>?_)
 refine .tO 7 rfl (.aE rfl)<|.tO 8 rfl .move<|.tO 9 rfl .move ?_
 refine RA.au 10 rfl (B) A d rfl rfl rfl (by kernel_rfl) (λl5=>?_)
 refine .tO 11 rfl (.aE rfl) ?_
 refine RA.au 12 rfl (B) A d rfl rfl rfl (by kernel_rfl) (λl6=>?_)
 refine .sT 13 rfl ?_
 refine .bt (B) A d y (λb7 J=>?_) (A.one _ (aF G))
 refine .nil (Next.mod rfl ?_)
 refine RA.au 14 rfl (w) A G rfl rfl rfl (by kernel_rfl) (λi1=>?_)
 refine .sT 15 rfl ?_
 obtain⟨zz,K⟩:∃u,(D.set (B) y)[w]? =some u:=⟨_,aC (by rw[ac2];exact(ac1.1 G).1)⟩
 refine .bt (w) J K x (λV E=>?_) (A.one _ (aF d))
 rw[<-bS d G]at E
 refine .nil (Next.mod rfl ?_)
 refine RA.nil (by kernel_rfl) ?_
 refine aD<|.sr<|.mo rfl ?_
 refine .ia (B+1) .add ?_
 refine .ag rfl<|.z<|.mo rfl ?_
 refine .ia (w-1) .sub ?_
 refine .ag rfl<|.zs ?_
 refine bp.cut (X:=Nat×Nat×List CP×ay) (λy=>OS 24 4 bP v y.2.2.1 y.2.2.2/\RP a b xs y.2.2.1/\PQ (λx=>ap c x p) y.2.2.1 a y.1 y.2.1 b p/\y.2.1<y.1) (λy=>[(0,v),(1,iN a),(4,.func (.func f) #[] caps.toArray),(12,iN y.1),(13,iN y.2.1)]) (λy=>[y.2.2.2]) ?_ ?_
 refine .block ?_
 refine .loop (X:=Nat×Nat×List CP×ay) (λy=>OS 24 4 bP v y.2.2.1 y.2.2.2/\RP a b xs y.2.2.1/\PQ (λx=>ap c x p) y.2.2.1 a y.1 y.2.1 b p) (λy=>[(0,v),(1,iN a),(4,.func (.func f) #[] caps.toArray),(12,iN y.1),(13,iN y.2.1)]) (λy=>[y.2.2.2]) (λy=>y.2.1+1-y.1) (B+1,w-1,bn D B w,V) ⟨E,a4.step (by omega) (by omega) (by omega) (by omega) (by omega),f0.2⟩ kE.c.c.c.c.c rH ?_
 rintro⟨i,j,ys,T1⟩ ⟨F,a5,a2⟩
 simp only at F a5 a2⊢
 have h7:=a5.length
 have g0:=a2.i0
 have g2:=a2.ij
 have g7:=a2.jb
 have d4:=a2.at_
 refine .block<|.seq ?_
 refine bp.cut (X:=Nat) (λs=>i<=s/\PQ (λx=>ap c x p) ys a s j b p/\∀x,s<=j->ys[s]? =some x->ap c x p=false) (λs=>[(0,v),(1,iN a),(4,.func (.func f) #[] caps.toArray),(12,.int .i64 (s:Nat)),(13,iN j)]) (λ_=>[T1]) ?_ ?_
 refine .block ?_
 refine .loop (X:=Nat) (λs=>i<=s/\PQ (λx=>ap c x p) ys a s j b p) (λs=>[(0,v),(1,iN a),(4,.func (.func f) #[] caps.toArray),(12,.int .i64 (s:Nat)),(13,iN j)]) (λ_=>[T1]) (λs=>j+1-s) i ⟨ac0 _,a2⟩ kE.c.c.c.c.c rH ?_
 rintro N ⟨c1,a8⟩
 refine .seq<|.seq ?_
 refine .bQ 13 mixed (by kernel_rfl) ?_
 conv=>arg 6;dsimp only[List.take]
 refine .mo rfl<|.mo rfl<|.q .leq<|.mo rfl ?_
 refine .split (t:=108) rfl (λl=>?_) (λl=>?_)
 have e6:N<=j:=by have:=bo l;omega
 obtain⟨x6,b4⟩:∃x,ys[N]? =some x:=⟨_,aC (by omega)⟩
 have f8:=b0 x6 (a5.perm.mem_iff.1 (aF b4))
 refine .gT l<|.mo rfl<|.gT l<|.mo rfl<|.gT l<|.mo rfl<|.gT l ?_
 refine .au N F b4 (λi4=>?_)
 refine .gT l<|.q (.aE rfl)<|.gT l<|.mo rfl<|.gT l<|.mo rfl<|.gT l ?_
 refine .au a F d4 (λi5=>?_)
 refine .gT l<|.q (.aE rfl)<|.nil<|.gT l ?_
 refine .cj (first:=[]) (captured:=caps) (vs:=[(λp:CP=>Value.agg (bP p).toArray) x6,(λp:CP=>Value.agg (bP p).toArray) p]) (hf x6 p f8 c3 _ (λb o S=>.inl S)) (λu Y=>?_)
 subst Y
 refine .gT l<|.q .lss<|.q (.bu l) ?_
 refine .zn ?_
 refine .cond rfl (λh4=>?_) λh4=>?_
 refine .kn<|.block<|.region<|.mo rfl ?_
 refine .ia (N+1) .add ?_
 refine .ag rfl<|.nil<|bi ?_
 ·exact aN (N+1) ⟨by omega,a8.inc e6 b4 h4⟩ (by omega) kE.c.c.c.c.c rH
 refine .exit<|aP<|aV<|aR ?_
 first
  |exact ax N ⟨c1,a8,λx d e=>by rw[b4]at e;cases e;exact h4⟩ kE.c.c.c.c.c rH
  |exact ax N ⟨c1,a8,λx d e=>by have:=aY l;omega⟩ kE.c.c.c.c.c rH
 refine .gF l<|.gF l<|.gF l<|.gF l<|.gF l<|.gF l<|.gF l<|.gF l<|.gF l<|.nil<|.gF l<|.gF l<|.q (.bq l) ?_
 refine .zn<|.bB<|.exit<|aP<|aV<|aR ?_
 first
  |exact ax N ⟨c1,a8,λx d e=>by rw[b4]at e;cases e;exact h4⟩ kE.c.c.c.c.c rH
  |exact ax N ⟨c1,a8,λx d e=>by have:=aY l;omega⟩ kE.c.c.c.c.c rH
 intro x d
 obtain⟨C,d0⟩:∃C,C=x:=⟨_,rfl⟩
 rw[<-d0]at d⊢
 clear d0 x
 obtain⟨g6,c6,f4⟩:=d
 refine aD<|.seq ?_
 refine bp.cut (X:=Nat) (λr=>r<=j/\PQ (λx=>ap c x p) ys a C r b p/\∀x,C<=r->ys[r]? =some x->ap c x p=true) (λr=>[(0,v),(1,iN a),(4,.func (.func f) #[] caps.toArray),(12,iN C),(13,.int .i64 (r:Nat))]) (λ_=>[T1]) ?_ ?_
 refine .block ?_
 refine .loop (X:=Nat) (λr=>r<=j/\PQ (λx=>ap c x p) ys a C r b p) (λr=>[(0,v),(1,iN a),(4,.func (.func f) #[] caps.toArray),(12,iN C),(13,.int .i64 (r:Nat))]) (λ_=>[T1]) (λr=>r) j ⟨ac0 _,c6⟩ kE.c.c.c.c.c rH ?_
 rintro O ⟨c2,a9⟩
 have e3:=c6.i0
 refine .seq<|.seq ?_
 refine .bQ 13 mixed (by kernel_rfl) ?_
 conv=>arg 6;dsimp only[List.take]
 refine .mo rfl<|.mo rfl<|.q .leq<|.mo rfl ?_
 refine .split (t:=126) rfl (λg=>?_) (λg=>?_)
 have e7:C<=O:=by have:=bo g;omega
 obtain⟨x7,b5⟩:∃x,ys[O]? =some x:=⟨_,aC (by omega)⟩
 have f9:=b0 x7 (a5.perm.mem_iff.1 (aF b5))
 refine .gT g<|.mo rfl<|.gT g<|.mo rfl<|.gT g<|.mo rfl<|.gT g ?_
 refine .au O F b5 (λi6=>?_)
 refine .gT g<|.q (.aE rfl)<|.gT g<|.mo rfl<|.gT g<|.mo rfl<|.gT g ?_
 refine .au a F d4 (λi7=>?_)
 refine .gT g<|.q (.aE rfl)<|.nil<|.gT g ?_
 refine .cj (first:=[]) (captured:=caps) (vs:=[(λp:CP=>Value.agg (bP p).toArray) x7,(λp:CP=>Value.agg (bP p).toArray) p]) (hf x7 p f9 c3 _ (λb o S=>.inl S)) (λu Y=>?_)
 subst Y
 refine .gT g<|.q .lss<|.gT g<|.q .not<|.q (.bu g) ?_
 refine .zn ?_
 refine .cond rfl (λh5=>?_) λh5=>?_
 refine .kn<|.block<|.region<|.mo rfl ?_
 refine .ia (O-1) .sub ?_
 refine .ag rfl<|.nil<|bi ?_
 ·have e9:ap c x7 p=false:=by
   have d7:(!ap c x7 p)=true:=h5
   simpa using d7
  exact aN (O-1) ⟨by omega,a9.dec e7 b5 e9⟩ (by omega) kE.c.c.c.c.c rH
 refine .exit<|aP<|aV<|aR ?_
 first
  |exact ax O ⟨c2,a9,λx d e=>by
    have W:(!ap c x7 p)=false:=h5
    rw[b5]at e;cases e
    simpa using W⟩ kE.c.c.c.c.c rH
  |exact ax O ⟨c2,a9,λx d e=>by have:=aY g;omega⟩ kE.c.c.c.c.c rH
 refine .gF g<|.gF g<|.gF g<|.gF g<|.gF g<|.gF g<|.gF g<|.gF g<|.gF g<|.nil<|.gF g<|.gF g<|.gF g<|.q (.bq g) ?_
 refine .zn<|.bB<|.exit<|aP<|aV<|aR ?_
 first
  |exact ax O ⟨c2,a9,λx d e=>by
    have W:(!ap c x7 p)=false:=h5
    rw[b5]at e;cases e
    simpa using W⟩ kE.c.c.c.c.c rH
  |exact ax O ⟨c2,a9,λx d e=>by have:=aY g;omega⟩ kE.c.c.c.c.c rH
 intro x d
 obtain⟨H,d3⟩:∃H,H=x:=⟨_,rfl⟩
 rw[<-d3]at d⊢
 clear d3 x
 obtain⟨h0,b9,f5⟩:=d
 have e3:=b9.i0
 have g4:=b9.ij
 refine aD<|.seq<|.sr<|.mo rfl<|.mo rfl<|.q .gtr<|.zn ?_
 refine .cond rfl (λh6=>?_) λh6=>?_
 refine .exit (aP (dn (aV (aR ?_))))
 exact ax (C,H,ys,T1) ⟨F,a5,b9,by have:=bo h6;simp only;omega⟩ kE.c.c.c.c.c rH
 have d2:C<=H:=by have:=aY h6;omega
 obtain⟨x8,a0⟩:∃x,ys[C]? =some x:=⟨_,aC (by omega)⟩
 obtain⟨y8,a1⟩:∃x,ys[H]? =some x:=⟨_,aC (by omega)⟩
 have f1:=b9.sw d2 (by omega) a0 a1 (f4 x8 (by omega) a0) (f5 y8 d2 a1)
 refine .kn<|.seq<|.bF [13,15] mixed ?_
 refine .tO 0 rfl .move<|.tO 1 rfl .move<|.tK 2 rfl .move<|.tK 3 rfl .move<|.tO 4 rfl .move<|.tO 5 rfl .move ?_
 refine RA.au 6 rfl (H) F a1 rfl rfl rfl (by kernel_rfl) (λi8=>?_)
 refine .tO 7 rfl (.aE rfl)<|.tO 8 rfl .move<|.tO 9 rfl .move ?_
 refine RA.au 10 rfl (C) F a0 rfl rfl rfl (by kernel_rfl) (λj0=>?_)
 refine .tO 11 rfl (.aE rfl) ?_
 refine RA.au 12 rfl (C) F a0 rfl rfl rfl (by kernel_rfl) (λj1=>?_)
 refine .sT 13 rfl ?_
 refine .bt (C) F a0 y8 (λb7 J=>?_) (F.one _ (aF a1))
 refine .nil (Next.mod rfl ?_)
 refine RA.au 14 rfl (H) F a1 rfl rfl rfl (by kernel_rfl) (λj4=>?_)
 refine .sT 15 rfl ?_
 obtain⟨zz,K⟩:∃u,(ys.set (C) y8)[H]? =some u:=⟨_,aC (by rw[ac2];exact(ac1.1 a1).1)⟩
 refine .bt (H) J K x8 (λV E=>?_) (F.one _ (aF a0))
 rw[<-bS a0 a1]at E
 refine .nil (Next.mod rfl ?_)
 refine RA.nil (by kernel_rfl) ?_
 refine aD<|.sr<|.mo rfl ?_
 refine .ia (C+1) .add ?_
 refine .az rfl<|.region<|.mo rfl ?_
 refine .ia (H-1) .sub ?_
 refine .ag rfl<|.nil<|bi ?_
 ·exact aN (C+1,H-1,bn ys C H,V) ⟨E,a5.step (by omega) (by omega) (by omega) (by omega) (by omega),f1.2⟩ (by simp only;omega) kE.c.c.c.c.c rH
 intro x d
 obtain⟨i9,j9,zs,T9⟩:=x
 obtain⟨Q,c4,a3,c9⟩:=d
 simp only at Q c4 a3 c9⊢
 have h9:=c4.length
 have g5:=a3.ij
 have g1:=a3.i0
 have g8:=a3.jb
 have b1:=a3.at_
 obtain⟨y9,b6⟩:∃x,zs[j9]? =some x:=⟨_,aC (by omega)⟩
 refine aD<|.seq<|.bF [13,15] mixed ?_
 refine .tO 0 rfl .move<|.tO 1 rfl .move<|.tK 2 rfl .move<|.tK 3 rfl .move<|.tO 4 rfl .move<|.tO 5 rfl .move ?_
 refine RA.au 6 rfl (a) Q b1 rfl rfl rfl (by kernel_rfl) (λj5=>?_)
 refine .tO 7 rfl (.aE rfl)<|.tO 8 rfl .move<|.tO 9 rfl .move ?_
 refine RA.au 10 rfl (j9) Q b6 rfl rfl rfl (by kernel_rfl) (λj6=>?_)
 refine .tO 11 rfl (.aE rfl) ?_
 refine RA.au 12 rfl (j9) Q b6 rfl rfl rfl (by kernel_rfl) (λj7=>?_)
 refine .sT 13 rfl ?_
 refine .bt (j9) Q b6 p (λb7 J=>?_) (Q.one _ (aF b1))
 refine .nil (Next.mod rfl ?_)
 refine RA.au 14 rfl (a) Q b1 rfl rfl rfl (by kernel_rfl) (λj8=>?_)
 refine .sT 15 rfl ?_
 obtain⟨zz,K⟩:∃u,(zs.set (j9) p)[a]? =some u:=⟨_,aC (by rw[ac2];exact(ac1.1 b1).1)⟩
 refine .bt (a) J K y9 (λV E=>?_) (Q.one _ (aF b6))
 rw[<-bS b6 b1]at E
 refine .nil (Next.mod rfl ?_)
 refine RA.nil (by kernel_rfl) ?_
 refine aD<|.sr<|.mo rfl<|.ag rfl<|.az rfl ?_
 refine .ret (aZ _ (.two (.tmp rfl) (.tmp rfl)) rH ?_)
 ·exact⟨_,rfl,bn zs j9 a,j9,false,rfl,E,c4.step (by omega) (by omega) (by omega) (by omega) (by omega),a3.fin c9 (by omega)⟩
end
end SCL
namespace SCL
section
variable{c:CP->CP->Int}{ok:CP->Prop}{f:FuncId}{caps:List Value} [e:aI prog f]
def fD(c:CP->CP->Int)(ok:CP->Prop)(f:FuncId)(caps:List Value)(n:Nat):Prop:=∀(v:Value) (xs:List CP) (T:ay) (a b lim:Nat) (R:aA),OS 24 4 bP v xs T->a<=b->b<=xs.length->xs.length<=1000000000->lim<=1000000000->cf prog f caps R (λp:CP=>Value.agg (bP p).toArray) c ok->(∀x∈xs,ok x)->LB (ap c) xs a b->b-a<n->
  Spec prog 231 [v,.int .i64 a,.int .i64 b,.int .i64 lim,.func (.func f) #[] caps.toArray] R [T] λu H'=>∃T',H'=[T']/\u=.tuple #[]/\∃ys,OS 24 4 bP v ys T'/\RP a b xs ys/\SR (ap c) ys a b
theorem iS(n:Nat)(ih:fD c ok f caps n)(D:SO (ap c))(v:Value)(xs:List CP)(T:ay)(H F c7:Nat)(R:aA)(h:OS 24 4 bP v xs T)(d6:H<=F)(hb:F<=xs.length)(hl:xs.length<=1000000000)(e0:c7<=1000000000)(O:cf prog f caps R (λp:CP=>Value.agg (bP p).toArray) c ok)(e2:∀x∈xs,ok x)(d8:LB (ap c) xs H F)(hn:F-H<n+1):
  Spec prog 231 [v,.int .i64 H,.int .i64 F,.int .i64 c7,.func (.func f) #[] caps.toArray] R [T] λu H'=>∃T',H'=[T']/\u=.tuple #[]/\∃ys,OS 24 4 bP v ys T'/\RP H F xs ys/\SR (ap c) ys H F:=by
 have iv:=h.aL
 refine Spec.body func231 rfl results231 ntmps231 rfl ?_
 refine .sr<|.ag rfl<|.z<|.az rfl<|.block ?_
 refine .loop (X:=Nat×Nat×Nat×Bool×Bool×List CP×ay) (λy=>(H<=y.1/\y.1<=y.2.1/\y.2.1<=F/\y.2.2.1<=1000000000)/\OS 24 4 bP v y.2.2.2.2.2.1 y.2.2.2.2.2.2/\RP H F xs y.2.2.2.2.2.1/\OX (ap c) y.2.2.2.2.2.1 H F y.1 y.2.1) (λy=>[(0,v),(1,iN y.1),(2,iN y.2.1),(3,iN y.2.2.1),(4,.func (.func f) #[] caps.toArray),(10,.bool y.2.2.2.1),(11,.bool y.2.2.2.2.1)]) (λy=>[y.2.2.2.2.2.2]) (λy=>y.2.1-y.1) (H,F,c7,true,true,xs,T) ⟨⟨ac0 _,d6,ac0 _,e0⟩,h,.refl _,.start⟩ kE.c.c.c.c.c.c.c rH ?_
 rintro⟨a,b,l,wb,wp,ys,T1⟩ ⟨⟨e,c1,g,d7⟩,b1,U,Z⟩
 simp only at e c1 g d7 b1 U Z⊢
 have f0:=U.length
 have b8:∀x∈ys,ok x:=λx W=>e2 x (U.perm.mem_iff.1 W)
 have d1:=Z.lb (d8.rp U) e g
 refine .block<|.sr<|.mo rfl<|.mo rfl ?_
 refine .ia (b-a) .sub ?_
 refine .ag rfl<|.zs<|.sr<|.mo rfl<|.q .leq<|.zn ?_
 refine .cond rfl (λh1=>?_) λh1=>?_
 refine .sr<|.mo rfl<|.mo rfl<|.mo rfl<|.mo rfl ?_
 refine .bb (iJ v ys T1 a b _ b1 c1 (by omega) (by omega) O b8 D) (λu T2 k=>?_)
 obtain⟨rfl,N,I,B,c0⟩:=k
 refine .zn ?_
 refine .ret (aT (bg (cc (bg (aZ _ .none rH ?_)))))
 ·first
   |exact⟨_,rfl,rfl,N,I,U.trans (B.mono e g (by omega)),(Z.rp B e g).cZ c0⟩
   |exact⟨_,rfl,rfl,ms,a2,U.trans ((C.trans Y).mono e g (by omega)),(Z.rp (C.trans Y) e g).cZ (c4 (by assumption))⟩
 have f4:12<b-a:=by have:=aY h1;omega
 refine .kn<|.seq<|.sr<|.mo rfl<|.q .cA<|.zn ?_
 refine .cond rfl (λh2=>?_) λh2=>?_
 refine .sr<|.mo rfl<|.mo rfl<|.mo rfl<|.mo rfl ?_
 refine .bb (iI v ys T1 a b _ b1 c1 (by omega) (by omega) O b8 D) (λu T2 k=>?_)
 obtain⟨rfl,N,I,B,c0⟩:=k
 refine .zn ?_
 refine .ret (aT (bg (cc (bg (aZ _ .none rH ?_)))))
 ·first
   |exact⟨_,rfl,rfl,N,I,U.trans (B.mono e g (by omega)),(Z.rp B e g).cZ c0⟩
   |exact⟨_,rfl,rfl,ms,a2,U.trans ((C.trans Y).mono e g (by omega)),(Z.rp (C.trans Y) e g).cZ (c4 (by assumption))⟩
 have e9:0<l:=by
  have e8:¬((l:Int)=0):=by simpa using h2
  omega
 refine .kn<|.seq ?_
 refine bp.cut (X:=Nat×List CP×ay) (λz=>z.1<=1000000000/\OS 24 4 bP v z.2.1 z.2.2/\RP a b ys z.2.1) (λz=>[(0,v),(1,iN a),(2,iN b),(3,iN z.1),(4,.func (.func f) #[] caps.toArray),(10,.bool wb),(11,.bool wp),(12,.int .i64 ((b-a:Nat):Int))]) (λz=>[z.2.2]) ?_ ?_
 refine .sr<|.mo rfl<|.q .not<|.zn ?_
 refine .cond rfl (λh3=>?_) λh3=>?_
 refine .sr<|.mo rfl<|.mo rfl<|.mo rfl<|.mo rfl ?_
 refine .bb (iF v ys T1 a b _ (.func (.func f) #[] caps.toArray) inferInstance b1 c1 (by omega) (by omega)) (λu T2 k=>?_)
 obtain⟨rfl,N,I,B⟩:=k
 refine .zn<|.region<|.mo rfl ?_
 refine .ia (l-1) .sub ?_
 refine .ag rfl<|.nil ?_
 ·first
   |exact ax (l-1,N,T2) ⟨by simp only;omega,I,B⟩ kE.c.c.c.c.c.c.c.c rH
   |exact ax (l,ys,T1) ⟨by simp only;omega,b1,.refl _⟩ kE.c.c.c.c.c.c.c.c rH
 refine .skip ?_
 ·first
   |exact ax (l-1,N,T2) ⟨by simp only;omega,I,B⟩ kE.c.c.c.c.c.c.c.c rH
   |exact ax (l,ys,T1) ⟨by simp only;omega,b1,.refl _⟩ kE.c.c.c.c.c.c.c.c rH
 intro y hy
 obtain⟨r,N,T2⟩:=y
 obtain⟨s,I,B⟩:=hy
 simp only at s I B⊢
 have f1:=B.length
 have e3:∀x∈N,ok x:=λx W=>b8 x (B.perm.mem_iff.1 W)
 refine aD<|.sr<|.mo rfl<|.mo rfl<|.mo rfl<|.mo rfl ?_
 refine .bc (choose_spec v N a b _ (I.rs λp hp=>.inr (by simpa using hp)) (by omega) (by omega) (by omega) (O.mono λb o hb=>.inl hb) e3) (λu k=>?_)
 obtain⟨pv,d0,rfl,d2,d3⟩:=k
 refine .mo rfl<|.q .extract<|.q .extract<|.ag rfl<|.ag rfl<|.zs ?_
 refine bp.cut (X:=Nat×Int×List CP×ay) (λz=>(a<=z.1/\z.1<b)/\OS 24 4 bP v z.2.2.1 z.2.2.2/\RP a b ys z.2.2.1) (λz=>[(0,v),(1,iN a),(2,iN b),(3,iN r),(4,.func (.func f) #[] caps.toArray),(10,.bool wb),(11,.bool wp),(12,.int .i64 ((b-a:Nat):Int)),(13,iN z.1),(14,.int .i64 z.2.1)]) (λz=>[z.2.2.2]) ?_ ?_
 refine .sr<|.mo rfl<|.q .cA<|.zn ?_
 refine .cond rfl (λh4=>?_) λh4=>?_
 refine .sr<|.mo rfl<|.mo rfl<|.mo rfl<|.mo rfl ?_
 refine .bb (iT v N T2 a b _ (.func (.func f) #[] caps.toArray) inferInstance I (by omega) (by omega) (by omega)) (λu T3 k=>?_)
 obtain⟨rfl,ws,c8,c9⟩:=k
 refine .z<|.mo rfl ?_
 refine .ia (b-1) .sub ?_
 refine .mo rfl<|.mo rfl ?_
 refine .ia (pv-a) .sub ?_
 refine .ia ((b-1)-(pv-a)) .sub ?_
 refine .az rfl<|.region<|.ag rfl<|.nil ?_
 ·first
   |exact ax ((b-1)-(pv-a),1,ws,T3) ⟨by simp only;omega,c8,B.trans c9⟩ kE.c.c.c.c.c.c.c.c.c.c rH
   |exact ax (pv,d0,N,T2) ⟨⟨d2,d3⟩,I,B⟩ kE.c.c.c.c.c.c.c.c.c.c rH
 refine .skip ?_
 ·first
   |exact ax ((b-1)-(pv-a),1,ws,T3) ⟨by simp only;omega,c8,B.trans c9⟩ kE.c.c.c.c.c.c.c.c.c.c rH
   |exact ax (pv,d0,N,T2) ⟨⟨d2,d3⟩,I,B⟩ kE.c.c.c.c.c.c.c.c.c.c rH
 intro y hy
 obtain⟨q,f5,us,T4⟩:=y
 obtain⟨⟨c2,c3⟩,b2,C⟩:=hy
 simp only at c2 c3 b2 C⊢
 have f2:=C.length
 have e4:∀x∈us,ok x:=λx W=>b8 x (C.perm.mem_iff.1 W)
 refine aD<|.seq ?_
 refine bp.cut (X:=List CP×ay) (λz=>OS 24 4 bP v z.1 z.2/\RP a b ys z.1) (λz=>[(0,v),(1,iN a),(2,iN b),(3,iN r),(4,.func (.func f) #[] caps.toArray),(10,.bool wb),(11,.bool wp),(12,.int .i64 ((b-a:Nat):Int)),(13,iN q)]) (λz=>[z.2]) ?_ ?_
 refine .sr<|.mo rfl<|.mo rfl ?_
 refine .split (t:=69) rfl (λb5=>?_) (λb5=>?_)
 refine .gT b5<|.mo rfl<|.q (.bu b5) ?_
 refine .mo rfl ?_
 refine .split (t:=72) rfl (λa1=>?_) (λa1=>?_)
 refine .gT a1<|.mo rfl<|.gT a1<|.q .cA<|.q (.bu a1) ?_
 refine .zn ?_
 refine .cond rfl (λh5=>?_) λh5=>?_
 refine .sr<|.mo rfl<|.mo rfl<|.mo rfl<|.mo rfl ?_
 refine .bb (iQ v us T4 a b _ b2 (by omega) (by omega) (by omega) O e4 D (d1.rp C)) (λu T5 k=>?_)
 obtain⟨ms,mb,rfl,a2,Y,c4⟩:=k
 refine .zn ?_
 refine .cond rfl (λh6=>?_) λh6=>?_
 refine .ret (kZ (aT (bg (cc (bg (aZ _ .none rH ?_))))))
 ·first
   |exact⟨_,rfl,rfl,N,I,U.trans (B.mono e g (by omega)),(Z.rp B e g).cZ c0⟩
   |exact⟨_,rfl,rfl,ms,a2,U.trans ((C.trans Y).mono e g (by omega)),(Z.rp (C.trans Y) e g).cZ (c4 (by assumption))⟩
 refine .skip ?_
 ·first
   |exact ax (ms,T5) ⟨a2,C.trans Y⟩ kE.c.c.c.c.c.c.c.c.c rH
   |exact ax (us,T4) ⟨b2,C⟩ kE.c.c.c.c.c.c.c.c.c rH
 refine .skip ?_
 ·first
   |exact ax (ms,T5) ⟨a2,C.trans Y⟩ kE.c.c.c.c.c.c.c.c.c rH
   |exact ax (us,T4) ⟨b2,C⟩ kE.c.c.c.c.c.c.c.c.c rH
 refine .gF a1<|.gF a1<|.q (.bq a1) ?_
 refine .zn<|.bB<|.skip ?_
 ·first
   |exact ax (ms,T5) ⟨a2,C.trans Y⟩ kE.c.c.c.c.c.c.c.c.c rH
   |exact ax (us,T4) ⟨b2,C⟩ kE.c.c.c.c.c.c.c.c.c rH
 refine .gF b5<|.q (.bq b5) ?_
 refine .mo rfl<|.gX<|.gX<|.q .dv<|.zn<|.bB<|.skip ?_
 ·first
   |exact ax (ms,T5) ⟨a2,C.trans Y⟩ kE.c.c.c.c.c.c.c.c.c rH
   |exact ax (us,T4) ⟨b2,C⟩ kE.c.c.c.c.c.c.c.c.c rH
 intro y hy
 obtain⟨a9,T6⟩:=y
 obtain⟨b3,b4⟩:=hy
 simp only at b3 b4⊢
 have f3:=b4.length
 have a8:∀x∈a9,ok x:=λx W=>b8 x (b4.perm.mem_iff.1 W)
 have a3:RP H F xs a9:=U.trans (b4.mono e g (by omega))
 have a5:=Z.rp b4 e g
 have c5:=d1.rp b4
 obtain⟨p,hp⟩:∃x,a9[q]? =some x:=⟨_,aC (by omega)⟩
 have e5:=a8 p (aF hp)
 refine aD<|.seq<|.seq ?_
 refine .bQ 13 mixed (by kernel_rfl) ?_
 conv=>arg 6;dsimp only[List.take]
 refine .mo rfl<|.q .gtr<|.mo rfl ?_
 refine .split (t:=83) rfl (λi=>?_) (λi=>?_)
 have d5:0<a:=by have:=bo i;omega
 obtain⟨w,hw⟩:∃x,a9[a-1]? =some x:=⟨_,aC (by omega)⟩
 have e6:=a8 w (aF hw)
 refine .gT i<|.mo rfl<|.gT i<|.mo rfl<|.gT i<|.mo rfl<|.gT i ?_
 refine .ia (a-1) .sub ?_
 refine .gT i ?_
 refine .au (a-1) b3 hw (λf6=>?_)
 refine .gT i<|.q (.aE rfl)<|.gT i<|.mo rfl<|.gT i<|.mo rfl<|.gT i ?_
 refine .au q b3 hp (λf7=>?_)
 refine .gT i<|.q (.aE rfl)<|.nil<|.gT i ?_
 refine .cj (first:=[]) (captured:=caps) (vs:=[(λp:CP=>Value.agg (bP p).toArray) w,(λp:CP=>Value.agg (bP p).toArray) p]) (O w p e6 e5 _ (λb o hb=>.inl hb)) (λu k=>?_)
 subst k
 refine .gT i<|.q .lss<|.gT i<|.q .not<|.q (.bu i) ?_
 refine .zn ?_
 refine .cond rfl (λh7=>?_) λh7=>?_
 have e1:ap c w p=false:=by
  have d4:(!ap c w p)=true:=h7
  simpa using d4
 refine .sr<|.mo rfl<|.mo rfl<|.mo rfl<|.mo rfl<|.mo rfl ?_
 refine .bb (iP v a9 T6 a b q p _ b3 (by omega) ⟨c2,c3⟩ hp (by omega) (by omega) O a8 D (c5.lc D d5 hw e1)) (λu Q k=>?_)
 obtain⟨E,j,rfl,S,m,A⟩:=k
 have a7:=A.lo
 have a6:=A.hi
 refine .ag rfl<|.z<|.mo rfl<|.az rfl<|.exit<|aP<|aR ?_
 ·first
   |exact aN (j+1,b,r,_,_,M,G) ⟨⟨by simp only;omega,by simp only;omega,by simp only;omega,s⟩,J,K,L⟩ (by simp only;omega) (((((((kE.d rfl).d rfl).d rfl).d rfl).d rfl).d rfl).d rfl) rH
   |exact aN (a,j,r,_,_,M,G) ⟨⟨e,a7,by simp only;omega,s⟩,J,K,L⟩ (by simp only;omega) (((((((kE.d rfl).d rfl).d rfl).d rfl).d rfl).d rfl).d rfl) rH
   |exact aN (j,b,r,_,_,E,Q) ⟨⟨by simp only;omega,a6,g,s⟩,S,a3.trans (m.mono e g (by omega)),(a5.rp m e g).eqs D A⟩ (by simp only;omega) (((((((kE.d rfl).d rfl).d rfl).d rfl).d rfl).d rfl).d rfl) rH
 refine .kn<|.sr<|.mo rfl<|.mo rfl<|.mo rfl<|.mo rfl<|.mo rfl ?_
 refine .bb (fJ v a9 T6 a b q p _ b3 (by omega) ⟨c2,c3⟩ hp (by omega) (by omega) O a8 D) (λu Q k=>?_)
 obtain⟨E,j,e7,rfl,S,m,A⟩:=k
 have a7:=A.lo
 have a6:=A.hi
 have d9:=m.length
 have b9:∀x∈E,ok x:=λx W=>a8 x (m.perm.mem_iff.1 W)
 have b7:=a5.rp m e g
 have b6:RP H F xs E:=a3.trans (m.mono e g (by omega))
 have c6:=c5.rp m
 refine .mo rfl<|.q .extract<|.q .extract<|.ag rfl<|.ag rfl<|.z<|.mo rfl<|.ag rfl<|.z<|.mo rfl<|.mo rfl ?_
 refine .ia (j-a) .sub ?_
 refine .mo rfl<|.mo rfl ?_
 refine .ia (b-j) .sub ?_
 refine .ag rfl<|.ag rfl<|.z<|.mo rfl ?_
 refine .q (.i64 (((b-a)/8:Nat):Int) .quo ⟨by rw[ac5 (by omega)];omega,by omega,by omega⟩) ?_
 refine .ag rfl<|.z<|.mo rfl<|.mo rfl<|.q .lss<|.zn ?_
 refine .cond rfl (λh8=>?_) λh8=>?_
 refine .sr<|.mo rfl<|.mo rfl<|.q .geq<|.ag rfl<|.z<|.mo rfl<|.mo rfl<|.mo rfl<|.mo rfl<|.mo rfl ?_
 refine .bb (ih v E Q a j r _ S (by omega) (by omega) (by omega) s O b9 (c6.less (by omega)) (by omega)) (λu G k=>?_)
 obtain⟨rfl,M,J,V,a4⟩:=k
 have L:=b7.left D A V a4 e g (by omega)
 have K:=b6.trans (V.mono e (by omega) (by omega))
 refine .zn<|.region<|.mo rfl ?_
 refine .ia (j+1) .add ?_
 refine .ag rfl<|.nil<|bi ?_
 ·first
   |exact aN (j+1,b,r,_,_,M,G) ⟨⟨by simp only;omega,by simp only;omega,by simp only;omega,s⟩,J,K,L⟩ (by simp only;omega) (((((((kE.d rfl).d rfl).d rfl).d rfl).d rfl).d rfl).d rfl) rH
   |exact aN (a,j,r,_,_,M,G) ⟨⟨e,a7,by simp only;omega,s⟩,J,K,L⟩ (by simp only;omega) (((((((kE.d rfl).d rfl).d rfl).d rfl).d rfl).d rfl).d rfl) rH
   |exact aN (j,b,r,_,_,E,Q) ⟨⟨by simp only;omega,a6,g,s⟩,S,a3.trans (m.mono e g (by omega)),(a5.rp m e g).eqs D A⟩ (by simp only;omega) (((((((kE.d rfl).d rfl).d rfl).d rfl).d rfl).d rfl).d rfl) rH
 refine .sr<|.mo rfl<|.mo rfl<|.q .geq<|.ag rfl<|.z<|.mo rfl<|.mo rfl ?_
 refine .ia (j+1) .add ?_
 refine .mo rfl<|.mo rfl<|.mo rfl ?_
 refine .bb (ih v E Q (j+1) b r _ S (by omega) (by omega) (by omega) s O b9 A.lb (by omega)) (λu G k=>?_)
 obtain⟨rfl,M,J,V,a4⟩:=k
 have L:=b7.right D A V a4 e g (by omega)
 have K:=b6.trans (V.mono (by omega) g (by omega))
 refine .zn<|.region<|.mo rfl<|.ag rfl<|.nil<|bi ?_
 ·first
   |exact aN (j+1,b,r,_,_,M,G) ⟨⟨by simp only;omega,by simp only;omega,by simp only;omega,s⟩,J,K,L⟩ (by simp only;omega) (((((((kE.d rfl).d rfl).d rfl).d rfl).d rfl).d rfl).d rfl) rH
   |exact aN (a,j,r,_,_,M,G) ⟨⟨e,a7,by simp only;omega,s⟩,J,K,L⟩ (by simp only;omega) (((((((kE.d rfl).d rfl).d rfl).d rfl).d rfl).d rfl).d rfl) rH
   |exact aN (j,b,r,_,_,E,Q) ⟨⟨by simp only;omega,a6,g,s⟩,S,a3.trans (m.mono e g (by omega)),(a5.rp m e g).eqs D A⟩ (by simp only;omega) (((((((kE.d rfl).d rfl).d rfl).d rfl).d rfl).d rfl).d rfl) rH
 refine .gF i<|.gF i<|.gF i<|.gF i<|.gF i<|.gF i<|.gF i<|.gF i<|.gF i<|.gF i<|.nil<|.gF i<|.gF i<|.gF i<|.q (.bq i) ?_
 refine .zn<|.bB<|.kn<|.sr<|.mo rfl<|.mo rfl<|.mo rfl<|.mo rfl<|.mo rfl ?_
 refine .bb (fJ v a9 T6 a b q p _ b3 (by omega) ⟨c2,c3⟩ hp (by omega) (by omega) O a8 D) (λu Q k=>?_)
 obtain⟨E,j,e7,rfl,S,m,A⟩:=k
 have a7:=A.lo
 have a6:=A.hi
 have d9:=m.length
 have b9:∀x∈E,ok x:=λx W=>a8 x (m.perm.mem_iff.1 W)
 have b7:=a5.rp m e g
 have b6:RP H F xs E:=a3.trans (m.mono e g (by omega))
 have c6:=c5.rp m
 refine .mo rfl<|.q .extract<|.q .extract<|.ag rfl<|.ag rfl<|.z<|.mo rfl<|.ag rfl<|.z<|.mo rfl<|.mo rfl ?_
 refine .ia (j-a) .sub ?_
 refine .mo rfl<|.mo rfl ?_
 refine .ia (b-j) .sub ?_
 refine .ag rfl<|.ag rfl<|.z<|.mo rfl ?_
 refine .q (.i64 (((b-a)/8:Nat):Int) .quo ⟨by rw[ac5 (by omega)];omega,by omega,by omega⟩) ?_
 refine .ag rfl<|.z<|.mo rfl<|.mo rfl<|.q .lss<|.zn ?_
 refine .cond rfl (λh8=>?_) λh8=>?_
 refine .sr<|.mo rfl<|.mo rfl<|.q .geq<|.ag rfl<|.z<|.mo rfl<|.mo rfl<|.mo rfl<|.mo rfl<|.mo rfl ?_
 refine .bb (ih v E Q a j r _ S (by omega) (by omega) (by omega) s O b9 (c6.less (by omega)) (by omega)) (λu G k=>?_)
 obtain⟨rfl,M,J,V,a4⟩:=k
 have L:=b7.left D A V a4 e g (by omega)
 have K:=b6.trans (V.mono e (by omega) (by omega))
 refine .zn<|.region<|.mo rfl ?_
 refine .ia (j+1) .add ?_
 refine .ag rfl<|.nil<|bi ?_
 ·first
   |exact aN (j+1,b,r,_,_,M,G) ⟨⟨by simp only;omega,by simp only;omega,by simp only;omega,s⟩,J,K,L⟩ (by simp only;omega) (((((((kE.d rfl).d rfl).d rfl).d rfl).d rfl).d rfl).d rfl) rH
   |exact aN (a,j,r,_,_,M,G) ⟨⟨e,a7,by simp only;omega,s⟩,J,K,L⟩ (by simp only;omega) (((((((kE.d rfl).d rfl).d rfl).d rfl).d rfl).d rfl).d rfl) rH
   |exact aN (j,b,r,_,_,E,Q) ⟨⟨by simp only;omega,a6,g,s⟩,S,a3.trans (m.mono e g (by omega)),(a5.rp m e g).eqs D A⟩ (by simp only;omega) (((((((kE.d rfl).d rfl).d rfl).d rfl).d rfl).d rfl).d rfl) rH
 refine .sr<|.mo rfl<|.mo rfl<|.q .geq<|.ag rfl<|.z<|.mo rfl<|.mo rfl ?_
 refine .ia (j+1) .add ?_
 refine .mo rfl<|.mo rfl<|.mo rfl ?_
 refine .bb (ih v E Q (j+1) b r _ S (by omega) (by omega) (by omega) s O b9 A.lb (by omega)) (λu G k=>?_)
 obtain⟨rfl,M,J,V,a4⟩:=k
 have L:=b7.right D A V a4 e g (by omega)
 have K:=b6.trans (V.mono (by omega) g (by omega))
 refine .zn<|.region<|.mo rfl<|.ag rfl<|.nil<|bi ?_
 ·first
   |exact aN (j+1,b,r,_,_,M,G) ⟨⟨by simp only;omega,by simp only;omega,by simp only;omega,s⟩,J,K,L⟩ (by simp only;omega) (((((((kE.d rfl).d rfl).d rfl).d rfl).d rfl).d rfl).d rfl) rH
   |exact aN (a,j,r,_,_,M,G) ⟨⟨e,a7,by simp only;omega,s⟩,J,K,L⟩ (by simp only;omega) (((((((kE.d rfl).d rfl).d rfl).d rfl).d rfl).d rfl).d rfl) rH
   |exact aN (j,b,r,_,_,E,Q) ⟨⟨by simp only;omega,a6,g,s⟩,S,a3.trans (m.mono e g (by omega)),(a5.rp m e g).eqs D A⟩ (by simp only;omega) (((((((kE.d rfl).d rfl).d rfl).d rfl).d rfl).d rfl).d rfl) rH
theorem iR(q:SO (ap c))(n:Nat):fD c ok f caps n:=by
 induction n with
 |zero=>exact λv e T a b d R _ _ _ _ _ _ _ _ r=>by omega
 |succ n ih=>exact λv e T a b d R g h i j k l m o p=>iS n ih q v e T a b d R g h i j k l m o p
end
end SCL
namespace SCL
section
variable{c:CP->CP->Int}{ok:CP->Prop}{f:FuncId}{caps:List Value} [e:aI prog f]
theorem iW(v:Value)(xs:List CP)(T:ay)(R:aA)(h:OS 24 4 bP v xs T)(k:xs.length<=1000000000)(j:cf prog f caps R (λp:CP=>Value.agg (bP p).toArray) c ok)(l:∀x∈xs,ok x)(m:SO (ap c)):
  Spec prog 148 [v,.func (.func f) #[] caps.toArray] R [T] λu H'=>∃T',H'=[T']/\u=.tuple #[]/\∃ys,OS 24 4 bP v ys T'/\ys.Perm xs/\SR (ap c) ys 0 ys.length:=by
 have s:=h.aL
 have i:Lib.bitLen xs.length<=1000000000:=by
  have r:=bitLen_le 64 xs.length
  have o:Lib.bitLen xs.length=Lib.bitLenAux 64 xs.length:=rfl
  omega
 refine Spec.body func148 rfl results148 ntmps148 rfl ?_
 refine .sr<|.mo rfl<|.q (.fV h) ?_
 refine .az rfl<|.region<|.mo rfl<|.mo rfl<|.mo rfl ?_
 refine .q (bd.cast (v':=.int .u64 ((xs.length:Nat):Int)) .ez (by rw[gr (by omega) (by omega)])) ?_
 refine .bc (kj xs.length (by omega) _) (λu a=>?_)
 subst a
 refine .mo rfl ?_
 refine .bb (iR m (xs.length+1) v xs T 0 xs.length (Lib.bitLen xs.length) _ h (Nat.zero_le _) (ac0 _) k i j l (λd=>absurd d (by omega)) (by omega)) (λu n a=>?_)
 obtain⟨rfl,ys,e,b,g⟩:=a
 refine .nil<|ct _ .none rH ?_
 ·exact⟨_,rfl,rfl,ys,e,b.perm,b.length▸g⟩
end
end SCL
def kS(M:List (ByteArray×CP))(k:ByteArray):cd:=((bX k M).map (·.2)).getD cd.zero
theorem Ee{M:List (ByteArray×CP)}(a:(M.map (·.1)).Nodup):(M.map (·.1)).map (kS M)=M.map (·.2.2):=by
 rw[List.map_map]
 refine List.map_congr_left λp b=>?_
 have:bX p.1 M=some p.2:=gz a (by exact b)
 simp[kS,this]
theorem ue(g:Nat)(A:List cd)(T:ay)(h:RI g A T)(hl:A.length<=1000000)(R:aA)(w:∀p∈T,R p.1 p.2):
  Spec prog 74 [pT g] R [] λv H'=>∃T',H'=[T']/\∃ps To Ti,T'=To++Ti/\OS 24 4 bP v ps To/\(∀p∈ps,et (sg Ti) p.1 p.2)/\(ps.map (·.2)).Perm A/\ps.Pairwise (λp q=>ap kI q p=false):=by
 obtain⟨vm,M,Tm,G,rfl,i,hI,H⟩:=h
 obtain⟨d,rfl⟩:∃b,vm=.map (some b):=by obtain⟨b,es,clock,h1,_⟩:=i;exact⟨b,h1⟩
 have pq:PC R (pT g) [.map (some d)]:=PC.of (E:=222) (fr:=(0,0)) (w (g,.cells [.map (some d)].toArray 222 (0,0)) (by simp))
 have rm:RM R (λs:ByteArray=>.string s) (λp:CR×cd=>.agg p.1.cells.toArray) (.map (some d)) M:=i.rm λp hp=>w p (by simp[hp])
 have hT:∀b o,sg G b o->R b o:=λb o a=>w (b,o) (by have:(b,o)∈G:=a;simp[this])
 have b0:M.length=A.length:=by simpa using H.length_eq
 refine Spec.ep (H':=[[],[]]) (by simp) ?_
 refine Spec.body func74 rfl results74 ntmps74 rfl ?_
 refine .sr<|.ag rfl<|.zs<|.sr<|.mo rfl ?_
 refine .bc (pM g d _) (λv B=>?_)
 subst B
 refine .q .not<|.zn<|.bB<|.kn<|.sr<|.ag rfl<|.zs<|.sr<|.mo rfl<|.nc rfl<|.fa rfl<|.lo rfl ?_
 refine .range rm (λ_ _=>.inl) rfl (λU Z a5=>?_)
 refine .zn<|.block ?_
 refine .loop (X:=List CP×List ByteArray×Value×ay×ay×ay) (λy=>(∀p∈y.1,et (sg y.2.2.2.2.1) p.1 p.2)/\y.2.1.Nodup/\(y.1.map (·.2)++y.2.1.map (kS M)).Perm A/\OS 24 4 bP y.2.2.1 y.1 y.2.2.2.1/\It R (λs:ByteArray=>.string s) (λp:CR×cd=>.agg p.1.cells.toArray) (.map (some d)) M U y.2.1 y.2.2.2.2.2) (λy=>[(0,pT g),(3,y.2.2.1),(13,U)]) (λy=>[y.2.2.2.2.2,y.2.2.2.1,y.2.2.2.2.1]) (λy=>y.2.1.length) ([],M.map (·.1),sZ,[],[],Z) ⟨by simp,i.nd,by rw[Ee i.nd];exact H,OS.nil,a5⟩ kE.c.c.c rH ?_
 rintro⟨ps,a8,vo,To,m,Ti⟩ ⟨l,t,f,j,L⟩
 simp only at l t f j L⊢
 have i2:=j.aL
 have Q:=f.length_eq
 simp only[List.length_append,List.length_map]at Q
 refine .sr ?_
 refine .l9 L (λ_ _=>.inl) rfl (λb rest a0 hf ht=>?_)
 refine .q .extract<|.zs ?_
 refine .cond rfl (λn=>?_) λn=>?_
 obtain⟨k,⟨C,e⟩,hk,O,N⟩:=ht n
 obtain⟨_,J,a2⟩:=hI (k,(C,e)) (ig O)
 have i3:cg C.cells:=⟨J.cK⟩
 have a4:kS M k=e:=by simp[kS,O]
 have K:=filter_one t hk
 refine .kn<|.block<|.sr ?_
 refine .q (.entry N (λ_ _=>.inl) rfl) ?_
 refine .q .extract ?_
 refine .dz (λb5=>?_)
 refine .dx rfl rfl<|.zn<|.region<|.mo rfl<|.q (.aE rfl) ?_
 refine .cL (pN C e _ (J.mono λb o a=>.inl (hT b o a)) a2) (λv W B=>?_)
 obtain⟨D,rfl,r⟩:=B
 have i4:cg D.cells:=⟨r.cK⟩
 refine .je (λa9=>?_)
 refine .append j (RS.lits (xs:=[(D,e)]) rfl (by simp[bP,CR.cells]) (by have:=r.cK;simpa[bP]using this)) (by simp;omega) (λv5 Y a1=>?_)
 refine .ag rfl<|.nil<|bi ?_
 ·refine aN (ps++[(D,e)],a8.filter λk'=>decide (k'≠k),v5,Y,W++m,a0) ⟨λp hp=>?_,t.sublist List.filter_sublist,?_,a1,N.it⟩ ?_ kE.c.c.c ((cu [3,3,1,2]).trans (bV.du (by simp[take,cq])))
  ·simp only
   rcases List.mem_append.1 hp with hp|hp
   ·exact(l p hp).mono λb o a=>kx a
   ·simp only[List.mem_singleton]at hp;subst hp
    exact r.mono λb o a=>ny a
  ·simp only
   refine List.Perm.trans ?_ f
   rw[List.map_append,List.append_assoc]
   refine List.Perm.append_left _ ?_
   have:=(K.map (kS M)).symm
   rw[List.map_cons,a4]at this
   exact this
  ·have:=K.length_eq
   simp only[List.length_cons]at this
   simp only;omega
 have a7:=hf n
 subst a7
 simp only[List.map_nil,List.append_nil]at f
 have a3:cf prog 149 [] R (λp:CP=>Value.agg (bP p).toArray) kI nG:=λx y hx hy V _=>tR x y V hx hy
 refine .exit<|aP<|aV<|aR<|aD<|.sr<|.mo rfl ?_
 refine .bb (SCL.iW (caps:=[]) vo ps To _ j (by simp at Q;omega) a3 (λp hp=>(l p hp).cK) tQ) (λu F hu=>?_)
 obtain⟨rfl,ys,I,S,a6⟩:=hu
 have i5:=I.aL
 refine .z<|.mo rfl<|.az rfl ?_
 refine .ret (aZ _ (.one (.tmp rfl)) ((cu [1,1]).trans (bV.du (H':=[F++m]) (by simp[take,cq]))) ?_)
 ·exact⟨_,rfl,ys,F,m,rfl,I,λp hp=>l p (S.mem_iff.1 hp),(S.map _).trans f,a6.ordered⟩
def CL(R:aA)(ps:List CP):Prop:=∀p∈ps,et R p.1 p.2
abbrev eX(ps:List CP):List cd:=ps.map (·.2)
def kz(cs:List cd)(i:Nat):Bool:=match cs[i]? with
 |none=>true
 |some c=>decide (c.check=0)&&(decide (i=0)||match cs[i-1]? with
  |none=>true
  |some d=>cD d.id c.id)
def ji(cs:List cd)(n:Nat):Bool:=(List.range n).all (kz cs)
def jh(cs:List cd):Bool:=decide (cs.length<=64)&&ji cs cs.length
theorem m8{cs:List cd}{i:Nat}:ji cs (i+1)=(ji cs i&&kz cs i):=by
 simp[ji,List.range_succ]
theorem Fg{cs:List cd}{i n:Nat}(h:ji cs n=true)(a:i<=n):ji cs i=true:=by
 simp only[ji,List.all_eq_true,List.mem_range]at h⊢
 exact λj b=>h j (by omega)
theorem oN{cs:List cd}{i:Nat}{c:cd}(b:cs[i]? =some c)(h:kz cs i=true):c.check=0/\(i=0\/∃d,cs[i-1]? =some d/\cD d.id c.id=true):=by
 have f:=(ac1.1 b).1
 simp only[kz,b,ac7,ac8,adb]at h
 refine⟨h.1,h.2.imp id λa=>?_⟩
 obtain⟨d,e⟩:∃d,cs[i-1]? =some d:=⟨_,aC (by omega)⟩
 rw[e]at a
 exact⟨d,e,a⟩
theorem su{cs:List cd}{i:Nat}{c:cd}(e:cs[i]? =some c)(a:c.check=0)(b:i=0\/∃d,cs[i-1]? =some d/\cD d.id c.id=true):kz cs i=true:=by
 simp only[kz,e,ac7,ac8,adb]
 refine⟨a,b.imp id λ⟨d,f,g⟩=>?_⟩
 rw[f];exact g
theorem rB{cs:List cd}:∀{i:Nat} {c:cd},ji cs (i+1)=true->cs[i]? =some c->∀(j:Nat) (d:cd),j<i->cs[j]? =some d->cD d.id c.id=true
 |0,c,_,_,j,d,hj,_=>by omega
 |i+1,c,h,hc,j,d,hj,hd=>by
  rw[m8,ac7]at h
  obtain⟨_,h2⟩:=oN hc h.2
  rcases h2 with h2|⟨e,a,b⟩
  ·omega
  ·rw[Nat.add_sub_cancel]at a
   by_cases f:j=i
   ·subst f
    rw[a]at hd;cases hd;exact b
   ·exact jk (rB h.1 a j d (by omega) hd) b
theorem Fh{cs:List cd}{i:Nat}{c:cd}(h:ji cs (i+1)=true)(f:cs[i]? =some c):jI c.id (cs.take i)=none:=by
 unfold jI
 rw[List.find?_eq_none]
 intro d g
 obtain⟨j,a,b⟩:=List.mem_iff_getElem.1 g
 have l:j<i:=by simp at a;omega
 have k:cs[j]? =some d:=by
  rw[List.getElem_take]at b
  rw[aC (by simp at a;omega),b]
 have:=rB h f j d l k
 simp only[ac8]
 intro e
 rw[e,iu]at this;cases this
theorem m6{cs:List cd}{i:Nat}{c:cd}(h:jh cs=true)(b:cs[i]? =some c):kz cs i=true/\fE (cs.take i) c=(0,cs.take i++[c]):=by
 have f:=(ac1.1 b).1
 simp only[jh,ac7,ac8]at h
 have d:=Fg h.2 (show i+1<=cs.length by omega)
 have a:=d
 rw[m8,ac7]at a
 refine⟨a.2,?_⟩
 have e:=(oN b a.2).1
 unfold fE
 rw[ac3 (by simp[e]),Fh d b]
 simp only[Option.isSome_none,Bool.false_eq_true,if_false]
 rw[ac3 (by simp;omega)]
theorem pC{A:List cd}{c:cd}(h:(fE A c).1=0):(fE A c).2=A++[c]/\c.check=0/\A.length<64:=by
 unfold fE at h⊢
 split at h
 ·rename_i a;exact absurd h a
 ·rename_i a
  split at h
  ·simp at h
  ·rename_i b
   split at h
   ·simp at h
   ·rename_i d
    rw[ac3 a,ac3 b,ac3 d]
    exact⟨rfl,by simpa using a,by omega⟩
namespace SST
def fA(c:ByteArray->ByteArray->Int)(ok:ByteArray->Prop)(R:aA):Prop:=c=dk
theorem fA.mono{c:ByteArray->ByteArray->Int}{ok:ByteArray->Prop}{R R':aA}(h:fA c ok R)(a:∀b o,R b o->R' b o):fA c ok R':=h
theorem GF(a:ByteArray)(R:aA):Spec prog 431 [.string a] R [] λu H'=>u=.bool false/\H'=[]:=by
 refine Spec.body func431 rfl results431 ntmps431 rfl ?_
 refine .sr<|.ag rfl<|.z<|.mo rfl<|.mo rfl<|.q .m2<|.az rfl ?_
 refine .ret (br rfl ?_)
 ·exact⟨by simp,rfl⟩
theorem gB{c:ByteArray->ByteArray->Int}{ok:ByteArray->Prop}{e:aA}(g:fA c ok e)(a b:ByteArray)(R:aA):Spec prog 378 [.string a,.string b] R [] λu H'=>u=.bool (decide (c a b<0))/\H'=[]:=by
 have f:c=dk:=g
 subst f
 refine Spec.body func378 rfl results378 ntmps378 rfl ?_
 refine .sr<|.ag rfl<|.z<|.mo rfl ?_
 refine .bc (GF a _) (λu h=>?_)
 subst h
 refine .mo rfl ?_
 refine .split (t:=7) rfl (λd=>?_) (λd=>?_)
 ·simp at d
 refine .gF d<|.gF d<|.gF d<|.q (.bq d) ?_
 refine .mo rfl<|.gt rfl ?_
 refine .mo rfl<|.gt rfl ?_
 refine .mo rfl<|.gt rfl ?_
 refine .q .EX<|.q .dv<|.az rfl ?_
 refine .ret (br rfl ?_)
 ·exact⟨congrArg _ (by rw[Bool.eq_iff_iff,iq];simp),rfl⟩
end SST
namespace SST
section
variable{c:ByteArray->ByteArray->Int}{ok:ByteArray->Prop}
theorem iJ(v:Value)(xs:List ByteArray)(T:ay)(a b:Nat)(R:aA)(h:OS 9 1 bU v xs T)(W:a<=b)(Y:b<=xs.length)(hl:xs.length<=1000000000)(K:fA c ok R)(G:∀x∈xs,ok x)(D:SO (ap c)):
  Spec prog 372 [v,.int .i64 a,.int .i64 b] R [T] λu H'=>∃T',H'=[T']/\u=.tuple #[]/\∃ys,OS 9 1 bU v ys T'/\RP a b xs ys/\SR (ap c) ys a b:=by
 have iv:=h.aL
 refine Spec.body func372 rfl results372 ntmps372 rfl ?_
 refine .sr<|.mo rfl ?_
 refine .ia (a+1) .add ?_
 refine .az rfl<|.block ?_
 refine .loop (X:=Nat×List ByteArray×ay) (λy=>(a+1<=y.1/\(y.1<=b\/y.1=a+1))/\OS 9 1 bU v y.2.1 y.2.2/\RP a b xs y.2.1/\SR (ap c) y.2.1 a y.1) (λy=>[(0,v),(1,iN a),(2,iN b),(6,iN y.1)]) (λy=>[y.2.2]) (λy=>b-y.1) (a+1,xs,T) ⟨⟨by simp only;omega,.inr rfl⟩,h,.refl _,λi j o l F=>by simp only at F;omega⟩ kE.c.c.c.c rH ?_
 rintro⟨i,ys,I⟩ ⟨⟨L,M⟩,A,z,B⟩
 simp only at L M A z B⊢
 have a1:=z.length
 refine .seq<|.sr<|.mo rfl<|.mo rfl<|.q .lss<|.zn ?_
 refine .cond rfl (λo=>?_) λo=>?_
 have a0:i<b:=by simp at o;omega
 refine .kn<|.seq<|.block<|.sr<|.mo rfl<|.az rfl<|.block ?_
 refine .loop (X:=Nat×List ByteArray×ay) (λy=>(a<=y.1/\y.1<=i)/\OS 9 1 bU v y.2.1 y.2.2/\RP a b xs y.2.1/\fg (ap c) y.2.1 a y.1 (i+1)) (λy=>[(0,v),(1,iN a),(2,iN b),(6,iN i),(7,iN y.1)]) (λy=>[y.2.2]) (λy=>y.1) (i,ys,I) ⟨⟨by simp only;omega,ac0 _⟩,A,z,B.ins⟩ kE.c.c.c.c.c rH ?_
 rintro⟨j,p,E⟩ ⟨⟨N,O⟩,e,m,s⟩
 simp only at N O e m s⊢
 have a2:=m.length
 refine .seq<|.seq ?_
 refine .bQ 13 mixed (by kernel_rfl) ?_
 conv=>arg 6;dsimp only[List.take]
 refine .mo rfl<|.mo rfl<|.q .gtr<|.mo rfl ?_
 refine .split (t:=19) rfl (λd=>?_) (λd=>?_)
 have C:a<j:=by have:=bo d;omega
 obtain⟨x,f⟩:∃x,p[j]? =some x:=⟨_,aC (by omega)⟩
 obtain⟨y,g⟩:∃x,p[j-1]? =some x:=⟨_,aC (by omega)⟩
 have a3:=G x (m.perm.mem_iff.1 (aF f))
 have a4:=G y (m.perm.mem_iff.1 (aF g))
 refine .gT d<|.mo rfl<|.gT d<|.mo rfl<|.gT d ?_
 refine .au j e f (λa5=>?_)
 refine .gT d<|.lo rfl<|.gT d<|.mo rfl<|.gT d<|.mo rfl<|.gT d ?_
 refine .ia (j-1) .sub ?_
 refine .gT d ?_
 refine .au (j-1) e g (λa6=>?_)
 refine .gT d<|.lo rfl<|.nil<|.gT d ?_
 refine .bc (gB K x y _) (λu n=>?_)
 subst n
 refine .q (.bu d) ?_
 refine .zn ?_
 refine .cond rfl (λl=>?_) λl=>?_
 refine .kn<|.seq<|.block<|.bF [15,17] mixed ?_
 refine .tO 0 rfl .move<|.tO 1 rfl .move<|.tK 2 rfl .move<|.tK 3 rfl .move ?_
 refine .take 4 rfl (.i64 ((j-1:Nat):Int) .sub ⟨by omega,by omega,by omega⟩) (by kernel_rfl) ?_
 refine .tO 5 rfl .move<|.tO 6 rfl .move ?_
 refine .cH 7 rfl (.i64 ((j-1:Nat):Int) .sub ⟨by omega,by omega,by omega⟩) (by kernel_rfl) ?_
 refine RA.au 8 rfl (j-1) e g rfl rfl rfl (by kernel_rfl) (λa7=>?_)
 refine .tO 9 rfl (.bO rfl)<|.tO 10 rfl .move<|.tO 11 rfl .move ?_
 refine RA.au 12 rfl (j) e f rfl rfl rfl (by kernel_rfl) (λa8=>?_)
 refine .tO 13 rfl (.bO rfl) ?_
 refine RA.au 14 rfl (j) e f rfl rfl rfl (by kernel_rfl) (λa9=>?_)
 refine .sT 15 rfl ?_
 refine .dq (j) e f y (λV S=>?_)
 refine .nil (Next.mod rfl ?_)
 refine RA.au 16 rfl (j-1) e g rfl rfl rfl (by kernel_rfl) (λb0=>?_)
 refine .sT 17 rfl ?_
 obtain⟨zz,U⟩:∃u,(p.set (j) y)[j-1]? =some u:=⟨_,aC (by rw[ac2];exact(ac1.1 g).1)⟩
 refine .dq (j-1) S U x (λJ H=>?_)
 rw[<-bS f g]at H
 refine .nil (Next.mod rfl ?_)
 refine RA.nil (by kernel_rfl) ?_
 refine bi<|aD<|.region<|.mo rfl ?_
 refine .ia (j-1) .sub ?_
 refine .ag rfl<|.nil ?_
 ·have Q:ap c x y=true:=l
  exact aN (j-1,bn p j (j-1),J) ⟨⟨by simp only;omega,by simp only;omega⟩,H,m.step (by omega) (by omega) (by omega) (by omega) (by omega),s.step D (by omega) (by omega) C f g Q⟩ (by simp only;omega) kE.c.c.c.c.c rH
 refine .exit<|aP<|aV<|aR<|bi<|aD<|.region<|.mo rfl ?_
 refine .ia (i+1) .add ?_
 refine .ag rfl<|.nil ?_
 ·refine aN (i+1,p,E) ⟨⟨by simp only;omega,.inl (by simp only;omega)⟩,e,m,s.done D (by omega) (by omega) ?_⟩ (by simp only;omega) kE.c.c.c.c rH
  first
   |exact .inr ⟨C,λu w n r=>by
     rw[g]at n;rw[f]at r;cases n;cases r;exact l⟩
   |exact .inl (by have:=aY d;omega)
 refine .gF d<|.gF d<|.gF d<|.gF d<|.gF d<|.gF d<|.gF d<|.gF d<|.gF d<|.nil<|.gF d<|.q (.bq d) ?_
 refine .zn<|.bB<|.exit<|aP<|aV<|aR<|bi<|aD<|.region<|.mo rfl ?_
 refine .ia (i+1) .add ?_
 refine .ag rfl<|.nil ?_
 ·refine aN (i+1,p,E) ⟨⟨by simp only;omega,.inl (by simp only;omega)⟩,e,m,s.done D (by omega) (by omega) ?_⟩ (by simp only;omega) kE.c.c.c.c rH
  first
   |exact .inr ⟨C,λu w n r=>by
     rw[g]at n;rw[f]at r;cases n;cases r;exact l⟩
   |exact .inl (by have:=aY d;omega)
 refine .exit<|aP<|aV<|aR<|ct _ .none rH ?_
 ·have Z:b<=i:=by simp at o;omega
  exact⟨_,rfl,rfl,ys,A,z,λj k o l F=>B j k o l (by omega)⟩
theorem fL(v:Value)(xs:List ByteArray)(T:ay)(lo g b:Nat)(R:aA)(h:OS 9 1 bU v xs T)(a7:lo<=g)(hb:b+g<=xs.length)(hl:xs.length<=1000000000)(hf:fA c ok R)(Z:∀x∈xs,ok x)(F:SO (ap c)):
    Spec prog 428 [v,.int .i64 lo,.int .i64 g,.int .i64 b] R [T] λu H'=>∃T',H'=[T']/\u=.tuple #[]/\∃ys,OS 9 1 bU v ys T'/\RP b (b+g) xs ys/\
      (ew (λx y=>ap c y x) (xs.drop b) g lo lo->dI (λx y=>ap c y x) (ys.drop b) g lo):=by
  have iv:=h.aL
  have a1:=F.rev
  refine Spec.body func428 rfl results428 ntmps428 rfl ?_
  refine .sr<|.mo rfl<|.az rfl<|.block ?_
  refine .loop (X:=Nat×List ByteArray×ay) (λy=>(lo<=y.1/\y.1<=g)/\OS 9 1 bU v y.2.1 y.2.2/\RP b (b+g) xs y.2.1/\(ew (λx y=>ap c y x) (xs.drop b) g lo lo->ew (λx y=>ap c y x) (y.2.1.drop b) g lo y.1)) (λy=>[(0,v),(2,iN g),(3,iN b),(8,iN y.1)]) (λy=>[y.2.2]) (λy=>g-y.1) (lo,xs,T) ⟨⟨ac0 _,a7⟩,h,.refl _,λh=>h⟩ kE.c.c.c.c rH ?_
  rintro⟨r,ys,T1⟩ ⟨⟨a3,a9⟩,m,B,Q⟩
  simp only at a3 a9 m B Q⊢
  have b7:=B.length
  have b6:(ys.drop b).length=ys.length-b:=ac6
  refine .block<|.sr<|.mo rfl ?_
  refine .ia (2*r) .mul ?_
  refine .ia (2*r+1) .add ?_
  refine .ag rfl<|.zs<|.sr<|.mo rfl<|.mo rfl<|.q .geq<|.zn ?_
  refine .cond rfl (λL=>?_) λL=>?_
  have b4:g<=2*r+1:=by have:=bo L;omega
  refine .exit (aP (dn (aV (aR ?_))))
  refine ct _ .none rH ?_
  ·refine⟨_,rfl,rfl,ys,m,B,λN=>(Q N).stop λa A C k u w d O=>?_⟩
   first
     |(simp only[aX]at k;omega)
     |(rw[cQ]at d O
       rw[s]at d;cases d
       have M:(!ap c G x)=true:=H
       exact a1.dW _ _ _ (S a w A C k O) (by simpa using M))
  have I:2*r+1<g:=by have:=aY L;omega
  obtain⟨G,s⟩:∃y,ys[b+r]? =some y:=⟨_,aC (by omega)⟩
  obtain⟨n,l⟩:∃y,ys[b+(2*r+1)]? =some y:=⟨_,aC (by omega)⟩
  have b8:=Z G (B.perm.mem_iff.1 (aF s))
  have J:=Z n (B.perm.mem_iff.1 (aF l))
  refine .kn<|.seq ?_
  refine bp.cut (X:=Nat×ByteArray) (λz=>0<z.1/\z.1<g/\aX z.1=r/\ys[b+z.1]? =some z.2/\ok z.2/\∀a u,0<a->a<g->aX a=r->ys[b+a]? =some u->ap c z.2 u=false) (λz=>[(0,v),(2,iN g),(3,iN b),(8,iN r),(9,iN z.1)]) (λz=>[T1]) ?_ ?_
  refine .seq ?_
  refine .bQ 18 mixed (by kernel_rfl) ?_
  conv=>arg 6;dsimp only[List.take]
  refine .mo rfl ?_
  refine .ia (2*r+2) .add ?_
  refine .mo rfl<|.q .lss<|.mo rfl ?_
  refine .split (t:=21) rfl (λe=>?_) (λe=>?_)
  have W:2*r+2<g:=by have:=bo e;omega
  obtain⟨K,p⟩:∃y,ys[b+(2*r+2)]? =some y:=⟨_,aC (by omega)⟩
  have a0:=Z K (B.perm.mem_iff.1 (aF p))
  refine .gT e<|.mo rfl<|.gT e<|.mo rfl<|.gT e<|.mo rfl<|.gT e ?_
  refine .ia (b+(2*r+1)) .add ?_
  refine .gT e ?_
  refine .au (b+(2*r+1)) m l (λb9=>?_)
  refine .gT e<|.lo rfl<|.gT e<|.mo rfl<|.gT e<|.mo rfl<|.gT e<|.mo rfl<|.gT e ?_
  refine .ia (b+(2*r+1)) .add ?_
  refine .gT e ?_
  refine .ia (b+(2*r+2)) .add ?_
  refine .gT e ?_
  refine .au (b+(2*r+2)) m p (λc0=>?_)
  refine .gT e<|.lo rfl<|.nil<|.gT e ?_
  refine .bc (gB hf n K _) (λu d=>?_)
  subst d
  refine .q (.bu e) ?_
  refine .zn ?_
  refine .cond rfl (λD=>?_) λD=>?_
  have Y:∀a u,0<a->a<g->aX a=r->ys[b+a]? =some u->ap c K u=false:=λa u A C k d=>by
    have:a=2*r+1\/a=2*r+2:=by simp only[aX]at k;omega
    rcases this with rfl|rfl
    ·rw[l]at d;cases d;exact F.gx D
    ·rw[p]at d;cases d;exact F.cP _
  refine .region<|.mo rfl ?_
  refine .ia (2*r+2) .add ?_
  refine .ag rfl<|.nil ?_
  ·first
      |exact ax (2*r+2,K) ⟨by simp only;omega,W,by simp only[aX];omega,p,a0,Y⟩ kE.c.c.c.c.c rH
      |exact ax (2*r+1,n) ⟨by simp only;omega,I,by simp only[aX];omega,l,J,o⟩ kE.c.c.c.c.c rH
      |(have o:∀a u,0<a->a<g->aX a=r->ys[b+a]? =some u->ap c n u=false:=λa u A C k d=>by
           have:a=2*r+1\/a=2*r+2:=by simp only[aX]at k;omega
           rcases this with rfl|rfl
           ·rw[l]at d;cases d;exact F.cP _
           ·rw[p]at d;cases d;exact D
        exact ax (2*r+1,n) ⟨by simp only;omega,I,by simp only[aX];omega,l,J,o⟩ kE.c.c.c.c.c rH)
  refine .skip ?_
  ·first
      |exact ax (2*r+2,K) ⟨by simp only;omega,W,by simp only[aX];omega,p,a0,Y⟩ kE.c.c.c.c.c rH
      |exact ax (2*r+1,n) ⟨by simp only;omega,I,by simp only[aX];omega,l,J,o⟩ kE.c.c.c.c.c rH
      |(have o:∀a u,0<a->a<g->aX a=r->ys[b+a]? =some u->ap c n u=false:=λa u A C k d=>by
           have:a=2*r+1\/a=2*r+2:=by simp only[aX]at k;omega
           rcases this with rfl|rfl
           ·rw[l]at d;cases d;exact F.cP _
           ·rw[p]at d;cases d;exact D
        exact ax (2*r+1,n) ⟨by simp only;omega,I,by simp only[aX];omega,l,J,o⟩ kE.c.c.c.c.c rH)
  have o:∀a u,0<a->a<g->aX a=r->ys[b+a]? =some u->ap c n u=false:=λa u A C k d=>by
    have:a=2*r+1:=by have:=aY e;simp only[aX]at k;omega
    subst this
    rw[l]at d;cases d;exact F.cP _
  refine .gF e<|.gF e<|.gF e<|.gF e<|.gF e<|.gF e<|.gF e<|.gF e<|.gF e<|.gF e<|.gF e<|.gF e<|.gF e<|.nil<|.gF e<|.q (.bq e) ?_
  refine .zn<|.bB<|.skip ?_
  ·first
      |exact ax (2*r+2,K) ⟨by simp only;omega,W,by simp only[aX];omega,p,a0,Y⟩ kE.c.c.c.c.c rH
      |exact ax (2*r+1,n) ⟨by simp only;omega,I,by simp only[aX];omega,l,J,o⟩ kE.c.c.c.c.c rH
      |(have o:∀a u,0<a->a<g->aX a=r->ys[b+a]? =some u->ap c n u=false:=λa u A C k d=>by
           have:a=2*r+1\/a=2*r+2:=by simp only[aX]at k;omega
           rcases this with rfl|rfl
           ·rw[l]at d;cases d;exact F.cP _
           ·rw[p]at d;cases d;exact D
        exact ax (2*r+1,n) ⟨by simp only;omega,I,by simp only[aX];omega,l,J,o⟩ kE.c.c.c.c.c rH)
  intro y hy
  obtain⟨j,x⟩:=y
  obtain⟨U,a2,V,E,b2,S⟩:=hy
  simp only at U a2 V E b2 S⊢
  have b5:r<j:=V▸dO U
  refine aD<|.seq<|.seq ?_
  refine .bQ 12 mixed (by kernel_rfl) ?_
  conv=>arg 6;dsimp only[List.take]
  refine .mo rfl<|.mo rfl<|.mo rfl ?_
  refine .ia (b+r) .add ?_
  refine .au (b+r) m s (λc1=>?_)
  refine .lo rfl<|.mo rfl<|.mo rfl<|.mo rfl ?_
  refine .ia (b+j) .add ?_
  refine .au (b+j) m E (λc2=>?_)
  refine .lo rfl<|.nil ?_
  refine .bc (gB hf G x _) (λu d=>?_)
  subst d
  refine .q .not<|.zn ?_
  refine .cond rfl (λH=>?_) λH=>?_
  refine .ret (aT (bg (cc (bg (aZ _ .none rH ?_)))))
  ·refine⟨_,rfl,rfl,ys,m,B,λN=>(Q N).stop λa A C k u w d O=>?_⟩
   first
     |(simp only[aX]at k;omega)
     |(rw[cQ]at d O
       rw[s]at d;cases d
       have M:(!ap c G x)=true:=H
       exact a1.dW _ _ _ (S a w A C k O) (by simpa using M))
  refine .kn<|.seq<|.bF [21,23] mixed ?_
  refine .tO 0 rfl .move<|.tO 1 rfl .move<|.tO 2 rfl .move ?_
  refine .cH 3 rfl (.i64 ((b+r:Nat):Int) .add ⟨by omega,by omega,by omega⟩) (by kernel_rfl) ?_
  refine .tK 4 rfl .move<|.tK 5 rfl .move<|.tK 6 rfl .move ?_
  refine .take 7 rfl (.i64 ((b+j:Nat):Int) .add ⟨by omega,by omega,by omega⟩) (by kernel_rfl) ?_
  refine .tO 8 rfl .move<|.tO 9 rfl .move<|.tO 10 rfl .move ?_
  refine .cH 11 rfl (.i64 ((b+j:Nat):Int) .add ⟨by omega,by omega,by omega⟩) (by kernel_rfl) ?_
  refine RA.au 12 rfl (b+j) m E rfl rfl rfl (by kernel_rfl) (λc3=>?_)
  refine .tO 13 rfl (.bO rfl)<|.tO 14 rfl .move<|.tO 15 rfl .move<|.tO 16 rfl .move ?_
  refine .cH 17 rfl (.i64 ((b+r:Nat):Int) .add ⟨by omega,by omega,by omega⟩) (by kernel_rfl) ?_
  refine RA.au 18 rfl (b+r) m s rfl rfl rfl (by kernel_rfl) (λc4=>?_)
  refine .tO 19 rfl (.bO rfl) ?_
  refine RA.au 20 rfl (b+r) m s rfl rfl rfl (by kernel_rfl) (λc5=>?_)
  refine .sT 21 rfl ?_
  refine .dq (b+r) m s x (λb3 b0=>?_)
  refine .nil (Next.mod rfl ?_)
  refine RA.au 22 rfl (b+j) m E rfl rfl rfl (by kernel_rfl) (λc6=>?_)
  refine .sT 23 rfl ?_
  obtain⟨zz,b1⟩:∃u,(ys.set (b+r) x)[b+j]? =some u:=⟨_,aC (by rw[ac2];exact(ac1.1 E).1)⟩
  refine .dq (b+j) b0 b1 G (λa5 a4=>?_)
  rw[<-bS s E]at a4
  refine .nil (Next.mod rfl ?_)
  refine RA.nil (by kernel_rfl) ?_
  refine aD<|.region<|.mo rfl<|.ag rfl<|.nil<|bi ?_
  ·have a8:ap c G x=true:=by
      have M:(!ap c G x)=false:=H
      simpa using M
   have a6:=hS (xs:=ys) (f:=b) (i:=r) (j:=j) (by omega) (by omega)
   exact aN (j,bn ys (b+r) (b+j),a5) ⟨⟨by simp only;omega,by simp only;omega⟩,a4,B.step (by omega) (by omega) (by omega) (by omega) (by omega),λN=>by
     simp only
     rw[a6]
     exact(Q N).step a1 a3 U a2 (by omega) V (by rw[cQ];exact E) (by rw[cQ];exact s) a8 λa z L D H h4=>S a z L D H (by rw[<-cQ];exact h4)⟩ (by simp only;omega) kE.c.c.c.c rH
end
end SST
namespace SST
section
variable{c:ByteArray->ByteArray->Int}{ok:ByteArray->Prop}
theorem iI(v:Value)(xs:List ByteArray)(T:ay)(a b:Nat)(R:aA)(h:OS 9 1 bU v xs T)(a7:a<=b)(hb:b<=xs.length)(hl:xs.length<=1000000000)(L:fA c ok R)(M:∀x∈xs,ok x)(F:SO (ap c)):
  Spec prog 373 [v,.int .i64 a,.int .i64 b] R [T] λu H'=>∃T',H'=[T']/\u=.tuple #[]/\∃ys,OS 9 1 bU v ys T'/\RP a b xs ys/\SR (ap c) ys a b:=by
 have iv:=h.aL
 have a5:=F.rev
 obtain⟨n,hn⟩:∃n,b=a+n:=⟨b-a,by omega⟩
 subst hn
 refine Spec.body func373 rfl results373 ntmps373 rfl ?_
 refine .sr<|.mo rfl<|.ag rfl<|.z<|.ag rfl<|.z<|.mo rfl<|.mo rfl ?_
 refine .ia (n) .sub ?_
 refine .ag rfl<|.zs<|.sr<|.mo rfl ?_
 refine .q (.i64 ((n:Int)-1) .sub ⟨rfl,by omega,by omega⟩) ?_
 refine .q (.i64 (((n-1)/2:Nat):Int) .quo ⟨kB,by omega,by omega⟩) ?_
 refine .az rfl<|.block ?_
 refine .loop (X:=Nat×Int×List ByteArray×ay) (λy=>(y.2.1=(y.1:Int)-1/\y.1<=n+1)/\OS 9 1 bU v y.2.2.1 y.2.2.2/\RP a (a+n) xs y.2.2.1/\dI (λx y=>ap c y x) (y.2.2.1.drop a) n y.1) (λy=>[(0,v),(6,iN a),(7,.int .i64 ((0:Nat):Int)),(8,iN n),(9,.int .i64 y.2.1)]) (λy=>[y.2.2.2]) (λy=>y.1) ((n-1)/2+1,(((n-1)/2:Nat):Int),xs,T) ⟨⟨by simp only;omega,by simp only;omega⟩,h,.refl _,λk U hk hp=>by simp only[aX]at hp;omega⟩ kE.c.c.c.c.c rH ?_
 rintro⟨m,z,ys,G⟩ ⟨⟨hz,hm⟩,B,r,A⟩
 simp only at hz hm B r A⊢
 have a8:=r.length
 refine .seq<|.sr<|.mo rfl<|.q .geq<|.zn ?_
 refine .cond rfl (λo=>?_) λo=>?_
 have a2:0<=z:=bo o
 obtain⟨k,rfl⟩:∃k,m=k+1:=⟨m-1,by omega⟩
 obtain rfl:z=(k:Int):=by omega
 refine .kn<|.seq<|.block<|.region<|.mo rfl<|.mo rfl<|.mo rfl<|.mo rfl ?_
 refine .bb (fL (c:=c) (ok:=ok) v ys G k n a _ B (by omega) (by omega) (by omega) L (λx d=>M x (r.perm.mem_iff.1 d)) F) (λu H E=>?_)
 obtain⟨rfl,g,e,l,p⟩:=E
 refine .nil<|bi<|aD<|.region<|.mo rfl ?_
 refine .q (.i64 ((k:Int)-1) .sub ⟨rfl,by omega,by omega⟩) ?_
 refine .ag rfl<|.nil ?_
 ·exact aN (k,(k:Int)-1,g,H) ⟨⟨rfl,by simp only;omega⟩,e,r.trans l,p A.hole⟩ (by simp only;omega) kE.c.c.c.c.c rH
 have D:m=0:=by have:=aY o;omega
 subst D
 refine .exit<|aP<|aV<|aR<|aD<|.sr<|.mo rfl ?_
 refine .q (.i64 ((n:Int)-1) .sub ⟨rfl,by omega,by omega⟩) ?_
 refine .az rfl<|.block ?_
 refine .loop (X:=Nat×Int×List ByteArray×ay) (λy=>(y.2.1=(y.1:Int)-1/\y.1<=n)/\OS 9 1 bU v y.2.2.1 y.2.2.2/\RP a (a+n) xs y.2.2.1/\dI (λx y=>ap c y x) (y.2.2.1.drop a) y.1 0/\OX (ap c) y.2.2.1 a (a+n) a (a+y.1)) (λy=>[(0,v),(6,iN a),(7,.int .i64 ((0:Nat):Int)),(8,iN n),(10,.int .i64 y.2.1)]) (λy=>[y.2.2.2]) (λy=>y.1) (n,(n:Int)-1,ys,G) ⟨⟨rfl,ac0 _⟩,B,r,A,OX.start⟩ kE.c.c.c.c.c rH ?_
 rintro⟨m,O,g,H⟩ ⟨⟨a3,a0⟩,e,l,p,C⟩
 simp only at a3 a0 e l p C⊢
 have a9:=l.length
 refine .seq<|.sr<|.mo rfl<|.q .geq<|.zn ?_
 refine .cond rfl (λs=>?_) λs=>?_
 have a2:0<=O:=bo s
 obtain⟨k,rfl⟩:∃k,m=k+1:=⟨m-1,by omega⟩
 obtain rfl:O=(k:Int):=by omega
 obtain⟨x,d⟩:∃x,g[a]? =some x:=⟨_,aC (by omega)⟩
 obtain⟨y,t⟩:∃x,g[a+k]? =some x:=⟨_,aC (by omega)⟩
 refine .kn<|.seq<|.block<|.seq<|.bF [17,19] mixed ?_
 refine .tO 0 rfl .move<|.tO 1 rfl .move<|.tK 2 rfl .move<|.tK 3 rfl .move<|.tK 4 rfl .move ?_
 refine .take 5 rfl (.i64 ((a+k:Nat):Int) .add ⟨by omega,by omega,by omega⟩) (by kernel_rfl) ?_
 refine .tO 6 rfl .move<|.tO 7 rfl .move<|.tO 8 rfl .move ?_
 refine .cH 9 rfl (.i64 ((a+k:Nat):Int) .add ⟨by omega,by omega,by omega⟩) (by kernel_rfl) ?_
 refine RA.au 10 rfl (a+k) e t rfl rfl rfl (by kernel_rfl) (λb0=>?_)
 refine .tO 11 rfl (.bO rfl)<|.tO 12 rfl .move<|.tO 13 rfl .move ?_
 refine RA.au 14 rfl (a) e d rfl rfl rfl (by kernel_rfl) (λb1=>?_)
 refine .tO 15 rfl (.bO rfl) ?_
 refine RA.au 16 rfl (a) e d rfl rfl rfl (by kernel_rfl) (λb2=>?_)
 refine .sT 17 rfl ?_
 refine .dq (a) e d y (λa6 a1=>?_)
 refine .nil (Next.mod rfl ?_)
 refine RA.au 18 rfl (a+k) e t rfl rfl rfl (by kernel_rfl) (λb3=>?_)
 refine .sT 19 rfl ?_
 obtain⟨zz,a4⟩:∃u,(g.set (a) y)[a+k]? =some u:=⟨_,aC (by rw[ac2];exact(ac1.1 t).1)⟩
 refine .dq (a+k) a1 a4 x (λS N=>?_)
 rw[<-bS d t]at N
 refine .nil (Next.mod rfl ?_)
 refine RA.nil (by kernel_rfl) ?_
 refine aD<|.region<|.mo rfl<|.mo rfl<|.mo rfl<|.mo rfl ?_
 have K:=hS (xs:=g) (f:=a) (i:=0) (j:=k) (by omega) (by omega)
 have I:=l.step (i:=a) (j:=a+k) (by omega) (by omega) (by omega) (by omega) (by omega)
 have Z:=OX.last (m:=a+k) (x:=x) C (by omega) (by omega) (by omega) d (λj w o V hw=>dI.top a5 p (by rw[ac6];omega) (x:=x) (by rw[cQ];exact d) (j-a) w (by omega) (by rw[cQ,show a+(j-a)=j by omega];exact hw))
 refine .bb (fL (c:=c) (ok:=ok) v (bn g a (a+k)) S 0 k a _ N (by omega) (by rw[eI];omega) (by rw[eI];omega) L (λx d=>M x (I.perm.mem_iff.1 d)) F) (λu Q E=>?_)
 obtain⟨rfl,ws,Y,J,W⟩:=E
 refine .nil<|bi<|aD<|.region<|.mo rfl ?_
 refine .q (.i64 ((k:Int)-1) .sub ⟨rfl,by omega,by omega⟩) ?_
 refine .ag rfl<|.nil ?_
 ·exact aN (k,(k:Int)-1,ws,Q) ⟨⟨rfl,by simp only;omega⟩,Y,I.trans (J.mono (ac0 a) (by omega) (by rw[eI];omega)),W (p.kX λj U hj=>by
   rw[Nat.add_zero]at K
   rw[K,cX (by rw[ac6];omega) (by rw[ac6];omega),ac3 (by omega),ac3 (by omega)]),Z.rp J (ac0 _) (by omega)⟩ (by simp only;omega) kE.c.c.c.c.c rH
 refine .exit<|aP<|aV<|aR<|ct _ .none rH ?_
 ·have D:m=0:=by have:=aY s;omega
  subst D
  exact⟨_,rfl,rfl,g,e,l,C.cZ λi j o s V=>by omega⟩
theorem iT(v:Value)(xs:List ByteArray)(T:ay)(a b:Nat)(R:aA)(h:OS 9 1 bU v xs T)(A:a<b)(B:b<=xs.length)(C:xs.length<=1000000000):
  Spec prog 376 [v,.int .i64 a,.int .i64 b] R [T] λu H'=>∃T',H'=[T']/\u=.tuple #[]/\∃ys,OS 9 1 bU v ys T'/\RP a b xs ys:=by
 have F:=h.aL
 refine Spec.body func376 rfl results376 ntmps376 rfl ?_
 refine .sr<|.mo rfl<|.ag rfl<|.z<|.mo rfl ?_
 refine .ia (b-1) .sub ?_
 refine .az rfl<|.block ?_
 refine .loop (X:=Nat×Nat×List ByteArray×ay) (λy=>(a<=y.1/\y.1<=y.2.1+1/\y.2.1<b)/\OS 9 1 bU v y.2.2.1 y.2.2.2/\RP a b xs y.2.2.1) (λy=>[(0,v),(6,iN y.1),(7,iN y.2.1)]) (λy=>[y.2.2.2]) (λy=>b-y.1) (a,b-1,xs,T) ⟨⟨ac0 _,by simp only;omega,by simp only;omega⟩,h,.refl _⟩ kE.c.c.c rH ?_
 rintro⟨i,j,ys,t⟩ ⟨⟨n,o,p⟩,d,e⟩
 simp only at n o p d e⊢
 have D:=e.length
 refine .seq<|.sr<|.mo rfl<|.mo rfl<|.q .lss<|.zn ?_
 refine .cond rfl (λk=>?_) λk=>?_
 have E:i<j:=de k
 obtain⟨x,f⟩:∃x,ys[i]? =some x:=⟨_,aC (by omega)⟩
 obtain⟨y,g⟩:∃x,ys[j]? =some x:=⟨_,aC (by omega)⟩
 refine .kn<|.block<|.seq<|.bF [13,15] mixed ?_
 refine .tO 0 rfl .move<|.tO 1 rfl .move<|.tK 2 rfl .move<|.tK 3 rfl .move<|.tO 4 rfl .move<|.tO 5 rfl .move ?_
 refine RA.au 6 rfl (j) d g rfl rfl rfl (by kernel_rfl) (λG=>?_)
 refine .tO 7 rfl (.bO rfl)<|.tO 8 rfl .move<|.tO 9 rfl .move ?_
 refine RA.au 10 rfl (i) d f rfl rfl rfl (by kernel_rfl) (λH=>?_)
 refine .tO 11 rfl (.bO rfl) ?_
 refine RA.au 12 rfl (i) d f rfl rfl rfl (by kernel_rfl) (λI=>?_)
 refine .sT 13 rfl ?_
 refine .dq (i) d f y (λw r=>?_)
 refine .nil (Next.mod rfl ?_)
 refine RA.au 14 rfl (j) d g rfl rfl rfl (by kernel_rfl) (λJ=>?_)
 refine .sT 15 rfl ?_
 obtain⟨K,s⟩:∃u,(ys.set (i) y)[j]? =some u:=⟨_,aC (by rw[ac2];exact(ac1.1 g).1)⟩
 refine .dq (j) r s x (λm l=>?_)
 rw[<-bS f g]at l
 refine .nil (Next.mod rfl ?_)
 refine RA.nil (by kernel_rfl) ?_
 refine aD<|.sr<|.mo rfl ?_
 refine .ia (i+1) .add ?_
 refine .az rfl<|.region<|.mo rfl ?_
 refine .ia (j-1) .sub ?_
 refine .ag rfl<|.nil<|bi ?_
 ·exact aN (i+1,j-1,bn ys i j,m) ⟨⟨by simp only;omega,by simp only;omega,by simp only;omega⟩,l,e.step (by omega) (by omega) (by omega) (by omega) (by omega)⟩ (by simp only;omega) kE.c.c.c rH
 refine .exit<|aP<|aV<|aR<|ct _ .none rH ?_
 ·exact⟨_,rfl,rfl,ys,d,e⟩
theorem iF(v:Value)(xs:List ByteArray)(T:ay)(a b:Nat)(R:aA)(h:OS 9 1 bU v xs T)(Q:a<=b)(S:b<=xs.length)(V:xs.length<=1000000000):
  Spec prog 374 [v,.int .i64 a,.int .i64 b] R [T] λu H'=>∃T',H'=[T']/\u=.tuple #[]/\∃ys,OS 9 1 bU v ys T'/\RP a b xs ys:=by
 have iv:=h.aL
 obtain⟨n,I⟩:∃n,b=a+n:=⟨b-a,by omega⟩
 subst I
 refine Spec.body func374 rfl results374 ntmps374 rfl ?_
 refine .sr<|.mo rfl<|.mo rfl ?_
 refine .ia (n) .sub ?_
 refine .ag rfl<|.z<|.mo rfl<|.q .geq<|.zn ?_
 refine .cond rfl (λs=>?_) λs=>?_
 have a0:8<=n:=by have:=bo s;omega
 obtain⟨q,C⟩:∃q,q=n/4:=⟨_,rfl⟩
 refine .sr<|.mo rfl<|.q .ez ?_
 refine .hK (λe=>?_)
 refine .cO rfl rfl<|.z<|.mo rfl ?_
 refine .bc (ld n (by omega) (by omega) _) (λu r=>?_)
 obtain⟨f,rfl,Y,Z⟩:=r
 refine .ag rfl<|.z<|.mo rfl<|.mo rfl ?_
 refine .q (.i64 ((q:Nat):Int) .quo ⟨by rw[C,ac5 (by omega)];omega,by omega,by omega⟩) ?_
 refine .ia (q*2) .mul ?_
 refine .ia (a+q*2) .add ?_
 refine .ia (a+q*2-1) .sub ?_
 refine .az rfl<|.block ?_
 refine .loop (X:=Nat×Int×List ByteArray×ay) (λy=>(a+q*2-1<=y.1/\y.1<=a+q*2+2)/\OS 9 1 bU v y.2.2.1 y.2.2.2/\RP a (a+n) xs y.2.2.1) (λy=>[(0,v),(1,iN a),(6,iN n),(7,pT e),(8,.int .u64 (f:Nat)),(9,iN y.1)]) (λy=>[bl e [.int .u64 y.2.1] 508,y.2.2.2]) (λy=>a+q*2+2-y.1) (a+q*2-1,_,xs,T) ⟨⟨ac0 _,by simp only;omega⟩,h,.refl _⟩ kE.c.c.c.c.c.c rH ?_
 rintro⟨i,z,ys,E⟩ ⟨⟨G,H⟩,d,g⟩
 simp only at G H d g⊢
 have W:=g.length
 refine .seq<|.sr<|.mo rfl<|.mo rfl<|.mo rfl ?_
 refine .q (.i64 ((q:Nat):Int) .quo ⟨by rw[C,ac5 (by omega)];omega,by omega,by omega⟩) ?_
 refine .ia (q*2) .mul ?_
 refine .ia (a+q*2) .add ?_
 refine .ia (a+q*2+1) .add ?_
 refine .q .leq<|.zn ?_
 refine .cond rfl (λt=>?_) λt=>?_
 have U:i<=a+q*2+1:=by have:=bo t;omega
 refine .kn<|.seq<|.block<|.sr ?_
 refine .bb (ln e z _) (λu N r=>?_)
 obtain⟨l,rfl,rfl⟩:=r
 refine .mo rfl ?_
 refine .q (bd.cast (v':=.int .u64 ((f-1:Nat):Int)) .sub (by rw[gr (by omega) (by omega)];congr 1;omega)) ?_
 have A:=kH (z:=l) (q:=((f-1:Nat):Int)) (by omega) (by omega)
 obtain⟨o,B⟩:∃o:Nat,IntKind.u64.wrap (BitVec.ofInt IntKind.u64.bits l&&&BitVec.ofInt IntKind.u64.bits ((f-1:Nat):Int)).toNat=(o:Int):=⟨_,(Int.toNat_of_nonneg A.1).symm⟩
 refine .q (bd.cast (v':=.int .u64 ((o:Nat):Int)) .kG (by rw[B])) ?_
 rw[B]at A
 refine .q (bd.cast (v':=.int .i64 ((o:Nat):Int)) .ez (by rw[lE (by omega) (by omega)])) ?_
 refine .ag rfl<|.zs ?_
 refine bp.cut (X:=Nat) (λp=>p<n) (λp=>[(0,v),(1,iN a),(6,iN n),(7,pT e),(8,.int .u64 (f:Nat)),(9,iN i),(10,iN p)]) (λ_=>[bl e [.int .u64 l] 508,E]) ?_ ?_
 refine .sr<|.mo rfl<|.mo rfl<|.q .geq<|.zn ?_
 refine .cond rfl (λm=>?_) λm=>?_
 have J:n<=o:=by have:=bo m;omega
 refine .region<|.mo rfl<|.mo rfl ?_
 refine .ia (o-n) .sub ?_
 refine .ag rfl<|.nil ?_
 ·first
   |exact ax (o-n) (by omega) kE.c.c.c.c.c.c.c rH
   |exact ax o (by omega) kE.c.c.c.c.c.c.c rH
 have J:o<n:=by have:=aY m;omega
 refine .skip ?_
 ·first
   |exact ax (o-n) (by omega) kE.c.c.c.c.c.c.c rH
   |exact ax o (by omega) kE.c.c.c.c.c.c.c rH
 intro y L
 have a1:y<n:=L
 obtain⟨p,rfl⟩:∃p,p=y:=⟨_,rfl⟩
 obtain⟨x,k⟩:∃x,ys[i]? =some x:=⟨_,aC (by omega)⟩
 obtain⟨w,j⟩:∃x,ys[a+p]? =some x:=⟨_,aC (by omega)⟩
 refine aD<|.bF [17,19] mixed ?_
 refine .tO 0 rfl .move<|.tO 1 rfl .move<|.tK 2 rfl .move<|.tK 3 rfl .move<|.tK 4 rfl .move ?_
 refine .take 5 rfl (.i64 ((a+p:Nat):Int) .add ⟨by omega,by omega,by omega⟩) (by kernel_rfl) ?_
 refine .tO 6 rfl .move<|.tO 7 rfl .move<|.tO 8 rfl .move ?_
 refine .cH 9 rfl (.i64 ((a+p:Nat):Int) .add ⟨by omega,by omega,by omega⟩) (by kernel_rfl) ?_
 refine RA.au 10 rfl (a+p) d j rfl rfl rfl (by kernel_rfl) (λa2=>?_)
 refine .tO 11 rfl (.bO rfl)<|.tO 12 rfl .move<|.tO 13 rfl .move ?_
 refine RA.au 14 rfl (i) d k rfl rfl rfl (by kernel_rfl) (λa3=>?_)
 refine .tO 15 rfl (.bO rfl) ?_
 refine RA.au 16 rfl (i) d k rfl rfl rfl (by kernel_rfl) (λa4=>?_)
 refine .sT 17 rfl ?_
 refine .dq (i) d k w (λO K=>?_)
 refine .nil (Next.mod rfl ?_)
 refine RA.au 18 rfl (a+p) d j rfl rfl rfl (by kernel_rfl) (λa5=>?_)
 refine .sT 19 rfl ?_
 obtain⟨zz,M⟩:∃u,(ys.set (i) w)[a+p]? =some u:=⟨_,aC (by rw[ac2];exact(ac1.1 j).1)⟩
 refine .dq (a+p) K M x (λF D=>?_)
 rw[<-bS k j]at D
 refine .nil (Next.mod rfl ?_)
 refine RA.nil (by kernel_rfl) ?_
 refine bi<|aD<|.region<|.mo rfl ?_
 refine .ia (i+1) .add ?_
 refine .ag rfl<|.nil ?_
 ·exact aN (i+1,l,bn ys i (a+p),F) ⟨⟨by simp only;omega,by simp only;omega⟩,D,g.step (by omega) (by omega) (by omega) (by omega) (by omega)⟩ (by simp only;omega) kE.c.c.c.c.c.c rH
 refine .exit<|aP<|aV<|aR<|ct _ .none (cu [1]) ?_
 ·exact⟨_,rfl,rfl,ys,d,g⟩
 refine .skip<|ct _ .none rH ?_
 ·exact⟨_,rfl,rfl,xs,h,.refl _⟩
end
end SST
namespace SST
section
variable{c:ByteArray->ByteArray->Int}{ok:ByteArray->Prop}
theorem iQ(v:Value)(xs:List ByteArray)(T:ay)(a b:Nat)(R:aA)(h:OS 9 1 bU v xs T)(b1:a<b)(hb:b<=xs.length)(hl:xs.length<=1000000000)(hf:fA c ok R)(S:∀x∈xs,ok x)(so:SO (ap c))(c0:LB (ap c) xs a b):
  Spec prog 377 [v,.int .i64 a,.int .i64 b] R [T] λu H'=>∃T',H'=[T']/\∃ys m,u=.bool m/\OS 9 1 bU v ys T'/\RP a b xs ys/\(m=true->SR (ap c) ys a b):=by
 have iv:=h.aL
 refine Spec.body func377 rfl results377 ntmps377 rfl ?_
 refine .sr<|.ag rfl<|.z<|.mo rfl ?_
 refine .ia (a+1) .add ?_
 refine .ag rfl<|.zs<|.sr<|.az rfl<|.block ?_
 refine .loop (X:=Nat×Nat×List ByteArray×ay) (λy=>(y.1<=5/\a+1<=y.2.1/\y.2.1<=b)/\OS 9 1 bU v y.2.2.1 y.2.2.2/\RP a b xs y.2.2.1/\SR (ap c) y.2.2.1 a y.2.1) (λy=>[(0,v),(1,iN a),(2,iN b),(7,iN y.2.1),(8,iN y.1)]) (λy=>[y.2.2.2]) (λy=>5-y.1) (0,a+1,xs,T) ⟨⟨by omega,ac0 _,b1⟩,h,.refl _,λi j O Q K=>by simp only at K;omega⟩ kE.c.c.c.c.c rH ?_
 rintro⟨n,i,ys,T1⟩ ⟨⟨hn,G,H⟩,B,L,r⟩
 simp only at hn G H B L r⊢
 have c4:=L.length
 refine .seq<|.sr<|.mo rfl<|.q .lss<|.zn ?_
 refine .cond rfl (λO=>?_) λO=>?_
 have c7:n<5:=de O
 refine .kn<|.seq<|.block<|.seq ?_
 refine bp.cut (X:=Nat) (λi=>(a+1<=i/\i<=b)/\SR (ap c) ys a i) (λi=>[(0,v),(1,iN a),(2,iN b),(7,iN i),(8,iN n)]) (λ_=>[T1]) ?_ ?_
 refine .block ?_
 refine .loop (X:=Nat) (λi=>(a+1<=i/\i<=b)/\SR (ap c) ys a i) (λi=>[(0,v),(1,iN a),(2,iN b),(7,iN i),(8,iN n)]) (λ_=>[T1]) (λi=>b-i) i ⟨⟨G,H⟩,r⟩ kE.c.c.c.c.c rH ?_
 clear G H r
 rintro i ⟨⟨G,H⟩,r⟩
 refine .seq<|.seq ?_
 refine .bQ 13 mixed (by kernel_rfl) ?_
 conv=>arg 6;dsimp only[List.take]
 refine .mo rfl<|.mo rfl<|.q .lss<|.mo rfl ?_
 refine .split (t:=20) rfl (λe=>?_) (λe=>?_)
 have b9:i<b:=by have:=bo e;omega
 obtain⟨x,F⟩:∃x,ys[i]? =some x:=⟨_,aC (by omega)⟩
 obtain⟨y,A⟩:∃x,ys[i-1]? =some x:=⟨_,aC (by omega)⟩
 have d0:=S x (L.perm.mem_iff.1 (aF F))
 have d1:=S y (L.perm.mem_iff.1 (aF A))
 refine .gT e<|.mo rfl<|.gT e<|.mo rfl<|.gT e ?_
 refine .au i B F (λd8=>?_)
 refine .gT e<|.lo rfl<|.gT e<|.mo rfl<|.gT e<|.mo rfl<|.gT e ?_
 refine .ia (i-1) .sub ?_
 refine .gT e ?_
 refine .au (i-1) B A (λd9=>?_)
 refine .gT e<|.lo rfl<|.nil<|.gT e ?_
 refine .bc (gB hf x y _) (λu E=>?_)
 subst E
 refine .gT e<|.q .not<|.q (.bu e) ?_
 refine .zn ?_
 refine .cond rfl (λQ=>?_) λQ=>?_
 refine .kn<|.block<|.region<|.mo rfl ?_
 refine .ia (i+1) .add ?_
 refine .ag rfl<|.nil<|bi ?_
 ·have c1:ap c x y=false:=by
   have b4:(!ap c x y)=true:=Q
   simpa using b4
  exact aN (i+1) ⟨⟨by omega,by omega⟩,r.snoc so (by omega) (by omega) λu w E Y=>by
   rw[A]at E;rw[F]at Y;cases E;cases Y;exact c1⟩ (by omega) kE.c.c.c.c.c rH
 refine .exit<|aP<|aV<|aR ?_
 exact ax i ⟨⟨G,H⟩,r⟩ kE.c.c.c.c.c rH
 refine .gF e<|.gF e<|.gF e<|.gF e<|.gF e<|.gF e<|.gF e<|.gF e<|.gF e<|.nil<|.gF e<|.gF e<|.q (.bq e) ?_
 refine .zn<|.bB<|.exit<|aP<|aV<|aR ?_
 exact ax i ⟨⟨G,H⟩,r⟩ kE.c.c.c.c.c rH
 intro x F
 obtain⟨d,b2⟩:∃d,d=x:=⟨_,rfl⟩
 rw[<-b2]at F⊢
 clear b2 x G H r
 obtain⟨⟨G,H⟩,r⟩:=F
 refine aD<|.seq<|.sr<|.mo rfl<|.mo rfl<|.q .cA<|.zn ?_
 refine .cond rfl (λK=>?_) λK=>?_
 refine .sr<|.az rfl ?_
 refine .ret (aT (bg (aT (cc (bg (aT (aZ _ (.one (.tmp rfl)) rH ?_)))))))
 ·have b8:d=b:=by
   have b5:((d:Int)=b):=by simpa using K
   omega
  exact⟨_,rfl,ys,true,rfl,B,L,λ_=>b8▸r⟩
 have b9:d<b:=by
  have b5:¬((d:Int)=b):=by simpa using K
  omega
 obtain⟨x,F⟩:∃x,ys[d]? =some x:=⟨_,aC (by omega)⟩
 obtain⟨y,A⟩:∃x,ys[d-1]? =some x:=⟨_,aC (by omega)⟩
 refine .kn<|.seq<|.sr<|.mo rfl<|.mo rfl ?_
 refine .ia (b-a) .sub ?_
 refine .q .lss<|.zn ?_
 refine .cond rfl (λh4=>?_) λh4=>?_
 refine .sr<|.az rfl ?_
 refine .ret (aT (bg (aT (cc (bg (aT (aZ _ (.one (.tmp rfl)) rH ?_)))))))
 ·exact⟨_,rfl,ys,false,rfl,B,L,λh=>by cases h⟩
 refine .kn<|.seq<|.bF [15,17] mixed ?_
 refine .tO 0 rfl .move<|.tO 1 rfl .move<|.tK 2 rfl .move<|.tK 3 rfl .move ?_
 refine .take 4 rfl (.i64 ((d-1:Nat):Int) .sub ⟨by omega,by omega,by omega⟩) (by kernel_rfl) ?_
 refine .tO 5 rfl .move<|.tO 6 rfl .move ?_
 refine .cH 7 rfl (.i64 ((d-1:Nat):Int) .sub ⟨by omega,by omega,by omega⟩) (by kernel_rfl) ?_
 refine RA.au 8 rfl (d-1) B A rfl rfl rfl (by kernel_rfl) (λe0=>?_)
 refine .tO 9 rfl (.bO rfl)<|.tO 10 rfl .move<|.tO 11 rfl .move ?_
 refine RA.au 12 rfl (d) B F rfl rfl rfl (by kernel_rfl) (λe1=>?_)
 refine .tO 13 rfl (.bO rfl) ?_
 refine RA.au 14 rfl (d) B F rfl rfl rfl (by kernel_rfl) (λe2=>?_)
 refine .sT 15 rfl ?_
 refine .dq (d) B F y (λa7 W=>?_)
 refine .nil (Next.mod rfl ?_)
 refine RA.au 16 rfl (d-1) B A rfl rfl rfl (by kernel_rfl) (λe3=>?_)
 refine .sT 17 rfl ?_
 obtain⟨zz,Z⟩:∃u,(ys.set (d) y)[d-1]? =some u:=⟨_,aC (by rw[ac2];exact(ac1.1 A).1)⟩
 refine .dq (d-1) W Z x (λJ D=>?_)
 rw[<-bS F A]at D
 refine .nil (Next.mod rfl ?_)
 refine RA.nil (by kernel_rfl) ?_
 have a1:=L.step (i:=d) (j:=d-1) (by omega) (by omega) (by omega) (by omega) (by omega)
 have b6:=r.lB (by omega)
 clear r
 refine aD<|.seq ?_
 refine bp.cut (X:=List ByteArray×ay) (λz=>OS 9 1 bU v z.1 z.2/\RP a b xs z.1/\SR (ap c) z.1 a d) (λ_=>[(0,v),(1,iN a),(2,iN b),(7,iN d),(8,iN n)]) (λz=>[z.2]) ?_ ?_
 refine .sr<|.mo rfl<|.mo rfl ?_
 refine .ia (d-a) .sub ?_
 refine .q .geq<|.zn ?_
 refine .cond rfl (λh5=>?_) λh5=>?_
 refine .sr<|.mo rfl ?_
 refine .ia (d-1) .sub ?_
 refine .az rfl<|.block ?_
 refine .loop (X:=Nat×List ByteArray×ay) (λz=>(a<=z.1/\z.1<=d-1)/\OS 9 1 bU v z.2.1 z.2.2/\RP a b xs z.2.1/\fg (ap c) z.2.1 a z.1 d) (λz=>[(0,v),(1,iN a),(2,iN b),(7,iN d),(8,iN n),(9,iN z.1)]) (λz=>[z.2.2]) (λz=>z.1) (d-1,bn ys d (d-1),J) ⟨⟨by simp only;omega,ac0 _⟩,D,a1,b6⟩ kE.c.c.c.c.c.c rH ?_
 rintro⟨q,o,I⟩ ⟨⟨a5,a6⟩,f,l,a0⟩
 simp only at a5 a6 f l a0⊢
 have c5:=l.length
 refine .seq<|.sr<|.mo rfl<|.q .geq<|.zn ?_
 refine .cond rfl (λh6=>?_) λh6=>?_
 have c8:1<=q:=by have:=bo h6;omega
 obtain⟨s,g⟩:∃x,o[q]? =some x:=⟨_,aC (by omega)⟩
 obtain⟨t,k⟩:∃x,o[q-1]? =some x:=⟨_,aC (by omega)⟩
 have c2:=S s (l.perm.mem_iff.1 (aF g))
 have c3:=S t (l.perm.mem_iff.1 (aF k))
 refine .kn<|.seq<|.block<|.seq<|.seq ?_
 refine .bQ 9 mixed (by kernel_rfl) ?_
 conv=>arg 6;dsimp only[List.take]
 refine .mo rfl<|.mo rfl ?_
 refine .au q f g (λe4=>?_)
 refine .lo rfl<|.mo rfl<|.mo rfl ?_
 refine .ia (q-1) .sub ?_
 refine .au (q-1) f k (λe5=>?_)
 refine .lo rfl<|.nil ?_
 refine .bc (gB hf s t _) (λu E=>?_)
 subst E
 refine .q .not<|.zn ?_
 refine .cond rfl (λh7=>?_) λh7=>?_
 have a2:SR (ap c) o a d:=a0.done so (by omega) (by omega) (by
  have a3:(!ap c s t)=true:=h7
  rcases ada a q with hh|hh
  ·exact .inr ⟨hh,λu w E Y=>by rw[k]at E;rw[g]at Y;cases E;cases Y;simpa using a3⟩
  ·exact .inl (by omega))
 refine .exit (aP (dn (aP (aV (aR ?_)))))
 ·first
   |exact ax (o,I) ⟨f,l,a2⟩ kE.c.c.c.c.c rH
   |exact ax (bn ys d (d-1),J) ⟨D,a1,λp q O Q K=>by have:=aY h5;omega⟩ kE.c.c.c.c.c rH
 have a4:ap c s t=true:=by
  have a3:(!ap c s t)=false:=h7
  simpa using a3
 have b7:a<q:=by
  rcases ada a q with hh|hh
  ·exact hh
  ·have ea:q=a:=by omega
   subst ea
   have:=(c0.rp l) (by omega) q (ac0 _) b1 t s k g
   rw[this]at a4;cases a4
 refine .kn<|.bF [15,17] mixed ?_
 refine .tO 0 rfl .move<|.tO 1 rfl .move<|.tK 2 rfl .move<|.tK 3 rfl .move ?_
 refine .take 4 rfl (.i64 ((q-1:Nat):Int) .sub ⟨by omega,by omega,by omega⟩) (by kernel_rfl) ?_
 refine .tO 5 rfl .move<|.tO 6 rfl .move ?_
 refine .cH 7 rfl (.i64 ((q-1:Nat):Int) .sub ⟨by omega,by omega,by omega⟩) (by kernel_rfl) ?_
 refine RA.au 8 rfl (q-1) f k rfl rfl rfl (by kernel_rfl) (λe6=>?_)
 refine .tO 9 rfl (.bO rfl)<|.tO 10 rfl .move<|.tO 11 rfl .move ?_
 refine RA.au 12 rfl (q) f g rfl rfl rfl (by kernel_rfl) (λe7=>?_)
 refine .tO 13 rfl (.bO rfl) ?_
 refine RA.au 14 rfl (q) f g rfl rfl rfl (by kernel_rfl) (λe8=>?_)
 refine .sT 15 rfl ?_
 refine .dq (q) f g t (λa7 W=>?_)
 refine .nil (Next.mod rfl ?_)
 refine RA.au 16 rfl (q-1) f k rfl rfl rfl (by kernel_rfl) (λe9=>?_)
 refine .sT 17 rfl ?_
 obtain⟨zz,Z⟩:∃u,(o.set (q) t)[q-1]? =some u:=⟨_,aC (by rw[ac2];exact(ac1.1 k).1)⟩
 refine .dq (q-1) W Z s (λJ D=>?_)
 rw[<-bS g k]at D
 refine .nil (Next.mod rfl ?_)
 refine RA.nil (by kernel_rfl) ?_
 refine bi<|aD<|.region<|.mo rfl ?_
 refine .ia (q-1) .sub ?_
 refine .ag rfl<|.nil ?_
 ·exact aN (q-1,bn o q (q-1),J) ⟨⟨by simp only;omega,by simp only;omega⟩,D,l.step (by omega) (by omega) (by omega) (by omega) (by omega),a0.step so (by omega) (by omega) b7 g k a4⟩ (by simp only;omega) kE.c.c.c.c.c.c rH
 have a2:SR (ap c) o a d:=a0.done so (by omega) (by omega) (.inl (by have:=aY h6;omega))
 refine .exit<|aP<|aV<|aR ?_
 ·first
   |exact ax (o,I) ⟨f,l,a2⟩ kE.c.c.c.c.c rH
   |exact ax (bn ys d (d-1),J) ⟨D,a1,λp q O Q K=>by have:=aY h5;omega⟩ kE.c.c.c.c.c rH
 refine .skip ?_
 ·first
   |exact ax (o,I) ⟨f,l,a2⟩ kE.c.c.c.c.c rH
   |exact ax (bn ys d (d-1),J) ⟨D,a1,λp q O Q K=>by have:=aY h5;omega⟩ kE.c.c.c.c.c rH
 intro y A
 obtain⟨o,I⟩:=y
 obtain⟨f,l,U⟩:=A
 simp only at f l U⊢
 refine aD ?_
 refine bp.cut (X:=List ByteArray×ay) (λz=>OS 9 1 bU v z.1 z.2/\RP a b xs z.1/\SR (ap c) z.1 a d) (λ_=>[(0,v),(1,iN a),(2,iN b),(7,iN d),(8,iN n)]) (λz=>[z.2]) ?_ ?_
 refine .sr<|.mo rfl<|.mo rfl ?_
 refine .ia (b-d) .sub ?_
 refine .q .geq<|.zn ?_
 refine .cond rfl (λh8=>?_) λh8=>?_
 refine .sr<|.mo rfl ?_
 refine .ia (d+1) .add ?_
 refine .az rfl<|.block ?_
 refine .loop (X:=Nat×List ByteArray×ay) (λz=>(d+1<=z.1/\z.1<=b)/\OS 9 1 bU v z.2.1 z.2.2/\RP a b xs z.2.1/\SR (ap c) z.2.1 a d) (λz=>[(0,v),(1,iN a),(2,iN b),(7,iN d),(8,iN n),(10,iN z.1)]) (λz=>[z.2.2]) (λz=>b-z.1) (d+1,o,I) ⟨⟨ac0 _,by simp only;omega⟩,f,l,U⟩ kE.c.c.c.c.c.c rH ?_
 rintro⟨q,N,T4⟩ ⟨⟨a5,a6⟩,C,M,V⟩
 simp only at a5 a6 C M V⊢
 have c6:=M.length
 refine .seq<|.sr<|.mo rfl<|.mo rfl<|.q .lss<|.zn ?_
 refine .cond rfl (λh9=>?_) λh9=>?_
 have c9:q<b:=de h9
 obtain⟨s,g⟩:∃x,N[q]? =some x:=⟨_,aC (by omega)⟩
 obtain⟨t,k⟩:∃x,N[q-1]? =some x:=⟨_,aC (by omega)⟩
 have c2:=S s (M.perm.mem_iff.1 (aF g))
 have c3:=S t (M.perm.mem_iff.1 (aF k))
 refine .kn<|.seq<|.block<|.seq<|.seq ?_
 refine .bQ 9 mixed (by kernel_rfl) ?_
 conv=>arg 6;dsimp only[List.take]
 refine .mo rfl<|.mo rfl ?_
 refine .au q C g (λd2=>?_)
 refine .lo rfl<|.mo rfl<|.mo rfl ?_
 refine .ia (q-1) .sub ?_
 refine .au (q-1) C k (λd3=>?_)
 refine .lo rfl<|.nil ?_
 refine .bc (gB hf s t _) (λu E=>?_)
 subst E
 refine .q .not<|.zn ?_
 refine .cond rfl (λb3=>?_) λb3=>?_
 refine .exit (aP (dn (aP (aV (aR ?_)))))
 ·first
   |exact ax (N,T4) ⟨C,M,V⟩ kE.c.c.c.c.c rH
   |exact ax (o,I) ⟨f,l,U⟩ kE.c.c.c.c.c rH
 refine .kn<|.bF [15,17] mixed ?_
 refine .tO 0 rfl .move<|.tO 1 rfl .move<|.tK 2 rfl .move<|.tK 3 rfl .move ?_
 refine .take 4 rfl (.i64 ((q-1:Nat):Int) .sub ⟨by omega,by omega,by omega⟩) (by kernel_rfl) ?_
 refine .tO 5 rfl .move<|.tO 6 rfl .move ?_
 refine .cH 7 rfl (.i64 ((q-1:Nat):Int) .sub ⟨by omega,by omega,by omega⟩) (by kernel_rfl) ?_
 refine RA.au 8 rfl (q-1) C k rfl rfl rfl (by kernel_rfl) (λd4=>?_)
 refine .tO 9 rfl (.bO rfl)<|.tO 10 rfl .move<|.tO 11 rfl .move ?_
 refine RA.au 12 rfl (q) C g rfl rfl rfl (by kernel_rfl) (λd5=>?_)
 refine .tO 13 rfl (.bO rfl) ?_
 refine RA.au 14 rfl (q) C g rfl rfl rfl (by kernel_rfl) (λd6=>?_)
 refine .sT 15 rfl ?_
 refine .dq (q) C g t (λa7 W=>?_)
 refine .nil (Next.mod rfl ?_)
 refine RA.au 16 rfl (q-1) C k rfl rfl rfl (by kernel_rfl) (λd7=>?_)
 refine .sT 17 rfl ?_
 obtain⟨zz,Z⟩:∃u,(N.set (q) t)[q-1]? =some u:=⟨_,aC (by rw[ac2];exact(ac1.1 k).1)⟩
 refine .dq (q-1) W Z s (λJ D=>?_)
 rw[<-bS g k]at D
 refine .nil (Next.mod rfl ?_)
 refine RA.nil (by kernel_rfl) ?_
 refine bi<|aD<|.region<|.mo rfl ?_
 refine .ia (q+1) .add ?_
 refine .ag rfl<|.nil ?_
 ·exact aN (q+1,bn N q (q-1),J) ⟨⟨by simp only;omega,by simp only;omega⟩,D,M.step (by omega) (by omega) (by omega) (by omega) (by omega),V.lC (by omega) (by omega) (by omega) (by omega)⟩ (by simp only;omega) kE.c.c.c.c.c.c rH
 refine .exit<|aP<|aV<|aR ?_
 ·first
   |exact ax (N,T4) ⟨C,M,V⟩ kE.c.c.c.c.c rH
   |exact ax (o,I) ⟨f,l,U⟩ kE.c.c.c.c.c rH
 refine .skip ?_
 ·first
   |exact ax (N,T4) ⟨C,M,V⟩ kE.c.c.c.c.c rH
   |exact ax (o,I) ⟨f,l,U⟩ kE.c.c.c.c.c rH
 intro y A
 obtain⟨us,T5⟩:=y
 obtain⟨a8,a9,b0⟩:=A
 simp only at a8 a9 b0⊢
 refine bi<|aD<|.region<|.mo rfl ?_
 refine .ia (n+1) .add ?_
 refine .ag rfl<|.nil ?_
 ·exact aN (n+1,d,us,T5) ⟨⟨by simp only;omega,G,H⟩,a8,a9,b0⟩ (by simp only;omega) kE.c.c.c.c.c rH
 refine .exit<|aP<|aV<|aR<|aD<|.sr<|.az rfl ?_
 refine .ret (aZ _ (.one (.tmp rfl)) rH ?_)
 ·exact⟨_,rfl,ys,false,rfl,B,L,λh=>by cases h⟩
end
end SST
namespace SST
section
variable{c:ByteArray->ByteArray->Int}{ok:ByteArray->Prop}
theorem eQ(v:Value)(xs:List ByteArray)(a b lo d e:Nat)(s:Int)(R:aA)(h:RS R 1 bU v xs)(f:lo<=a/\a<d)(g:lo<=b/\b<d)(o:d<=xs.length)(m:fA c ok R)(i:∀x∈xs,ok x):
  Spec prog 455 [v,.int .i64 a,.int .i64 b,pT e] R [bl e [.int .i64 s] 3] λu H'=>∃T',H'=[T']/\∃(s':Int) (p q:Nat),u=.tuple [.int .i64 p,.int .i64 q].toArray/\T'=(bl e [.int .i64 s'] 3)/\(lo<=p/\p<d)/\(lo<=q/\q<d):=by
 have r:=h.aL
 obtain⟨x,j⟩:∃x,xs[b]? =some x:=⟨_,aC (by omega)⟩
 obtain⟨y,k⟩:∃x,xs[a]? =some x:=⟨_,aC (by omega)⟩
 have t:=i x (aF j)
 have w:=i y (aF k)
 refine Spec.body func455 rfl results455 ntmps455 rfl ?_
 refine .sr<|.ag rfl<|.ag rfl<|.zs<|.seq ?_
 refine .bQ 8 mixed (by kernel_rfl) ?_
 conv=>arg 6;dsimp only[List.take]
 refine .mo rfl<|.mo rfl ?_
 refine .cR b h j (λA=>?_)
 refine .lo rfl<|.mo rfl<|.mo rfl ?_
 refine .cR a h k (λB=>?_)
 refine .lo rfl<|.nil ?_
 refine .bc (gB m x y _) (λu n=>?_)
 subst n
 refine .zn ?_
 refine .cond rfl (λl=>?_) λl=>?_
 refine .sr<|.mo rfl<|.nc rfl<|.lo rfl<|.q .add ?_
 refine .nc rfl<|.cO rfl rfl<|.z<|.mo rfl<|.mo rfl<|.ag rfl<|.az rfl ?_
 refine .ret (aT (aZ _ (.two (.tmp rfl) (.tmp rfl)) rH ?_))
 ·exact⟨_,rfl,_,b,a,rfl,rfl,g,f⟩
 refine .kn<|.sr<|.mo rfl<|.mo rfl<|.ag rfl<|.az rfl ?_
 refine .ret (aZ _ (.two (.tmp rfl) (.tmp rfl)) rH ?_)
 ·exact⟨_,rfl,_,a,b,rfl,rfl,f,g⟩
theorem fI(v:Value)(xs:List ByteArray)(a b d lo e f:Nat)(s:Int)(R:aA)(h:RS R 1 bU v xs)(l:lo<=a/\a<e)(m:lo<=b/\b<e)(n:lo<=d/\d<e)(j:e<=xs.length)(i:fA c ok R)(k:∀x∈xs,ok x):
  Spec prog 430 [v,.int .i64 a,.int .i64 b,.int .i64 d,pT f] R [bl f [.int .i64 s] 3] λu H'=>∃T',H'=[T']/\∃(s':Int) (p:Nat),u=.int .i64 p/\T'=(bl f [.int .i64 s'] 3)/\(lo<=p/\p<e):=by
 have L:=h.aL
 refine Spec.body func430 rfl results430 ntmps430 rfl ?_
 refine .sr<|.ag rfl<|.z<|.mo rfl<|.mo rfl<|.mo rfl<|.mo rfl ?_
 refine .bb (eQ v xs a b lo e f s _ h l m j i k) (λu G g=>?_)
 obtain⟨D,y,B,rfl,rfl,o,t⟩:=g
 refine .mo rfl<|.q .extract<|.q .extract<|.ag rfl<|.ag rfl<|.z<|.mo rfl<|.mo rfl<|.mo rfl<|.mo rfl ?_
 refine .bb (eQ v xs B d lo e f D _ h t n j i k) (λu H g=>?_)
 obtain⟨E,A,N,rfl,rfl,r,K⟩:=g
 refine .mo rfl<|.q .extract<|.q .extract<|.ag rfl<|.ag rfl<|.z<|.mo rfl<|.mo rfl<|.mo rfl<|.mo rfl ?_
 refine .bb (eQ v xs y A lo e f E _ h o r j i k) (λu I g=>?_)
 obtain⟨F,M,C,rfl,rfl,J,w⟩:=g
 refine .mo rfl<|.q .extract<|.q .extract<|.ag rfl<|.ag rfl<|.z<|.mo rfl<|.az rfl ?_
 refine .ret (aZ _ (.one (.tmp rfl)) rH ?_)
 ·exact⟨_,rfl,F,C,rfl,rfl,w⟩
theorem eP(v:Value)(xs:List ByteArray)(a lo d b:Nat)(s:Int)(R:aA)(h:RS R 1 bU v xs)(n:lo+1<=a/\a+1<d)(f:d<=xs.length)(o:xs.length<=1000000000)(e:fA c ok R)(g:∀x∈xs,ok x):
  Spec prog 429 [v,.int .i64 a,pT b] R [bl b [.int .i64 s] 3] λu H'=>∃T',H'=[T']/\∃(s':Int) (p:Nat),u=.int .i64 p/\T'=(bl b [.int .i64 s'] 3)/\(lo<=p/\p<d):=by
 have q:=h.aL
 refine Spec.body func429 rfl results429 ntmps429 rfl ?_
 refine .sr<|.ag rfl<|.z<|.mo rfl<|.mo rfl ?_
 refine .ia (a-1) .sub ?_
 refine .mo rfl<|.mo rfl ?_
 refine .ia (a+1) .add ?_
 refine .mo rfl ?_
 refine .bb (fI v xs (a-1) a (a+1) lo d b s _ h (by omega) (by omega) (by omega) f e g) (λu m j=>?_)
 obtain⟨l,k,rfl,rfl,i⟩:=j
 refine .az rfl ?_
 refine .ret (aZ _ (.one (.tmp rfl)) rH ?_)
 ·exact⟨_,rfl,l,k,rfl,rfl,i⟩
theorem choose_spec(v:Value)(xs:List ByteArray)(a b:Nat)(R:aA)(h:RS R 1 bU v xs)(W:a<b)(g:b<=xs.length)(r:xs.length<=1000000000)(l:fA c ok R)(m:∀x∈xs,ok x):
  Spec prog 375 [v,.int .i64 a,.int .i64 b] R [] λu H'=>(∃(p:Nat) (t:Int),u=.tuple [.int .i64 p,.int .i64 t].toArray/\a<=p/\p<b)/\H'=[]:=by
 have iv:=h.aL
 obtain⟨n,T⟩:∃n,b=a+n:=⟨b-a,by omega⟩
 subst T
 obtain⟨q,w⟩:∃q,q=n/4:=⟨_,rfl⟩
 refine Spec.body func375 rfl results375 ntmps375 rfl ?_
 refine .sr<|.ag rfl<|.ag rfl<|.z<|.mo rfl<|.mo rfl ?_
 refine .ia (n) .sub ?_
 refine .ag rfl<|.z ?_
 refine .hK (λe=>?_)
 refine .z<|.mo rfl<|.mo rfl ?_
 refine .q (.i64 ((q:Nat):Int) .quo ⟨by rw[w,ac5 (by omega)];omega,by omega,by omega⟩) ?_
 refine .ia (q) .mul ?_
 refine .ia (a+q) .add ?_
 refine .ag rfl<|.z<|.mo rfl<|.mo rfl ?_
 refine .q (.i64 ((q:Nat):Int) .quo ⟨by rw[w,ac5 (by omega)];omega,by omega,by omega⟩) ?_
 refine .ia (q*2) .mul ?_
 refine .ia (a+q*2) .add ?_
 refine .ag rfl<|.z<|.mo rfl<|.mo rfl ?_
 refine .q (.i64 ((q:Nat):Int) .quo ⟨by rw[w,ac5 (by omega)];omega,by omega,by omega⟩) ?_
 refine .ia (q*3) .mul ?_
 refine .ia (a+q*3) .add ?_
 refine .ag rfl<|.zs ?_
 refine bp.cut (X:=Nat×Int) (λz=>a<=z.1/\z.1<a+n) (λz=>[(9,pT e),(11,iN z.1)]) (λz=>[bl e [.int .i64 z.2] 3]) ?_ ?_
 refine .sr<|.mo rfl<|.q .geq<|.zn ?_
 refine .cond rfl (λA=>?_) λA=>?_
 have Z:8<=n:=by have:=bo A;omega
 refine .seq ?_
 refine bp.cut (X:=Nat×Nat×Nat×Int) (λz=>(a<=z.1/\z.1<a+n)/\(a<=z.2.1/\z.2.1<a+n)/\(a<=z.2.2.1/\z.2.2.1<a+n)) (λz=>[(0,v),(9,pT e),(10,iN z.1),(11,iN z.2.1),(12,iN z.2.2.1)]) (λz=>[bl e [.int .i64 z.2.2.2] 3]) ?_ ?_
 refine .sr<|.mo rfl<|.q .geq<|.zn ?_
 refine .cond rfl (λB=>?_) λB=>?_
 have Y:50<=n:=by have:=bo B;omega
 refine .sr<|.mo rfl<|.mo rfl ?_
 refine .bb (eP v xs (a+q) a (a+n) e 0 _ h (by omega) g r l m) (λu o f=>?_)
 obtain⟨U,J,rfl,rfl,F⟩:=f
 refine .ag rfl<|.z<|.mo rfl<|.mo rfl ?_
 refine .bb (eP v xs (a+q*2) a (a+n) e U _ h (by omega) g r l m) (λu o f=>?_)
 obtain⟨V,K,rfl,rfl,G⟩:=f
 refine .az rfl<|.region<|.mo rfl<|.mo rfl ?_
 refine .bb (eP v xs (a+q*3) a (a+n) e V _ h (by omega) g r l m) (λu o f=>?_)
 obtain⟨N,L,rfl,rfl,H⟩:=f
 refine .ag rfl<|.nil ?_
 ·first
   |exact ax (J,K,L,N) ⟨F,G,H⟩ kE.c.c.c.c.c rH
   |exact ax (a+q,a+q*2,a+q*3,0) ⟨by simp only;omega,by simp only;omega,by simp only;omega⟩ kE.c.c.c.c.c rH
 refine .skip ?_
 ·first
   |exact ax (J,K,L,N) ⟨F,G,H⟩ kE.c.c.c.c.c rH
   |exact ax (a+q,a+q*2,a+q*3,0) ⟨by simp only;omega,by simp only;omega,by simp only;omega⟩ kE.c.c.c.c.c rH
 intro y d
 obtain⟨i,j,k,s⟩:=y
 obtain⟨C,D,E⟩:=d
 simp only at C D E⊢
 refine aD<|.region<|.mo rfl<|.mo rfl<|.mo rfl<|.mo rfl ?_
 refine .bb (fI v xs i j k a (a+n) e s _ h C D E g l m) (λu o f=>?_)
 obtain⟨O,M,rfl,rfl,I⟩:=f
 refine .ag rfl<|.nil ?_
 ·first
   |exact ax (M,O) I kE.c.c rH
   |exact ax (a+q*2,0) (by simp only;omega) kE.c.c rH
 refine .skip ?_
 ·first
   |exact ax (M,O) I kE.c.c rH
   |exact ax (a+q*2,0) (by simp only;omega) kE.c.c rH
 intro y d
 obtain⟨p,s⟩:=y
 simp only at d⊢
 refine aD<|.sr<|.lo rfl<|.zn<|.block<|.sr<|.q .cA<|.az rfl ?_
 refine .cond rfl (λQ=>?_) λQ=>?_
 refine .sr<|.mo rfl<|.ag rfl<|.az rfl ?_
 refine .ret (bg (aZ _ (.two (.tmp rfl) (.tmp rfl)) (.none _) ?_))
 ·exact⟨⟨p,_,rfl,d.1,d.2⟩,rfl⟩
 refine .sr<|.q .cA<|.az rfl ?_
 refine .cond rfl (λS=>?_) λS=>?_
 refine .sr<|.mo rfl<|.ag rfl<|.az rfl ?_
 refine .ret (bg (aZ _ (.two (.tmp rfl) (.tmp rfl)) (.none _) ?_))
 ·exact⟨⟨p,_,rfl,d.1,d.2⟩,rfl⟩
 refine .sr<|.mo rfl<|.ag rfl<|.az rfl ?_
 refine .ret (bg (aZ _ (.two (.tmp rfl) (.tmp rfl)) (.none _) ?_))
 ·exact⟨⟨p,_,rfl,d.1,d.2⟩,rfl⟩
end
end SST
namespace SST
section
variable{c:ByteArray->ByteArray->Int}{ok:ByteArray->Prop}
theorem iP(v:Value)(xs:List ByteArray)(T:ay)(a b m:Nat)(p:ByteArray)(R:aA)(h:OS 9 1 bU v xs T)(a9:a<b)(hm:a<=m/\m<b)(B:xs[m]? =some p)(hb:b<=xs.length)(hl:xs.length<=1000000000)(hf:fA c ok R)(Z:∀x∈xs,ok x)(so:SO (ap c))
  (b5:∀(k:Nat) (x:ByteArray),a<=k->k<b->xs[k]? =some x->ap c x p=false):
  Spec prog 379 [v,.int .i64 a,.int .i64 b,.int .i64 m] R [T] λu H'=>∃T',H'=[T']/\∃ys mid,u=iN mid/\OS 9 1 bU v ys T'/\RP a b xs ys/\jG (ap c) ys a mid b p:=by
 have iv:=h.aL
 obtain⟨x0,D⟩:∃x,xs[a]? =some x:=⟨_,aC (by omega)⟩
 have c7:=Z p (aF B)
 refine Spec.body func379 rfl results379 ntmps379 rfl ?_
 refine .sr<|.ag rfl<|.zs<|.bF [13,15] mixed ?_
 refine .tO 0 rfl .move<|.tO 1 rfl .move<|.tK 2 rfl .move<|.tK 3 rfl .move<|.tO 4 rfl .move<|.tO 5 rfl .move ?_
 refine RA.au 6 rfl (m) h B rfl rfl rfl (by kernel_rfl) (λd0=>?_)
 refine .tO 7 rfl (.bO rfl)<|.tO 8 rfl .move<|.tO 9 rfl .move ?_
 refine RA.au 10 rfl (a) h D rfl rfl rfl (by kernel_rfl) (λd1=>?_)
 refine .tO 11 rfl (.bO rfl) ?_
 refine RA.au 12 rfl (a) h D rfl rfl rfl (by kernel_rfl) (λd2=>?_)
 refine .sT 13 rfl ?_
 refine .dq (a) h D p (λa7 a0=>?_)
 refine .nil (Next.mod rfl ?_)
 refine RA.au 14 rfl (m) h B rfl rfl rfl (by kernel_rfl) (λd3=>?_)
 refine .sT 15 rfl ?_
 obtain⟨zz,a1⟩:∃u,(xs.set (a) p)[m]? =some u:=⟨_,aC (by rw[ac2];exact(ac1.1 B).1)⟩
 refine .dq (m) a0 a1 x0 (λU H=>?_)
 rw[<-bS D B]at H
 refine .nil (Next.mod rfl ?_)
 refine RA.nil (by kernel_rfl) ?_
 have a8:RP a b xs (bn xs a m):=(RP.refl xs).step (by omega) (by omega) (by omega) (by omega) (by omega)
 have b0:(bn xs a m)[a]? =some p:=by
  rw[cX (by omega) (by omega)]
  by_cases Y:a=m
  ·rw[ac4 Y,D, <-B, <-Y,D]
  ·rw[ac3 Y,ac4 rfl,B]
 refine aD<|.sr<|.mo rfl ?_
 refine .ia (a+1) .add ?_
 refine .mo rfl ?_
 refine .ia (b-1) .sub ?_
 refine .ag rfl<|.ag rfl<|.zs<|.block ?_
 refine .loop (X:=Nat×Nat×List ByteArray×ay) (λy=>OS 9 1 bU v y.2.2.1 y.2.2.2/\RP a b xs y.2.2.1/\PQ (λx=> !ap c p x) y.2.2.1 a y.1 y.2.1 b p) (λy=>[(0,v),(1,iN a),(9,iN y.1),(10,iN y.2.1)]) (λy=>[y.2.2.2]) (λy=>y.2.1+1-y.1) (a+1,b-1,bn xs a m,U) ⟨H,a8,.start a9 b0⟩ kE.c.c.c.c rH ?_
 rintro⟨i,j,ys,L⟩ ⟨s,A,C⟩
 simp only at s A C⊢
 have c6:=A.length
 have c0:=C.i0
 have c2:=C.ij
 have c4:=C.jb
 have a6:=C.at_
 refine .block<|.seq ?_
 refine bp.cut (X:=Nat) (λn=>i<=n/\PQ (λx=> !ap c p x) ys a n j b p/\∀x,n<=j->ys[n]? =some x->(!ap c p x)=false) (λn=>[(0,v),(1,iN a),(9,.int .i64 (n:Nat)),(10,iN j)]) (λ_=>[L]) ?_ ?_
 refine .block ?_
 refine .loop (X:=Nat) (λn=>i<=n/\PQ (λx=> !ap c p x) ys a n j b p) (λn=>[(0,v),(1,iN a),(9,.int .i64 (n:Nat)),(10,iN j)]) (λ_=>[L]) (λn=>j+1-n) i ⟨ac0 _,C⟩ kE.c.c.c.c rH ?_
 rintro w ⟨Q,F⟩
 refine .seq<|.seq ?_
 refine .bQ 12 mixed (by kernel_rfl) ?_
 conv=>arg 6;dsimp only[List.take]
 refine .mo rfl<|.mo rfl<|.q .leq<|.mo rfl ?_
 refine .split (t:=32) rfl (λd=>?_) (λd=>?_)
 have b3:w<=j:=by have:=bo d;omega
 obtain⟨x2,I⟩:∃x,ys[w]? =some x:=⟨_,aC (by omega)⟩
 have c8:=Z x2 (A.perm.mem_iff.1 (aF I))
 refine .gT d<|.mo rfl<|.gT d<|.mo rfl<|.gT d ?_
 refine .au a s a6 (λd4=>?_)
 refine .gT d<|.lo rfl<|.gT d<|.mo rfl<|.gT d<|.mo rfl<|.gT d ?_
 refine .au w s I (λd5=>?_)
 refine .gT d<|.lo rfl<|.nil<|.gT d ?_
 refine .bc (gB hf p x2 _) (λu hu=>?_)
 subst hu
 refine .gT d<|.q .not<|.q (.bu d) ?_
 refine .zn ?_
 refine .cond rfl (λM=>?_) λM=>?_
 refine .kn<|.block<|.region<|.mo rfl ?_
 refine .ia (w+1) .add ?_
 refine .ag rfl<|.nil<|bi ?_
 ·exact aN (w+1) ⟨by omega,F.inc b3 I M⟩ (by omega) kE.c.c.c.c rH
 refine .exit<|aP<|aV<|aR ?_
 first
  |exact ax w ⟨Q,F,λx f l=>by rw[I]at l;cases l;exact M⟩ kE.c.c.c.c rH
  |exact ax w ⟨Q,F,λx f l=>by have:=aY d;omega⟩ kE.c.c.c.c rH
 refine .gF d<|.gF d<|.gF d<|.gF d<|.gF d<|.gF d<|.gF d<|.gF d<|.nil<|.gF d<|.gF d<|.q (.bq d) ?_
 refine .zn<|.bB<|.exit<|aP<|aV<|aR ?_
 first
  |exact ax w ⟨Q,F,λx f l=>by rw[I]at l;cases l;exact M⟩ kE.c.c.c.c rH
  |exact ax w ⟨Q,F,λx f l=>by have:=aY d;omega⟩ kE.c.c.c.c rH
 intro x f
 obtain⟨g,a3⟩:∃g,g=x:=⟨_,rfl⟩
 rw[<-a3]at f⊢
 clear a3 x
 obtain⟨c1,a2,b8⟩:=f
 refine aD<|.seq ?_
 refine bp.cut (X:=Nat) (λo=>o<=j/\PQ (λx=> !ap c p x) ys a g o b p/\∀x,g<=o->ys[o]? =some x->(!ap c p x)=true) (λo=>[(0,v),(1,iN a),(9,iN g),(10,.int .i64 (o:Nat))]) (λ_=>[L]) ?_ ?_
 refine .block ?_
 refine .loop (X:=Nat) (λo=>o<=j/\PQ (λx=> !ap c p x) ys a g o b p) (λo=>[(0,v),(1,iN a),(9,iN g),(10,.int .i64 (o:Nat))]) (λ_=>[L]) (λo=>o) j ⟨ac0 _,a2⟩ kE.c.c.c.c rH ?_
 rintro z ⟨S,G⟩
 have b2:=a2.i0
 refine .seq<|.seq ?_
 refine .bQ 12 mixed (by kernel_rfl) ?_
 conv=>arg 6;dsimp only[List.take]
 refine .mo rfl<|.mo rfl<|.q .leq<|.mo rfl ?_
 refine .split (t:=49) rfl (λe=>?_) (λe=>?_)
 have b4:g<=z:=by have:=bo e;omega
 obtain⟨K,J⟩:∃x,ys[z]? =some x:=⟨_,aC (by omega)⟩
 have c9:=Z K (A.perm.mem_iff.1 (aF J))
 refine .gT e<|.mo rfl<|.gT e<|.mo rfl<|.gT e ?_
 refine .au a s a6 (λd6=>?_)
 refine .gT e<|.lo rfl<|.gT e<|.mo rfl<|.gT e<|.mo rfl<|.gT e ?_
 refine .au z s J (λd7=>?_)
 refine .gT e<|.lo rfl<|.nil<|.gT e ?_
 refine .bc (gB hf p K _) (λu hu=>?_)
 subst hu
 refine .q (.bu e) ?_
 refine .zn ?_
 refine .cond rfl (λN=>?_) λN=>?_
 refine .kn<|.block<|.region<|.mo rfl ?_
 refine .ia (z-1) .sub ?_
 refine .ag rfl<|.nil<|bi ?_
 ·have b6:ap c p K=true:=N
  exact aN (z-1) ⟨by omega,G.dec b4 J (by rw[b6];rfl)⟩ (by omega) kE.c.c.c.c rH
 refine .exit<|aP<|aV<|aR ?_
 first
  |exact ax z ⟨S,G,λx f l=>by have W:ap c p K=false:=N;rw[J]at l;cases l;rw[W];rfl⟩ kE.c.c.c.c rH
  |exact ax z ⟨S,G,λx f l=>by have:=aY e;omega⟩ kE.c.c.c.c rH
 refine .gF e<|.gF e<|.gF e<|.gF e<|.gF e<|.gF e<|.gF e<|.gF e<|.nil<|.gF e<|.q (.bq e) ?_
 refine .zn<|.bB<|.exit<|aP<|aV<|aR ?_
 first
  |exact ax z ⟨S,G,λx f l=>by have W:ap c p K=false:=N;rw[J]at l;cases l;rw[W];rfl⟩ kE.c.c.c.c rH
  |exact ax z ⟨S,G,λx f l=>by have:=aY e;omega⟩ kE.c.c.c.c rH
 intro x f
 obtain⟨r,a4⟩:∃r,r=x:=⟨_,rfl⟩
 rw[<-a4]at f⊢
 clear a4 x
 obtain⟨c5,O,b9⟩:=f
 have b2:=O.i0
 have c3:=O.ij
 refine aD<|.seq<|.sr<|.mo rfl<|.mo rfl<|.q .gtr<|.zn ?_
 refine .cond rfl (λV=>?_) λV=>?_
 refine .exit (aP (dn (aV (aR ?_))))
 refine aD<|.sr<|.mo rfl<|.az rfl ?_
 refine .ret (aZ _ (.one (.tmp rfl)) rH ?_)
 ·have b1:r<g:=de V
  exact⟨_,rfl,ys,g,rfl,s,A,O.kU so b1 (A.all (p:=λx=>ap c x p=false) b5)⟩
 have a5:g<=r:=by have:=aY V;omega
 obtain⟨x,f⟩:∃x,ys[g]? =some x:=⟨_,aC (by omega)⟩
 obtain⟨y,E⟩:∃x,ys[r]? =some x:=⟨_,aC (by omega)⟩
 have b7:=O.sw a5 (by omega) f E (b8 x (by omega) f) (b9 y a5 E)
 refine .kn<|.seq<|.bF [13,15] mixed ?_
 refine .tO 0 rfl .move<|.tO 1 rfl .move<|.tK 2 rfl .move<|.tK 3 rfl .move<|.tO 4 rfl .move<|.tO 5 rfl .move ?_
 refine RA.au 6 rfl (r) s E rfl rfl rfl (by kernel_rfl) (λd8=>?_)
 refine .tO 7 rfl (.bO rfl)<|.tO 8 rfl .move<|.tO 9 rfl .move ?_
 refine RA.au 10 rfl (g) s f rfl rfl rfl (by kernel_rfl) (λd9=>?_)
 refine .tO 11 rfl (.bO rfl) ?_
 refine RA.au 12 rfl (g) s f rfl rfl rfl (by kernel_rfl) (λe0=>?_)
 refine .sT 13 rfl ?_
 refine .dq (g) s f y (λa7 a0=>?_)
 refine .nil (Next.mod rfl ?_)
 refine RA.au 14 rfl (r) s E rfl rfl rfl (by kernel_rfl) (λe1=>?_)
 refine .sT 15 rfl ?_
 obtain⟨zz,a1⟩:∃u,(ys.set (g) y)[r]? =some u:=⟨_,aC (by rw[ac2];exact(ac1.1 E).1)⟩
 refine .dq (r) a0 a1 x (λU H=>?_)
 rw[<-bS f E]at H
 refine .nil (Next.mod rfl ?_)
 refine RA.nil (by kernel_rfl) ?_
 refine aD<|.sr<|.mo rfl ?_
 refine .ia (g+1) .add ?_
 refine .az rfl<|.region<|.mo rfl ?_
 refine .ia (r-1) .sub ?_
 refine .ag rfl<|.nil<|bi ?_
 ·exact aN (g+1,r-1,bn ys g r,U) ⟨H,A.step (by omega) (by omega) (by omega) (by omega) (by omega),b7.2⟩ (by simp only;omega) kE.c.c.c.c rH
theorem fJ(v:Value)(xs:List ByteArray)(T:ay)(a b m:Nat)(p:ByteArray)(R:aA)(h:OS 9 1 bU v xs T)(d8:a<b)(hm:a<=m/\m<b)(Q:xs[m]? =some p)(hb:b<=xs.length)(hl:xs.length<=1000000000)(hf:fA c ok R)(a9:∀x∈xs,ok x)(so:SO (ap c)):
  Spec prog 380 [v,.int .i64 a,.int .i64 b,.int .i64 m] R [T] λu H'=>∃T',H'=[T']/\∃ys mid z,u=.tuple [iN mid,.bool z].toArray/\OS 9 1 bU v ys T'/\RP a b xs ys/\Part (ap c) ys a mid b p:=by
 have iv:=h.aL
 obtain⟨x0,a2⟩:∃x,xs[a]? =some x:=⟨_,aC (by omega)⟩
 have g8:=a9 p (aF Q)
 refine Spec.body func380 rfl results380 ntmps380 rfl ?_
 refine .sr<|.ag rfl<|.ag rfl<|.zs<|.bF [13,15] mixed ?_
 refine .tO 0 rfl .move<|.tO 1 rfl .move<|.tK 2 rfl .move<|.tK 3 rfl .move<|.tO 4 rfl .move<|.tO 5 rfl .move ?_
 refine RA.au 6 rfl (m) h Q rfl rfl rfl (by kernel_rfl) (λj7=>?_)
 refine .tO 7 rfl (.bO rfl)<|.tO 8 rfl .move<|.tO 9 rfl .move ?_
 refine RA.au 10 rfl (a) h a2 rfl rfl rfl (by kernel_rfl) (λj8=>?_)
 refine .tO 11 rfl (.bO rfl) ?_
 refine RA.au 12 rfl (a) h a2 rfl rfl rfl (by kernel_rfl) (λk0=>?_)
 refine .sT 13 rfl ?_
 refine .dq (a) h a2 p (λb4 G=>?_)
 refine .nil (Next.mod rfl ?_)
 refine RA.au 14 rfl (m) h Q rfl rfl rfl (by kernel_rfl) (λk1=>?_)
 refine .sT 15 rfl ?_
 obtain⟨zz,H⟩:∃u,(xs.set (a) p)[m]? =some u:=⟨_,aC (by rw[ac2];exact(ac1.1 Q).1)⟩
 refine .dq (m) G H x0 (λN B=>?_)
 rw[<-bS a2 Q]at B
 refine .nil (Next.mod rfl ?_)
 refine RA.nil (by kernel_rfl) ?_
 have a0:RP a b xs (bn xs a m):=(RP.refl xs).step (by omega) (by omega) (by omega) (by omega) (by omega)
 have M:(bn xs a m)[a]? =some p:=by
  rw[cX (by omega) (by omega)]
  by_cases hk:a=m
  ·rw[ac4 hk,a2, <-Q, <-hk,a2]
  ·rw[ac3 hk,ac4 rfl,Q]
 obtain⟨A,d3⟩:∃A,A=bn xs a m:=⟨_,rfl⟩
 rw[<-d3]at B a0 M
 obtain⟨V,d7⟩:∃V,V=N:=⟨_,rfl⟩
 rw[<-d7]at B⊢
 have g6:=a0.length
 have C:=B
 clear B
 have d6:PQ (λx=>ap c x p) A a (a+1) (b-1) b p:=.start d8 M
 clear d3
 refine aD<|.sr<|.mo rfl ?_
 refine .ia (a+1) .add ?_
 refine .mo rfl ?_
 refine .ia (b-1) .sub ?_
 refine .ag rfl<|.ag rfl<|.zs ?_
 refine bp.cut (X:=Nat) (λl=>PQ (λx=>ap c x p) A a l (b-1) b p/\∀x,l<=b-1->A[l]? =some x->ap c x p=false) (λl=>[(0,v),(1,iN a),(10,.int .i64 (l:Nat)),(11,.int .i64 ((b-1:Nat):Int))]) (λ_=>[V]) ?_ ?_
 refine .block ?_
 refine .loop (X:=Nat) (λl=>PQ (λx=>ap c x p) A a l (b-1) b p) (λl=>[(0,v),(1,iN a),(10,.int .i64 (l:Nat)),(11,.int .i64 ((b-1:Nat):Int))]) (λ_=>[V]) (λl=>b-l) (a+1) d6 kE.c.c.c.c rH ?_
 rintro I a5
 refine .seq<|.seq ?_
 refine .bQ 12 mixed (by kernel_rfl) ?_
 conv=>arg 6;dsimp only[List.take]
 refine .mo rfl<|.mo rfl<|.q .leq<|.mo rfl ?_
 refine .split (t:=33) rfl (λo=>?_) (λo=>?_)
 have e2:I<=b-1:=by have:=bo o;omega
 obtain⟨x2,b0⟩:∃x,A[I]? =some x:=⟨_,aC (by omega)⟩
 have g9:=a9 x2 (a0.perm.mem_iff.1 (aF b0))
 refine .gT o<|.mo rfl<|.gT o<|.mo rfl<|.gT o ?_
 refine .au I C b0 (λk4=>?_)
 refine .gT o<|.lo rfl<|.gT o<|.mo rfl<|.gT o<|.mo rfl<|.gT o ?_
 refine .au a C M (λk5=>?_)
 refine .gT o<|.lo rfl<|.nil<|.gT o ?_
 refine .bc (gB hf x2 p _) (λu S=>?_)
 subst S
 refine .q (.bu o) ?_
 refine .zn ?_
 refine .cond rfl (λh1=>?_) λh1=>?_
 refine .kn<|.block<|.region<|.mo rfl ?_
 refine .ia (I+1) .add ?_
 refine .ag rfl<|.nil<|bi ?_
 ·exact aN (I+1) (a5.inc e2 b0 h1) (by omega) kE.c.c.c.c rH
 refine .exit<|aP<|aV<|aR ?_
 first
  |exact ax I ⟨a5,λx d e=>by rw[b0]at e;cases e;exact h1⟩ kE.c.c.c.c rH
  |exact ax I ⟨a5,λx d e=>by have:=aY o;omega⟩ kE.c.c.c.c rH
 refine .gF o<|.gF o<|.gF o<|.gF o<|.gF o<|.gF o<|.gF o<|.gF o<|.nil<|.gF o<|.q (.bq o) ?_
 refine .zn<|.bB<|.exit<|aP<|aV<|aR ?_
 first
  |exact ax I ⟨a5,λx d e=>by rw[b0]at e;cases e;exact h1⟩ kE.c.c.c.c rH
  |exact ax I ⟨a5,λx d e=>by have:=aY o;omega⟩ kE.c.c.c.c rH
 intro x d
 obtain⟨s,c5⟩:∃s,s=x:=⟨_,rfl⟩
 rw[<-c5]at d⊢
 clear c5 x
 obtain⟨c3,f0⟩:=d
 refine aD<|.seq ?_
 refine bp.cut (X:=Nat) (λf=>f<=b-1/\PQ (λx=>ap c x p) A a s f b p/\∀x,s<=f->A[f]? =some x->ap c x p=true) (λf=>[(0,v),(1,iN a),(10,iN s),(11,.int .i64 (f:Nat))]) (λ_=>[V]) ?_ ?_
 refine .block ?_
 refine .loop (X:=Nat) (λf=>f<=b-1/\PQ (λx=>ap c x p) A a s f b p) (λf=>[(0,v),(1,iN a),(10,iN s),(11,.int .i64 (f:Nat))]) (λ_=>[V]) (λf=>f) (b-1) ⟨ac0 _,c3⟩ kE.c.c.c.c rH ?_
 rintro J ⟨b7,a6⟩
 have e0:=c3.i0
 refine .seq<|.seq ?_
 refine .bQ 12 mixed (by kernel_rfl) ?_
 conv=>arg 6;dsimp only[List.take]
 refine .mo rfl<|.mo rfl<|.q .leq<|.mo rfl ?_
 refine .split (t:=49) rfl (λk=>?_) (λk=>?_)
 have e3:s<=J:=by have:=bo k;omega
 obtain⟨x4,b1⟩:∃x,A[J]? =some x:=⟨_,aC (by omega)⟩
 have h0:=a9 x4 (a0.perm.mem_iff.1 (aF b1))
 refine .gT k<|.mo rfl<|.gT k<|.mo rfl<|.gT k ?_
 refine .au J C b1 (λk6=>?_)
 refine .gT k<|.lo rfl<|.gT k<|.mo rfl<|.gT k<|.mo rfl<|.gT k ?_
 refine .au a C M (λk7=>?_)
 refine .gT k<|.lo rfl<|.nil<|.gT k ?_
 refine .bc (gB hf x4 p _) (λu S=>?_)
 subst S
 refine .gT k<|.q .not<|.q (.bu k) ?_
 refine .zn ?_
 refine .cond rfl (λh2=>?_) λh2=>?_
 refine .kn<|.block<|.region<|.mo rfl ?_
 refine .ia (J-1) .sub ?_
 refine .ag rfl<|.nil<|bi ?_
 ·have e6:ap c x4 p=false:=by
   have d4:(!ap c x4 p)=true:=h2
   simpa using d4
  exact aN (J-1) ⟨by omega,a6.dec e3 b1 e6⟩ (by omega) kE.c.c.c.c rH
 refine .exit<|aP<|aV<|aR ?_
 first
  |exact ax J ⟨b7,a6,λx d e=>by
    have O:(!ap c x4 p)=false:=h2
    rw[b1]at e;cases e
    simpa using O⟩ kE.c.c.c.c rH
  |exact ax J ⟨b7,a6,λx d e=>by have:=aY k;omega⟩ kE.c.c.c.c rH
 refine .gF k<|.gF k<|.gF k<|.gF k<|.gF k<|.gF k<|.gF k<|.gF k<|.nil<|.gF k<|.gF k<|.q (.bq k) ?_
 refine .zn<|.bB<|.exit<|aP<|aV<|aR ?_
 first
  |exact ax J ⟨b7,a6,λx d e=>by
    have O:(!ap c x4 p)=false:=h2
    rw[b1]at e;cases e
    simpa using O⟩ kE.c.c.c.c rH
  |exact ax J ⟨b7,a6,λx d e=>by have:=aY k;omega⟩ kE.c.c.c.c rH
 intro x d
 obtain⟨r,c6⟩:∃r,r=x:=⟨_,rfl⟩
 rw[<-c6]at d⊢
 clear c6 x
 obtain⟨g3,b5,f1⟩:=d
 have e0:=b5.i0
 have f7:=b5.ij
 refine aD<|.seq<|.sr<|.mo rfl<|.mo rfl<|.q .gtr<|.zn ?_
 refine .cond rfl (λh3=>?_) λh3=>?_
 have d9:r<s:=de h3
 obtain⟨y,F⟩:∃x,A[r]? =some x:=⟨_,aC (by omega)⟩
 refine .seq<|.bF [13,15] mixed ?_
 refine .tO 0 rfl .move<|.tO 1 rfl .move<|.tK 2 rfl .move<|.tK 3 rfl .move<|.tO 4 rfl .move<|.tO 5 rfl .move ?_
 refine RA.au 6 rfl (a) C M rfl rfl rfl (by kernel_rfl) (λk8=>?_)
 refine .tO 7 rfl (.bO rfl)<|.tO 8 rfl .move<|.tO 9 rfl .move ?_
 refine RA.au 10 rfl (r) C F rfl rfl rfl (by kernel_rfl) (λk9=>?_)
 refine .tO 11 rfl (.bO rfl) ?_
 refine RA.au 12 rfl (r) C F rfl rfl rfl (by kernel_rfl) (λl0=>?_)
 refine .sT 13 rfl ?_
 refine .dq (r) C F p (λb4 G=>?_)
 refine .nil (Next.mod rfl ?_)
 refine RA.au 14 rfl (a) C M rfl rfl rfl (by kernel_rfl) (λl1=>?_)
 refine .sT 15 rfl ?_
 obtain⟨zz,H⟩:∃u,(A.set (r) p)[a]? =some u:=⟨_,aC (by rw[ac2];exact(ac1.1 M).1)⟩
 refine .dq (a) G H y (λN B=>?_)
 rw[<-bS F M]at B
 refine .nil (Next.mod rfl ?_)
 refine RA.nil (by kernel_rfl) ?_
 refine aD<|.sr<|.mo rfl<|.ag rfl<|.az rfl ?_
 refine .ret (aT (aZ _ (.two (.tmp rfl) (.tmp rfl)) rH ?_))
 ·exact⟨_,rfl,bn A r a,r,true,rfl,B,a0.step (by omega) (by omega) (by omega) (by omega) (by omega),b5.fin d9 (by omega)⟩
 have c9:s<=r:=by have:=aY h3;omega
 obtain⟨x,d⟩:∃x,A[s]? =some x:=⟨_,aC (by omega)⟩
 obtain⟨y,F⟩:∃x,A[r]? =some x:=⟨_,aC (by omega)⟩
 have e8:=b5.sw c9 (by omega) d F (f0 x (by omega) d) (f1 y c9 F)
 refine .kn<|.seq<|.bF [13,15] mixed ?_
 refine .tO 0 rfl .move<|.tO 1 rfl .move<|.tK 2 rfl .move<|.tK 3 rfl .move<|.tO 4 rfl .move<|.tO 5 rfl .move ?_
 refine RA.au 6 rfl (r) C F rfl rfl rfl (by kernel_rfl) (λl2=>?_)
 refine .tO 7 rfl (.bO rfl)<|.tO 8 rfl .move<|.tO 9 rfl .move ?_
 refine RA.au 10 rfl (s) C d rfl rfl rfl (by kernel_rfl) (λl3=>?_)
 refine .tO 11 rfl (.bO rfl) ?_
 refine RA.au 12 rfl (s) C d rfl rfl rfl (by kernel_rfl) (λl4=>?_)
 refine .sT 13 rfl ?_
 refine .dq (s) C d y (λb4 G=>?_)
 refine .nil (Next.mod rfl ?_)
 refine RA.au 14 rfl (r) C F rfl rfl rfl (by kernel_rfl) (λl5=>?_)
 refine .sT 15 rfl ?_
 obtain⟨zz,H⟩:∃u,(A.set (s) y)[r]? =some u:=⟨_,aC (by rw[ac2];exact(ac1.1 F).1)⟩
 refine .dq (r) G H x (λN B=>?_)
 rw[<-bS d F]at B
 refine .nil (Next.mod rfl ?_)
 refine RA.nil (by kernel_rfl) ?_
 refine aD<|.sr<|.mo rfl ?_
 refine .ia (s+1) .add ?_
 refine .ag rfl<|.z<|.mo rfl ?_
 refine .ia (r-1) .sub ?_
 refine .ag rfl<|.zs ?_
 refine bp.cut (X:=Nat×Nat×List ByteArray×ay) (λy=>OS 9 1 bU v y.2.2.1 y.2.2.2/\RP a b xs y.2.2.1/\PQ (λx=>ap c x p) y.2.2.1 a y.1 y.2.1 b p/\y.2.1<y.1) (λy=>[(0,v),(1,iN a),(10,iN y.1),(11,iN y.2.1)]) (λy=>[y.2.2.2]) ?_ ?_
 refine .block ?_
 refine .loop (X:=Nat×Nat×List ByteArray×ay) (λy=>OS 9 1 bU v y.2.2.1 y.2.2.2/\RP a b xs y.2.2.1/\PQ (λx=>ap c x p) y.2.2.1 a y.1 y.2.1 b p) (λy=>[(0,v),(1,iN a),(10,iN y.1),(11,iN y.2.1)]) (λy=>[y.2.2.2]) (λy=>y.2.1+1-y.1) (s+1,r-1,bn A s r,N) ⟨B,a0.step (by omega) (by omega) (by omega) (by omega) (by omega),e8.2⟩ kE.c.c.c.c rH ?_
 rintro⟨i,j,ys,T1⟩ ⟨E,a1,Y⟩
 simp only at E a1 Y⊢
 have g5:=a1.length
 have f4:=Y.i0
 have f6:=Y.ij
 have g1:=Y.jb
 have d2:=Y.at_
 refine .block<|.seq ?_
 refine bp.cut (X:=Nat) (λl=>i<=l/\PQ (λx=>ap c x p) ys a l j b p/\∀x,l<=j->ys[l]? =some x->ap c x p=false) (λl=>[(0,v),(1,iN a),(10,.int .i64 (l:Nat)),(11,iN j)]) (λ_=>[T1]) ?_ ?_
 refine .block ?_
 refine .loop (X:=Nat) (λl=>i<=l/\PQ (λx=>ap c x p) ys a l j b p) (λl=>[(0,v),(1,iN a),(10,.int .i64 (l:Nat)),(11,iN j)]) (λ_=>[T1]) (λl=>j+1-l) i ⟨ac0 _,Y⟩ kE.c.c.c.c rH ?_
 rintro K ⟨b8,a7⟩
 refine .seq<|.seq ?_
 refine .bQ 12 mixed (by kernel_rfl) ?_
 conv=>arg 6;dsimp only[List.take]
 refine .mo rfl<|.mo rfl<|.q .leq<|.mo rfl ?_
 refine .split (t:=102) rfl (λn=>?_) (λn=>?_)
 have e4:K<=j:=by have:=bo n;omega
 obtain⟨x6,b2⟩:∃x,ys[K]? =some x:=⟨_,aC (by omega)⟩
 have h7:=a9 x6 (a1.perm.mem_iff.1 (aF b2))
 refine .gT n<|.mo rfl<|.gT n<|.mo rfl<|.gT n ?_
 refine .au K E b2 (λh9=>?_)
 refine .gT n<|.lo rfl<|.gT n<|.mo rfl<|.gT n<|.mo rfl<|.gT n ?_
 refine .au a E d2 (λi1=>?_)
 refine .gT n<|.lo rfl<|.nil<|.gT n ?_
 refine .bc (gB hf x6 p _) (λu S=>?_)
 subst S
 refine .q (.bu n) ?_
 refine .zn ?_
 refine .cond rfl (λh4=>?_) λh4=>?_
 refine .kn<|.block<|.region<|.mo rfl ?_
 refine .ia (K+1) .add ?_
 refine .ag rfl<|.nil<|bi ?_
 ·exact aN (K+1) ⟨by omega,a7.inc e4 b2 h4⟩ (by omega) kE.c.c.c.c rH
 refine .exit<|aP<|aV<|aR ?_
 first
  |exact ax K ⟨b8,a7,λx d e=>by rw[b2]at e;cases e;exact h4⟩ kE.c.c.c.c rH
  |exact ax K ⟨b8,a7,λx d e=>by have:=aY n;omega⟩ kE.c.c.c.c rH
 refine .gF n<|.gF n<|.gF n<|.gF n<|.gF n<|.gF n<|.gF n<|.gF n<|.nil<|.gF n<|.q (.bq n) ?_
 refine .zn<|.bB<|.exit<|aP<|aV<|aR ?_
 first
  |exact ax K ⟨b8,a7,λx d e=>by rw[b2]at e;cases e;exact h4⟩ kE.c.c.c.c rH
  |exact ax K ⟨b8,a7,λx d e=>by have:=aY n;omega⟩ kE.c.c.c.c rH
 intro x d
 obtain⟨w,c8⟩:∃w,w=x:=⟨_,rfl⟩
 rw[<-c8]at d⊢
 clear c8 x
 obtain⟨g0,c4,f2⟩:=d
 refine aD<|.seq ?_
 refine bp.cut (X:=Nat) (λf=>f<=j/\PQ (λx=>ap c x p) ys a w f b p/\∀x,w<=f->ys[f]? =some x->ap c x p=true) (λf=>[(0,v),(1,iN a),(10,iN w),(11,.int .i64 (f:Nat))]) (λ_=>[T1]) ?_ ?_
 refine .block ?_
 refine .loop (X:=Nat) (λf=>f<=j/\PQ (λx=>ap c x p) ys a w f b p) (λf=>[(0,v),(1,iN a),(10,iN w),(11,.int .i64 (f:Nat))]) (λ_=>[T1]) (λf=>f) j ⟨ac0 _,c4⟩ kE.c.c.c.c rH ?_
 rintro L ⟨b9,a8⟩
 have e1:=c4.i0
 refine .seq<|.seq ?_
 refine .bQ 12 mixed (by kernel_rfl) ?_
 conv=>arg 6;dsimp only[List.take]
 refine .mo rfl<|.mo rfl<|.q .leq<|.mo rfl ?_
 refine .split (t:=118) rfl (λg=>?_) (λg=>?_)
 have e5:w<=L:=by have:=bo g;omega
 obtain⟨x7,b3⟩:∃x,ys[L]? =some x:=⟨_,aC (by omega)⟩
 have h8:=a9 x7 (a1.perm.mem_iff.1 (aF b3))
 refine .gT g<|.mo rfl<|.gT g<|.mo rfl<|.gT g ?_
 refine .au L E b3 (λi4=>?_)
 refine .gT g<|.lo rfl<|.gT g<|.mo rfl<|.gT g<|.mo rfl<|.gT g ?_
 refine .au a E d2 (λi5=>?_)
 refine .gT g<|.lo rfl<|.nil<|.gT g ?_
 refine .bc (gB hf x7 p _) (λu S=>?_)
 subst S
 refine .gT g<|.q .not<|.q (.bu g) ?_
 refine .zn ?_
 refine .cond rfl (λh5=>?_) λh5=>?_
 refine .kn<|.block<|.region<|.mo rfl ?_
 refine .ia (L-1) .sub ?_
 refine .ag rfl<|.nil<|bi ?_
 ·have e7:ap c x7 p=false:=by
   have d5:(!ap c x7 p)=true:=h5
   simpa using d5
  exact aN (L-1) ⟨by omega,a8.dec e5 b3 e7⟩ (by omega) kE.c.c.c.c rH
 refine .exit<|aP<|aV<|aR ?_
 first
  |exact ax L ⟨b9,a8,λx d e=>by
    have O:(!ap c x7 p)=false:=h5
    rw[b3]at e;cases e
    simpa using O⟩ kE.c.c.c.c rH
  |exact ax L ⟨b9,a8,λx d e=>by have:=aY g;omega⟩ kE.c.c.c.c rH
 refine .gF g<|.gF g<|.gF g<|.gF g<|.gF g<|.gF g<|.gF g<|.gF g<|.nil<|.gF g<|.gF g<|.q (.bq g) ?_
 refine .zn<|.bB<|.exit<|aP<|aV<|aR ?_
 first
  |exact ax L ⟨b9,a8,λx d e=>by
    have O:(!ap c x7 p)=false:=h5
    rw[b3]at e;cases e
    simpa using O⟩ kE.c.c.c.c rH
  |exact ax L ⟨b9,a8,λx d e=>by have:=aY g;omega⟩ kE.c.c.c.c rH
 intro x d
 obtain⟨D,d1⟩:∃D,D=x:=⟨_,rfl⟩
 rw[<-d1]at d⊢
 clear d1 x
 obtain⟨g4,b6,f3⟩:=d
 have e1:=b6.i0
 have f8:=b6.ij
 refine aD<|.seq<|.sr<|.mo rfl<|.mo rfl<|.q .gtr<|.zn ?_
 refine .cond rfl (λh6=>?_) λh6=>?_
 refine .exit (aP (dn (aV (aR ?_))))
 exact ax (w,D,ys,T1) ⟨E,a1,b6,by have:=bo h6;simp only;omega⟩ kE.c.c.c.c rH
 have d0:w<=D:=by have:=aY h6;omega
 obtain⟨x8,a3⟩:∃x,ys[w]? =some x:=⟨_,aC (by omega)⟩
 obtain⟨y8,a4⟩:∃x,ys[D]? =some x:=⟨_,aC (by omega)⟩
 have e9:=b6.sw d0 (by omega) a3 a4 (f2 x8 (by omega) a3) (f3 y8 d0 a4)
 refine .kn<|.seq<|.bF [13,15] mixed ?_
 refine .tO 0 rfl .move<|.tO 1 rfl .move<|.tK 2 rfl .move<|.tK 3 rfl .move<|.tO 4 rfl .move<|.tO 5 rfl .move ?_
 refine RA.au 6 rfl (D) E a4 rfl rfl rfl (by kernel_rfl) (λi6=>?_)
 refine .tO 7 rfl (.bO rfl)<|.tO 8 rfl .move<|.tO 9 rfl .move ?_
 refine RA.au 10 rfl (w) E a3 rfl rfl rfl (by kernel_rfl) (λi7=>?_)
 refine .tO 11 rfl (.bO rfl) ?_
 refine RA.au 12 rfl (w) E a3 rfl rfl rfl (by kernel_rfl) (λi8=>?_)
 refine .sT 13 rfl ?_
 refine .dq (w) E a3 y8 (λb4 G=>?_)
 refine .nil (Next.mod rfl ?_)
 refine RA.au 14 rfl (D) E a4 rfl rfl rfl (by kernel_rfl) (λj0=>?_)
 refine .sT 15 rfl ?_
 obtain⟨zz,H⟩:∃u,(ys.set (w) y8)[D]? =some u:=⟨_,aC (by rw[ac2];exact(ac1.1 a4).1)⟩
 refine .dq (D) G H x8 (λN B=>?_)
 rw[<-bS a3 a4]at B
 refine .nil (Next.mod rfl ?_)
 refine RA.nil (by kernel_rfl) ?_
 refine aD<|.sr<|.mo rfl ?_
 refine .ia (w+1) .add ?_
 refine .az rfl<|.region<|.mo rfl ?_
 refine .ia (D-1) .sub ?_
 refine .ag rfl<|.nil<|bi ?_
 ·exact aN (w+1,D-1,bn ys w D,N) ⟨B,a1.step (by omega) (by omega) (by omega) (by omega) (by omega),e9.2⟩ (by simp only;omega) kE.c.c.c.c rH
 intro x d
 obtain⟨i9,U,zs,T9⟩:=x
 obtain⟨W,c2,Z,c7⟩:=d
 simp only at W c2 Z c7⊢
 have g7:=c2.length
 have f9:=Z.ij
 have f5:=Z.i0
 have g2:=Z.jb
 have c0:=Z.at_
 obtain⟨y9,c1⟩:∃x,zs[U]? =some x:=⟨_,aC (by omega)⟩
 refine aD<|.seq<|.bF [13,15] mixed ?_
 refine .tO 0 rfl .move<|.tO 1 rfl .move<|.tK 2 rfl .move<|.tK 3 rfl .move<|.tO 4 rfl .move<|.tO 5 rfl .move ?_
 refine RA.au 6 rfl (a) W c0 rfl rfl rfl (by kernel_rfl) (λj1=>?_)
 refine .tO 7 rfl (.bO rfl)<|.tO 8 rfl .move<|.tO 9 rfl .move ?_
 refine RA.au 10 rfl (U) W c1 rfl rfl rfl (by kernel_rfl) (λj4=>?_)
 refine .tO 11 rfl (.bO rfl) ?_
 refine RA.au 12 rfl (U) W c1 rfl rfl rfl (by kernel_rfl) (λj5=>?_)
 refine .sT 13 rfl ?_
 refine .dq (U) W c1 p (λb4 G=>?_)
 refine .nil (Next.mod rfl ?_)
 refine RA.au 14 rfl (a) W c0 rfl rfl rfl (by kernel_rfl) (λj6=>?_)
 refine .sT 15 rfl ?_
 obtain⟨zz,H⟩:∃u,(zs.set (U) p)[a]? =some u:=⟨_,aC (by rw[ac2];exact(ac1.1 c0).1)⟩
 refine .dq (a) G H y9 (λN B=>?_)
 rw[<-bS c1 c0]at B
 refine .nil (Next.mod rfl ?_)
 refine RA.nil (by kernel_rfl) ?_
 refine aD<|.sr<|.mo rfl<|.ag rfl<|.az rfl ?_
 refine .ret (aZ _ (.two (.tmp rfl) (.tmp rfl)) rH ?_)
 ·exact⟨_,rfl,bn zs U a,U,false,rfl,B,c2.step (by omega) (by omega) (by omega) (by omega) (by omega),Z.fin c7 (by omega)⟩
end
end SST
namespace SST
section
variable{c:ByteArray->ByteArray->Int}{ok:ByteArray->Prop}
def fD(c:ByteArray->ByteArray->Int)(ok:ByteArray->Prop)(n:Nat):Prop:=∀(v:Value) (xs:List ByteArray) (T:ay) (a b lim:Nat) (R:aA),OS 9 1 bU v xs T->a<=b->b<=xs.length->xs.length<=1000000000->lim<=1000000000->fA c ok R->(∀x∈xs,ok x)->LB (ap c) xs a b->b-a<n->
  Spec prog 272 [v,.int .i64 a,.int .i64 b,.int .i64 lim] R [T] λu H'=>∃T',H'=[T']/\u=.tuple #[]/\∃ys,OS 9 1 bU v ys T'/\RP a b xs ys/\SR (ap c) ys a b
theorem iS(n:Nat)(ih:fD c ok n)(C:SO (ap c))(v:Value)(xs:List ByteArray)(T:ay)(G E c7:Nat)(R:aA)(h:OS 9 1 bU v xs T)(d6:G<=E)(hb:E<=xs.length)(hl:xs.length<=1000000000)(e0:c7<=1000000000)(N:fA c ok R)(e2:∀x∈xs,ok x)(d8:LB (ap c) xs G E)(hn:E-G<n+1):
  Spec prog 272 [v,.int .i64 G,.int .i64 E,.int .i64 c7] R [T] λu H'=>∃T',H'=[T']/\u=.tuple #[]/\∃ys,OS 9 1 bU v ys T'/\RP G E xs ys/\SR (ap c) ys G E:=by
 have iv:=h.aL
 refine Spec.body func272 rfl results272 ntmps272 rfl ?_
 refine .sr<|.ag rfl<|.z<|.az rfl<|.block ?_
 refine .loop (X:=Nat×Nat×Nat×Bool×Bool×List ByteArray×ay) (λy=>(G<=y.1/\y.1<=y.2.1/\y.2.1<=E/\y.2.2.1<=1000000000)/\OS 9 1 bU v y.2.2.2.2.2.1 y.2.2.2.2.2.2/\RP G E xs y.2.2.2.2.2.1/\OX (ap c) y.2.2.2.2.2.1 G E y.1 y.2.1) (λy=>[(0,v),(1,iN y.1),(2,iN y.2.1),(3,iN y.2.2.1),(8,.bool y.2.2.2.1),(9,.bool y.2.2.2.2.1)]) (λy=>[y.2.2.2.2.2.2]) (λy=>y.2.1-y.1) (G,E,c7,true,true,xs,T) ⟨⟨ac0 _,d6,ac0 _,e0⟩,h,.refl _,.start⟩ kE.c.c.c.c.c.c rH ?_
 rintro⟨a,b,l,wb,wp,ys,T1⟩ ⟨⟨e,c1,f,d7⟩,b1,S,Y⟩
 simp only at e c1 f d7 b1 S Y⊢
 have e8:=S.length
 have b8:∀x∈ys,ok x:=λx V=>e2 x (S.perm.mem_iff.1 V)
 have d1:=Y.lb (d8.rp S) e f
 refine .block<|.sr<|.mo rfl<|.mo rfl ?_
 refine .ia (b-a) .sub ?_
 refine .ag rfl<|.zs<|.sr<|.mo rfl<|.q .leq<|.zn ?_
 refine .cond rfl (λh1=>?_) λh1=>?_
 refine .sr<|.mo rfl<|.mo rfl<|.mo rfl ?_
 refine .bb (iJ v ys T1 a b _ b1 c1 (by omega) (by omega) N b8 C) (λu Z i=>?_)
 obtain⟨rfl,M,H,A,c0⟩:=i
 refine .zn ?_
 refine .ret (aT (bg (cc (bg (aZ _ .none rH ?_)))))
 ·first
   |exact⟨_,rfl,rfl,M,H,S.trans (A.mono e f (by omega)),(Y.rp A e f).cZ c0⟩
   |exact⟨_,rfl,rfl,ms,a2,S.trans ((B.trans W).mono e f (by omega)),(Y.rp (B.trans W) e f).cZ (c4 (by assumption))⟩
 have f2:12<b-a:=by have:=aY h1;omega
 refine .kn<|.seq<|.sr<|.mo rfl<|.q .cA<|.zn ?_
 refine .cond rfl (λh2=>?_) λh2=>?_
 refine .sr<|.mo rfl<|.mo rfl<|.mo rfl ?_
 refine .bb (iI v ys T1 a b _ b1 c1 (by omega) (by omega) N b8 C) (λu Z i=>?_)
 obtain⟨rfl,M,H,A,c0⟩:=i
 refine .zn ?_
 refine .ret (aT (bg (cc (bg (aZ _ .none rH ?_)))))
 ·first
   |exact⟨_,rfl,rfl,M,H,S.trans (A.mono e f (by omega)),(Y.rp A e f).cZ c0⟩
   |exact⟨_,rfl,rfl,ms,a2,S.trans ((B.trans W).mono e f (by omega)),(Y.rp (B.trans W) e f).cZ (c4 (by assumption))⟩
 have e7:0<l:=by
  have e6:¬((l:Int)=0):=by simpa using h2
  omega
 refine .kn<|.seq ?_
 refine bp.cut (X:=Nat×List ByteArray×ay) (λz=>z.1<=1000000000/\OS 9 1 bU v z.2.1 z.2.2/\RP a b ys z.2.1) (λz=>[(0,v),(1,iN a),(2,iN b),(3,iN z.1),(8,.bool wb),(9,.bool wp),(10,.int .i64 ((b-a:Nat):Int))]) (λz=>[z.2.2]) ?_ ?_
 refine .sr<|.mo rfl<|.q .not<|.zn ?_
 refine .cond rfl (λh3=>?_) λh3=>?_
 refine .sr<|.mo rfl<|.mo rfl<|.mo rfl ?_
 refine .bb (iF v ys T1 a b _ b1 c1 (by omega) (by omega)) (λu Z i=>?_)
 obtain⟨rfl,M,H,A⟩:=i
 refine .zn<|.region<|.mo rfl ?_
 refine .ia (l-1) .sub ?_
 refine .ag rfl<|.nil ?_
 ·first
   |exact ax (l-1,M,Z) ⟨by simp only;omega,H,A⟩ kE.c.c.c.c.c.c.c rH
   |exact ax (l,ys,T1) ⟨by simp only;omega,b1,.refl _⟩ kE.c.c.c.c.c.c.c rH
 refine .skip ?_
 ·first
   |exact ax (l-1,M,Z) ⟨by simp only;omega,H,A⟩ kE.c.c.c.c.c.c.c rH
   |exact ax (l,ys,T1) ⟨by simp only;omega,b1,.refl _⟩ kE.c.c.c.c.c.c.c rH
 intro y hy
 obtain⟨m,M,Z⟩:=y
 obtain⟨r,H,A⟩:=hy
 simp only at r H A⊢
 have e9:=A.length
 have e3:∀x∈M,ok x:=λx V=>b8 x (A.perm.mem_iff.1 V)
 refine aD<|.sr<|.mo rfl<|.mo rfl<|.mo rfl ?_
 refine .bc (choose_spec v M a b _ (H.rs λp hp=>.inr (by simpa using hp)) (by omega) (by omega) (by omega) (N.mono λb o hb=>.inl hb) e3) (λu i=>?_)
 obtain⟨pv,d0,rfl,d2,d3⟩:=i
 refine .mo rfl<|.q .extract<|.q .extract<|.ag rfl<|.ag rfl<|.zs ?_
 refine bp.cut (X:=Nat×Int×List ByteArray×ay) (λz=>(a<=z.1/\z.1<b)/\OS 9 1 bU v z.2.2.1 z.2.2.2/\RP a b ys z.2.2.1) (λz=>[(0,v),(1,iN a),(2,iN b),(3,iN m),(8,.bool wb),(9,.bool wp),(10,.int .i64 ((b-a:Nat):Int)),(11,iN z.1),(12,.int .i64 z.2.1)]) (λz=>[z.2.2.2]) ?_ ?_
 refine .sr<|.mo rfl<|.q .cA<|.zn ?_
 refine .cond rfl (λh4=>?_) λh4=>?_
 refine .sr<|.mo rfl<|.mo rfl<|.mo rfl ?_
 refine .bb (iT v M Z a b _ H (by omega) (by omega) (by omega)) (λu T3 i=>?_)
 obtain⟨rfl,ws,c8,c9⟩:=i
 refine .z<|.mo rfl ?_
 refine .ia (b-1) .sub ?_
 refine .mo rfl<|.mo rfl ?_
 refine .ia (pv-a) .sub ?_
 refine .ia ((b-1)-(pv-a)) .sub ?_
 refine .az rfl<|.region<|.ag rfl<|.nil ?_
 ·first
   |exact ax ((b-1)-(pv-a),1,ws,T3) ⟨by simp only;omega,c8,A.trans c9⟩ kE.c.c.c.c.c.c.c.c.c rH
   |exact ax (pv,d0,M,Z) ⟨⟨d2,d3⟩,H,A⟩ kE.c.c.c.c.c.c.c.c.c rH
 refine .skip ?_
 ·first
   |exact ax ((b-1)-(pv-a),1,ws,T3) ⟨by simp only;omega,c8,A.trans c9⟩ kE.c.c.c.c.c.c.c.c.c rH
   |exact ax (pv,d0,M,Z) ⟨⟨d2,d3⟩,H,A⟩ kE.c.c.c.c.c.c.c.c.c rH
 intro y hy
 obtain⟨q,f3,us,T4⟩:=y
 obtain⟨⟨c2,c3⟩,b2,B⟩:=hy
 simp only at c2 c3 b2 B⊢
 have f0:=B.length
 have e4:∀x∈us,ok x:=λx V=>b8 x (B.perm.mem_iff.1 V)
 refine aD<|.seq ?_
 refine bp.cut (X:=List ByteArray×ay) (λz=>OS 9 1 bU v z.1 z.2/\RP a b ys z.1) (λz=>[(0,v),(1,iN a),(2,iN b),(3,iN m),(8,.bool wb),(9,.bool wp),(10,.int .i64 ((b-a:Nat):Int)),(11,iN q)]) (λz=>[z.2]) ?_ ?_
 refine .sr<|.mo rfl<|.mo rfl ?_
 refine .split (t:=62) rfl (λb5=>?_) (λb5=>?_)
 refine .gT b5<|.mo rfl<|.q (.bu b5) ?_
 refine .mo rfl ?_
 refine .split (t:=65) rfl (λa1=>?_) (λa1=>?_)
 refine .gT a1<|.mo rfl<|.gT a1<|.q .cA<|.q (.bu a1) ?_
 refine .zn ?_
 refine .cond rfl (λh5=>?_) λh5=>?_
 refine .sr<|.mo rfl<|.mo rfl<|.mo rfl ?_
 refine .bb (iQ v us T4 a b _ b2 (by omega) (by omega) (by omega) N e4 C (d1.rp B)) (λu T5 i=>?_)
 obtain⟨ms,mb,rfl,a2,W,c4⟩:=i
 refine .zn ?_
 refine .cond rfl (λh6=>?_) λh6=>?_
 refine .ret (kZ (aT (bg (cc (bg (aZ _ .none rH ?_))))))
 ·first
   |exact⟨_,rfl,rfl,M,H,S.trans (A.mono e f (by omega)),(Y.rp A e f).cZ c0⟩
   |exact⟨_,rfl,rfl,ms,a2,S.trans ((B.trans W).mono e f (by omega)),(Y.rp (B.trans W) e f).cZ (c4 (by assumption))⟩
 refine .skip ?_
 ·first
   |exact ax (ms,T5) ⟨a2,B.trans W⟩ kE.c.c.c.c.c.c.c.c rH
   |exact ax (us,T4) ⟨b2,B⟩ kE.c.c.c.c.c.c.c.c rH
 refine .skip ?_
 ·first
   |exact ax (ms,T5) ⟨a2,B.trans W⟩ kE.c.c.c.c.c.c.c.c rH
   |exact ax (us,T4) ⟨b2,B⟩ kE.c.c.c.c.c.c.c.c rH
 refine .gF a1<|.gF a1<|.q (.bq a1) ?_
 refine .zn<|.bB<|.skip ?_
 ·first
   |exact ax (ms,T5) ⟨a2,B.trans W⟩ kE.c.c.c.c.c.c.c.c rH
   |exact ax (us,T4) ⟨b2,B⟩ kE.c.c.c.c.c.c.c.c rH
 refine .gF b5<|.q (.bq b5) ?_
 refine .mo rfl<|.gX<|.gX<|.q .dv<|.zn<|.bB<|.skip ?_
 ·first
   |exact ax (ms,T5) ⟨a2,B.trans W⟩ kE.c.c.c.c.c.c.c.c rH
   |exact ax (us,T4) ⟨b2,B⟩ kE.c.c.c.c.c.c.c.c rH
 intro y hy
 obtain⟨a9,T6⟩:=y
 obtain⟨b3,b4⟩:=hy
 simp only at b3 b4⊢
 have f1:=b4.length
 have a8:∀x∈a9,ok x:=λx V=>b8 x (b4.perm.mem_iff.1 V)
 have a3:RP G E xs a9:=S.trans (b4.mono e f (by omega))
 have a5:=Y.rp b4 e f
 have c5:=d1.rp b4
 obtain⟨p,hp⟩:∃x,a9[q]? =some x:=⟨_,aC (by omega)⟩
 have f4:=a8 p (aF hp)
 refine aD<|.seq<|.seq ?_
 refine .bQ 12 mixed (by kernel_rfl) ?_
 conv=>arg 6;dsimp only[List.take]
 refine .mo rfl<|.q .gtr<|.mo rfl ?_
 refine .split (t:=75) rfl (λj=>?_) (λj=>?_)
 have d5:0<a:=by have:=bo j;omega
 obtain⟨w,hw⟩:∃x,a9[a-1]? =some x:=⟨_,aC (by omega)⟩
 have f5:=a8 w (aF hw)
 refine .gT j<|.mo rfl<|.gT j<|.mo rfl<|.gT j ?_
 refine .ia (a-1) .sub ?_
 refine .gT j ?_
 refine .au (a-1) b3 hw (λf6=>?_)
 refine .gT j<|.lo rfl<|.gT j<|.mo rfl<|.gT j<|.mo rfl<|.gT j ?_
 refine .au q b3 hp (λf7=>?_)
 refine .gT j<|.lo rfl<|.nil<|.gT j ?_
 refine .bc (gB N w p _) (λu i=>?_)
 subst i
 refine .gT j<|.q .not<|.q (.bu j) ?_
 refine .zn ?_
 refine .cond rfl (λh7=>?_) λh7=>?_
 have e1:ap c w p=false:=by
  have d4:(!ap c w p)=true:=h7
  simpa using d4
 refine .sr<|.mo rfl<|.mo rfl<|.mo rfl<|.mo rfl ?_
 refine .bb (iP v a9 T6 a b q p _ b3 (by omega) ⟨c2,c3⟩ hp (by omega) (by omega) N a8 C (c5.lc C d5 hw e1)) (λu O i=>?_)
 obtain⟨D,g,rfl,Q,k,s⟩:=i
 have a7:=s.lo
 have a6:=s.hi
 refine .ag rfl<|.z<|.mo rfl<|.az rfl<|.exit<|aP<|aR ?_
 ·first
   |exact aN (g+1,b,m,_,_,L,F) ⟨⟨by simp only;omega,by simp only;omega,by simp only;omega,r⟩,I,J,K⟩ (by simp only;omega) ((((((kE.d rfl).d rfl).d rfl).d rfl).d rfl).d rfl) rH
   |exact aN (a,g,m,_,_,L,F) ⟨⟨e,a7,by simp only;omega,r⟩,I,J,K⟩ (by simp only;omega) ((((((kE.d rfl).d rfl).d rfl).d rfl).d rfl).d rfl) rH
   |exact aN (g,b,m,_,_,D,O) ⟨⟨by simp only;omega,a6,f,r⟩,Q,a3.trans (k.mono e f (by omega)),(a5.rp k e f).eqs C s⟩ (by simp only;omega) ((((((kE.d rfl).d rfl).d rfl).d rfl).d rfl).d rfl) rH
 refine .kn<|.sr<|.mo rfl<|.mo rfl<|.mo rfl<|.mo rfl ?_
 refine .bb (fJ v a9 T6 a b q p _ b3 (by omega) ⟨c2,c3⟩ hp (by omega) (by omega) N a8 C) (λu O i=>?_)
 obtain⟨D,g,e5,rfl,Q,k,s⟩:=i
 have a7:=s.lo
 have a6:=s.hi
 have d9:=k.length
 have b9:∀x∈D,ok x:=λx V=>a8 x (k.perm.mem_iff.1 V)
 have b7:=a5.rp k e f
 have b6:RP G E xs D:=a3.trans (k.mono e f (by omega))
 have c6:=c5.rp k
 refine .mo rfl<|.q .extract<|.q .extract<|.ag rfl<|.ag rfl<|.z<|.mo rfl<|.ag rfl<|.z<|.mo rfl<|.mo rfl ?_
 refine .ia (g-a) .sub ?_
 refine .mo rfl<|.mo rfl ?_
 refine .ia (b-g) .sub ?_
 refine .ag rfl<|.ag rfl<|.z<|.mo rfl ?_
 refine .q (.i64 (((b-a)/8:Nat):Int) .quo ⟨by rw[ac5 (by omega)];omega,by omega,by omega⟩) ?_
 refine .ag rfl<|.z<|.mo rfl<|.mo rfl<|.q .lss<|.zn ?_
 refine .cond rfl (λh8=>?_) λh8=>?_
 refine .sr<|.mo rfl<|.mo rfl<|.q .geq<|.ag rfl<|.z<|.mo rfl<|.mo rfl<|.mo rfl<|.mo rfl ?_
 refine .bb (ih v D O a g m _ Q (by omega) (by omega) (by omega) r N b9 (c6.less (by omega)) (by omega)) (λu F i=>?_)
 obtain⟨rfl,L,I,U,a4⟩:=i
 have K:=b7.left C s U a4 e f (by omega)
 have J:=b6.trans (U.mono e (by omega) (by omega))
 refine .zn<|.region<|.mo rfl ?_
 refine .ia (g+1) .add ?_
 refine .ag rfl<|.nil<|bi ?_
 ·first
   |exact aN (g+1,b,m,_,_,L,F) ⟨⟨by simp only;omega,by simp only;omega,by simp only;omega,r⟩,I,J,K⟩ (by simp only;omega) ((((((kE.d rfl).d rfl).d rfl).d rfl).d rfl).d rfl) rH
   |exact aN (a,g,m,_,_,L,F) ⟨⟨e,a7,by simp only;omega,r⟩,I,J,K⟩ (by simp only;omega) ((((((kE.d rfl).d rfl).d rfl).d rfl).d rfl).d rfl) rH
   |exact aN (g,b,m,_,_,D,O) ⟨⟨by simp only;omega,a6,f,r⟩,Q,a3.trans (k.mono e f (by omega)),(a5.rp k e f).eqs C s⟩ (by simp only;omega) ((((((kE.d rfl).d rfl).d rfl).d rfl).d rfl).d rfl) rH
 refine .sr<|.mo rfl<|.mo rfl<|.q .geq<|.ag rfl<|.z<|.mo rfl<|.mo rfl ?_
 refine .ia (g+1) .add ?_
 refine .mo rfl<|.mo rfl ?_
 refine .bb (ih v D O (g+1) b m _ Q (by omega) (by omega) (by omega) r N b9 s.lb (by omega)) (λu F i=>?_)
 obtain⟨rfl,L,I,U,a4⟩:=i
 have K:=b7.right C s U a4 e f (by omega)
 have J:=b6.trans (U.mono (by omega) f (by omega))
 refine .zn<|.region<|.mo rfl<|.ag rfl<|.nil<|bi ?_
 ·first
   |exact aN (g+1,b,m,_,_,L,F) ⟨⟨by simp only;omega,by simp only;omega,by simp only;omega,r⟩,I,J,K⟩ (by simp only;omega) ((((((kE.d rfl).d rfl).d rfl).d rfl).d rfl).d rfl) rH
   |exact aN (a,g,m,_,_,L,F) ⟨⟨e,a7,by simp only;omega,r⟩,I,J,K⟩ (by simp only;omega) ((((((kE.d rfl).d rfl).d rfl).d rfl).d rfl).d rfl) rH
   |exact aN (g,b,m,_,_,D,O) ⟨⟨by simp only;omega,a6,f,r⟩,Q,a3.trans (k.mono e f (by omega)),(a5.rp k e f).eqs C s⟩ (by simp only;omega) ((((((kE.d rfl).d rfl).d rfl).d rfl).d rfl).d rfl) rH
 refine .gF j<|.gF j<|.gF j<|.gF j<|.gF j<|.gF j<|.gF j<|.gF j<|.gF j<|.nil<|.gF j<|.gF j<|.q (.bq j) ?_
 refine .zn<|.bB<|.kn<|.sr<|.mo rfl<|.mo rfl<|.mo rfl<|.mo rfl ?_
 refine .bb (fJ v a9 T6 a b q p _ b3 (by omega) ⟨c2,c3⟩ hp (by omega) (by omega) N a8 C) (λu O i=>?_)
 obtain⟨D,g,e5,rfl,Q,k,s⟩:=i
 have a7:=s.lo
 have a6:=s.hi
 have d9:=k.length
 have b9:∀x∈D,ok x:=λx V=>a8 x (k.perm.mem_iff.1 V)
 have b7:=a5.rp k e f
 have b6:RP G E xs D:=a3.trans (k.mono e f (by omega))
 have c6:=c5.rp k
 refine .mo rfl<|.q .extract<|.q .extract<|.ag rfl<|.ag rfl<|.z<|.mo rfl<|.ag rfl<|.z<|.mo rfl<|.mo rfl ?_
 refine .ia (g-a) .sub ?_
 refine .mo rfl<|.mo rfl ?_
 refine .ia (b-g) .sub ?_
 refine .ag rfl<|.ag rfl<|.z<|.mo rfl ?_
 refine .q (.i64 (((b-a)/8:Nat):Int) .quo ⟨by rw[ac5 (by omega)];omega,by omega,by omega⟩) ?_
 refine .ag rfl<|.z<|.mo rfl<|.mo rfl<|.q .lss<|.zn ?_
 refine .cond rfl (λh8=>?_) λh8=>?_
 refine .sr<|.mo rfl<|.mo rfl<|.q .geq<|.ag rfl<|.z<|.mo rfl<|.mo rfl<|.mo rfl<|.mo rfl ?_
 refine .bb (ih v D O a g m _ Q (by omega) (by omega) (by omega) r N b9 (c6.less (by omega)) (by omega)) (λu F i=>?_)
 obtain⟨rfl,L,I,U,a4⟩:=i
 have K:=b7.left C s U a4 e f (by omega)
 have J:=b6.trans (U.mono e (by omega) (by omega))
 refine .zn<|.region<|.mo rfl ?_
 refine .ia (g+1) .add ?_
 refine .ag rfl<|.nil<|bi ?_
 ·first
   |exact aN (g+1,b,m,_,_,L,F) ⟨⟨by simp only;omega,by simp only;omega,by simp only;omega,r⟩,I,J,K⟩ (by simp only;omega) ((((((kE.d rfl).d rfl).d rfl).d rfl).d rfl).d rfl) rH
   |exact aN (a,g,m,_,_,L,F) ⟨⟨e,a7,by simp only;omega,r⟩,I,J,K⟩ (by simp only;omega) ((((((kE.d rfl).d rfl).d rfl).d rfl).d rfl).d rfl) rH
   |exact aN (g,b,m,_,_,D,O) ⟨⟨by simp only;omega,a6,f,r⟩,Q,a3.trans (k.mono e f (by omega)),(a5.rp k e f).eqs C s⟩ (by simp only;omega) ((((((kE.d rfl).d rfl).d rfl).d rfl).d rfl).d rfl) rH
 refine .sr<|.mo rfl<|.mo rfl<|.q .geq<|.ag rfl<|.z<|.mo rfl<|.mo rfl ?_
 refine .ia (g+1) .add ?_
 refine .mo rfl<|.mo rfl ?_
 refine .bb (ih v D O (g+1) b m _ Q (by omega) (by omega) (by omega) r N b9 s.lb (by omega)) (λu F i=>?_)
 obtain⟨rfl,L,I,U,a4⟩:=i
 have K:=b7.right C s U a4 e f (by omega)
 have J:=b6.trans (U.mono (by omega) f (by omega))
 refine .zn<|.region<|.mo rfl<|.ag rfl<|.nil<|bi ?_
 ·first
   |exact aN (g+1,b,m,_,_,L,F) ⟨⟨by simp only;omega,by simp only;omega,by simp only;omega,r⟩,I,J,K⟩ (by simp only;omega) ((((((kE.d rfl).d rfl).d rfl).d rfl).d rfl).d rfl) rH
   |exact aN (a,g,m,_,_,L,F) ⟨⟨e,a7,by simp only;omega,r⟩,I,J,K⟩ (by simp only;omega) ((((((kE.d rfl).d rfl).d rfl).d rfl).d rfl).d rfl) rH
   |exact aN (g,b,m,_,_,D,O) ⟨⟨by simp only;omega,a6,f,r⟩,Q,a3.trans (k.mono e f (by omega)),(a5.rp k e f).eqs C s⟩ (by simp only;omega) ((((((kE.d rfl).d rfl).d rfl).d rfl).d rfl).d rfl) rH
theorem iR(p:SO (ap c))(n:Nat):fD c ok n:=by
 induction n with
 |zero=>exact λv e T a b d R _ _ _ _ _ _ _ _ q=>by omega
 |succ n ih=>exact λv e T a b d R f g h i j k l m o=>iS n ih p v e T a b d R f g h i j k l m o
end
end SST
namespace SST
section
variable{c:ByteArray->ByteArray->Int}{ok:ByteArray->Prop}
theorem iW(v:Value)(xs:List ByteArray)(T:ay)(R:aA)(h:OS 9 1 bU v xs T)(j:xs.length<=1000000000)(i:fA c ok R)(k:∀x∈xs,ok x)(l:SO (ap c)):
  Spec prog 184 [v] R [T] λu H'=>∃T',H'=[T']/\u=.tuple #[]/\∃ys,OS 9 1 bU v ys T'/\ys.Perm xs/\SR (ap c) ys 0 ys.length:=by
 have p:=h.aL
 have g:Lib.bitLen xs.length<=1000000000:=by
  have o:=bitLen_le 64 xs.length
  have n:Lib.bitLen xs.length=Lib.bitLenAux 64 xs.length:=rfl
  omega
 refine Spec.body func184 rfl results184 ntmps184 rfl ?_
 refine .sr<|.mo rfl<|.q (.fV h) ?_
 refine .az rfl<|.region<|.mo rfl<|.mo rfl<|.mo rfl ?_
 refine .q (bd.cast (v':=.int .u64 ((xs.length:Nat):Int)) .ez (by rw[gr (by omega) (by omega)])) ?_
 refine .bc (kj xs.length (by omega) _) (λu a=>?_)
 subst a
 refine .bb (iR l (xs.length+1) v xs T 0 xs.length (Lib.bitLen xs.length) _ h (Nat.zero_le _) (ac0 _) j g i k (λd=>absurd d (by omega)) (by omega)) (λu m a=>?_)
 obtain⟨rfl,ys,e,b,f⟩:=a
 refine .nil<|ct _ .none rH ?_
 ·exact⟨_,rfl,rfl,ys,e,b.perm,b.length▸f⟩
end
end SST
set_option linter.unusedSimpArgs false
def fj(a b:bw):Int:=if er a b then-1 else if er b a then 1 else 0
theorem EY:ap fj=ap iY:=by
 funext a b
 unfold ap fj
 by_cases c:er a b=true
 ·rw[ac4 c];unfold er at c;rw[c];rfl
 ·rw[ac3 c]
  unfold er at c
  have d:decide (iY a b<0)=false:=by simpa using c
  rw[d]
  split<;>rfl
theorem FG(a b:bw)(R:aA):Spec prog 239 [.agg a.enc.toArray,.agg b.enc.toArray] R [] λv H'=>v=.int .i64 (fj a b)/\H'=[]:=by
 refine Spec.body func239 rfl results239 ntmps239 rfl ?_
 refine .sr ?_
 refine .cJ rfl (λf=>?_)
 refine .cJ rfl (λg=>?_)
 refine .ag rfl<|.zs<|.block<|.sr<|.q (.aE rfl)<|.q (.aE rfl) ?_
 refine .bc (oV a b _) (λv e=>?_)
 subst e
 refine .az rfl ?_
 refine .cond rfl (λc=>?_) λc=>?_
 refine .sr<|.az rfl ?_
 refine .ret (bg (aT (br rfl ?_)))
 ·exact⟨by unfold fj;rw[ac4 c],rfl⟩
 refine .sr<|.q (.aE rfl)<|.q (.aE rfl) ?_
 refine .bc (oV b a _) (λv e=>?_)
 subst e
 refine .az rfl ?_
 refine .cond rfl (λd=>?_) λd=>?_
 refine .sr<|.az rfl ?_
 refine .ret (bg (aT (br rfl ?_)))
 ·exact⟨by unfold fj;rw[ac3 (by rw[c];simp),ac4 d],rfl⟩
 refine .skip<|bi<|aD<|.sr<|.az rfl ?_
 refine .ret (br rfl ?_)
 ·exact⟨by unfold fj;rw[ac3 (by rw[c];simp),ac3 (by rw[d];simp)],rfl⟩
abbrev lQ(ys:List bw):Prop:=ys.Pairwise λp q=>ap iY q p=false
theorem qz{α:Type} [DecidableEq α]{k:α}:∀{l:List α},l.Nodup->k∈l->l.Perm (k::l.filter λk'=>decide (k'≠k))
 |[],_,h=>by cases h
 |x::l,hn,h=>by
  have b:=List.nodup_cons.1 hn
  by_cases a:x=k
  ·subst a
   have:l.filter (λk'=>decide (k'≠x))=l:=List.filter_eq_self.2 λy f=>by
    have:y≠x:=λe=>b.1 (e▸f)
    simp[this]
   rw[ac9]
   simp only[ne_eq,not_true_eq_false,decide_false,Bool.false_eq_true,if_false]
   have c:l.filter (λk'=> !decide (k'=x))=l:=by simpa using this
   simp only[decide_not,c]
   exact .refl _
  ·have d:k∈l:=by
    rcases List.mem_cons.1 h with e|h
    ·exact absurd e.symm a
    ·exact h
   have:=(qz b.2 d).cons x
   rw[ac9,ac4 (by simp[a])]
   exact this.trans (List.Perm.swap k x _)
theorem qB{α:Type}{a b c:α->Bool}:∀L:List α,(∀x∈L,c x=(a x||b x)/\¬(a x=true/\b x=true))->(L.filter c).Perm (L.filter a++L.filter b)
 |[],_=>by simp
 |x::L,h=>by
  obtain⟨e,f⟩:=h x (by simp)
  have d:=qB L λy g=>h y (by simp[g])
  rw[ac9,ac9,ac9,e]
  cases ha:a x<;>cases hb:b x
  ·simpa using d
  ·simpa using(d.cons x).trans List.perm_middle.symm
  ·simpa using d.cons x
  ·exact absurd ⟨ha,hb⟩ f
def rS(S:dr)(f:bw)(r:Int)(ys:List bw):Prop:=ys.Perm (if scan S r then lA S f r else [])/\lQ ys
abbrev strict(ys:List bw):Prop:=ys.Pairwise λp q=>er p q=true
theorem Hc{a b:bw}:ap iY a b=er a b:=rfl
theorem nB{a b:bw}(h:a≠b):er a b=true\/er b a=true:=by
 unfold er
 have d:=gC.sw b a
 have c:iY a b≠0:=λe=>h (sM e)
 rcases Int.lt_or_lt_of_ne c with h4|h4
 ·exact .inl (decide_eq_true h4)
 ·exact .inr (decide_eq_true (by omega))
theorem sI{a b:bw}(h:er a b=true):er b a=false:=by
 unfold er at *
 have c:=gC.sw b a
 have h:=bo h
 exact decide_eq_false (by omega)
theorem oW(a:bw):er a a=false:=by
 unfold er
 have:=gC.refl a
 exact decide_eq_false (by omega)
theorem sJ(x y z:bw)(a:er x y=true)(b:er y z=true):er x z=true:=by
 unfold er at *
 exact decide_eq_true (gC.t2 x y z (by have:=bo a;omega) (bo b))
theorem strict.order{ys:List bw}(h:strict ys):lQ ys:=h.imp λ{p q} a=>sI a
theorem strict.of{ys:List bw}(h:lQ ys)(c:ys.Nodup):strict ys:=by
 refine(h.and c).imp λ{p q} ⟨a,b⟩=>?_
 rcases nB b with h3|h3
 ·exact h3
 ·rw[Hc,h3]at a;cases a
theorem FE{xs ys:List bw}(a:ys.Perm xs)(b:lQ xs)(c:lQ ys):ys=xs:=ug gC (λ_ _=>sM) a b c
theorem r9{S:dr}{r:Int}:scan S r=true↔S.cE<=r/\r<=S.head:=by unfold scan;simp
structure jY(S:dr)(cs:List cI)(i:Nat)(W:List bw):Prop where
 pm:W.Perm (lA ⟨(cs.take i).foldl (gq (S.head+1)) S.rows,S.head+1,S.cE⟩ ⟨⟨#[]⟩,⟨#[]⟩,⟨#[]⟩,⟨#[]⟩,⟨#[]⟩,⟨#[]⟩,⟨#[]⟩⟩ (S.head+1))
 st:strict W
theorem Hd(t:bw):oX (⟨⟨#[]⟩,⟨#[]⟩,⟨#[]⟩,⟨#[]⟩,⟨#[]⟩,⟨#[]⟩,⟨#[]⟩⟩:bw) t=true:=by unfold oX;simp
theorem mm{S:dr}{r:Int}:lA S (⟨⟨#[]⟩,⟨#[]⟩,⟨#[]⟩,⟨#[]⟩,⟨#[]⟩,⟨#[]⟩,⟨#[]⟩⟩:bw) r=(S.rows.filter λx=>x.there r).map (·.t):=by
 unfold lA
 congr 1
 exact ade λx _=>by rw[Hd,Bool.and_true]
theorem sH{S:dr}(a:fo S){x:aO}(b:x∈S.rows):x.there S.head=(x.to==0):=by
 obtain⟨_,c,d,e⟩:=a.ok x b
 unfold aO.there
 rw[Bool.eq_iff_iff]
 simp only[ac7,ac8,adb,beq_iff_eq]
 omega
theorem jY.start{S:dr}(b:fo S){cs:List cI}{W:List bw}(h:rS S (⟨⟨#[]⟩,⟨#[]⟩,⟨#[]⟩,⟨#[]⟩,⟨#[]⟩,⟨#[]⟩,⟨#[]⟩⟩:bw) S.head W):jY S cs 0 W:=by
 have d:scan S S.head=true:=r9.2 ⟨b.h1,Int.le_refl _⟩
 have a:=h.1
 rw[ac4 d]at a
 refine⟨a.trans (.of_eq ?_),strict.of h.2 (a.nodup_iff.2 (b.G9 _ _))⟩
 rw[mm,mm,List.take_zero,List.foldl_nil]
 simp only
 congr 1
 refine ade λx c=>?_
 rw[sH b c]
 obtain⟨_,a,e,f⟩:=b.ok x c
 unfold aO.there
 rw[Bool.eq_iff_iff]
 simp only[ac7,ac8,adb,beq_iff_eq]
 omega
theorem jY.next{S:dr}(k:fo S){cs:List cI}(m:lK S cs){i:Nat}{c:cI}(r:cs[i]? =some c){W:List bw}(h:jY S cs i W):jY S cs (i+1) (if c.put then kh er c.t (W.filter λt=>decide (t≠c.t))else W.filter λt=>decide (t≠c.t)):=by
 have s:=k.fold (m.take i)
 have n:cs.take (i+1)=cs.take i++[c]:=by rw[List.take_add_one,r];rfl
 have E:c.t∉(cs.take i).map (·.t):=by
  have u:=(m.take (i+1)).nd
  rw[n,List.map_append,List.nodup_append]at u
  intro l
  exact u.2.2 _ l _ (by simp) rfl
 obtain⟨L,j⟩:∃L,L=(cs.take i).foldl (gq (S.head+1)) S.rows:=⟨_,rfl⟩
 have G:gd L c.t=gd S.rows c.t:=by rw[j];exact sA _ _ E
 have D:c∈cs:=aF r
 have b:=h.pm
 rw[mm]at b
 rw[<-j]at s b
 simp only at b
 have o:(cs.take (i+1)).foldl (gq (S.head+1)) S.rows=gq (S.head+1) L c:=by rw[n,List.foldl_append,j];rfl
 have d:∀x∈L,x.there (S.head+1)=(x.to==0):=λx a=>sH s a
 cases hp:c.put with
 |true=>
  have v:c.t∉W:=by
   intro l
   obtain⟨x,a,H⟩:=List.mem_map.1 (b.mem_iff.1 l)
   obtain⟨w,z⟩:=List.mem_filter.1 a
   rw[d x w]at z
   have p:=m.nN c D hp
   rw[<-G]at p
   exact sy.1 p x w H (by simpa using z)
  have C:(W.filter λt=>decide (t≠c.t))=W:=List.filter_eq_self.2 λt F=>by
   have:t≠c.t:=λe=>v (e▸F)
   simpa using this
  rw[ac4 rfl,C]
  refine⟨?_,qK sJ h.st λy I=>nB λe=>v (e▸I)⟩
  refine od.trans ?_
  rw[mm,o]
  unfold gq
  rw[ac4 hp]
  simp only[List.filter_append,List.map_append]
  refine List.Perm.trans (b.cons c.t) ?_
  have:aO.there ⟨c.t,S.head+1,0⟩ (S.head+1)=true:=by unfold aO.there;simp
  rw[ac9,ac4 this]
  exact(List.perm_append_singleton _ _).symm
 |false=>
  rw[ac3 (by simp)]
  refine⟨?_,h.st.sublist List.filter_sublist⟩
  refine(b.filter _).trans (.of_eq ?_)
  rw[mm,o]
  unfold gq
  rw[ac3 (by simp[hp])]
  simp only
  rw[List.filter_map,List.filter_map,List.map_map,List.filter_filter]
  have A:L.filter ((λx=>x.there (S.head+1))∘aO.close c.t (S.head+1))=L.filter λx=>decide (x.t≠c.t)&&x.there (S.head+1):=ade λx a=>by
   simp only[Function.comp]
   rw[d x a]
   unfold aO.close aO.gS
   by_cases f:x.t=c.t
   ·by_cases q:x.to=0
    ·have B:S.head+1≠0:=by have:=k.h0;have:=k.h1;omega
     simp[f,q,aO.there,B]
    ·have g:=d x a
     simp[f,q,g]
   ·have g:=d x a
    simp[f,g]
  rw[A]
  refine List.map_congr_left λx a=>?_
  simp only[Function.comp]
  unfold aO.close
  split<;>rfl
theorem jY.done{S:dr}(d:fo S){dm no:List bw}{cs:List cI}(e:sc S dm no cs=0){W Z:List bw}(h:jY S cs cs.length W)(a:rS (oS S dm no cs) (⟨⟨#[]⟩,⟨#[]⟩,⟨#[]⟩,⟨#[]⟩,⟨#[]⟩,⟨#[]⟩,⟨#[]⟩⟩:bw) (S.head+1) Z):Z=W:=by
 have g:oS S dm no cs=⟨cs.foldl (gq (S.head+1)) S.rows,S.head+1,S.cE⟩:=by unfold oS;rw[ac4 e]
 rw[g]at a
 have f:scan ⟨cs.foldl (gq (S.head+1)) S.rows,S.head+1,S.cE⟩ (S.head+1)=true:=r9.2 ⟨by have:=d.h1;simp only;omega,Int.le_refl _⟩
 have b:=a.1
 rw[ac4 f]at b
 have c:=h.pm
 rw[List.take_length]at c
 exact FE (b.trans c.symm) h.st.order a.2
end Go.Proofs.YtgppncmdpcefhaaGreatDoor
