/- What the law 'ExpandRight' uses. No condition. -/
import Derived.Test.YtenilfmlfldogaaGreatDoorKExpandRightB
import Derived.Test.YtenilfmlfldogaaGreatDoorKExpandRightF
import Derived.Test.YtenilfmlfldogaaGreatDoorKExpandRightH
import Derived.Test.YtenilfmlfldogaaGreatDoorKExpandRightJ
namespace Go.Proofs.YtenilfmlfldogaaGreatDoor
set_option linter.defProp false
def adY:=@Nat.le_refl
def adZ:=@if_pos
def ad0:=@if_neg
def ad1:=@List.getElem?_eq_some_iff
def ad2:=@List.length_set
def ad3:=@List.filter_cons
def ad4:=@List.filter_append
def ad5:=@Int.tdiv_eq_ediv_of_nonneg
def ad6:=@List.map_append
def ad7:=@decide_eq_true_eq
def ad8:=@Bool.and_eq_true
def ad9:=@Nat.le_trans
def aea:=@List.length_filter_le
def aeb:=@List.length_drop
def aec:=@List.length_map
def aed:=@List.take_length
def aee:=@List.take_add_one
open Tryz
set_option linter.unusedVariables false
set_option maxRecDepth 4000
theorem vW:∀(f x:Nat),x<2^f->x≠0->2^Lib.bitLenAux f x<=2*x/\x<2^Lib.bitLenAux f x
 |0,x,h,h0=>by simp at h;omega
 |f+1,x,h,h0=>by
  unfold Lib.bitLenAux
  rw[ad0 h0]
  by_cases a:x/2=0
  ·have:x=1:=by omega
   subst this
   have:Lib.bitLenAux f (1/2)=0:=by cases f<;>simp[Lib.bitLenAux]
   rw[this];omega
  ·have b:=vW f (x/2) (by rw[Nat.pow_succ]at h;omega) a
   rw[Nat.add_comm,Nat.pow_succ]
   omega
theorem bitLen_le:∀(f x:Nat),Lib.bitLenAux f x<=f
 |0,x=>by simp[Lib.bitLenAux]
 |f+1,x=>by
  unfold Lib.bitLenAux
  split
  ·omega
  ·have:=bitLen_le f (x/2);omega
theorem yi(n:Nat)(h:n<2^63)(R:aw):Spec prog 142 [.int .u64 n] R [] λv H'=>v=.int .i64 (Lib.bitLen n:Nat)/\H'=[]:=by
 have:=Spec.rK (λw=>A8 (n:Int) w (by omega) (by omega)) R
 simpa using this
theorem M8(n:Nat)(b:n≠0)(h:n<=1000000000)(R:aw):Spec prog 200 [.int .i64 n] R [] λv H'=>(∃m:Nat,v=.int .u64 m/\n<m/\m<=2*n)/\H'=[]:=by
 have a:=vW 64 n (by omega) b
 have g:=bitLen_le 64 n
 refine Spec.body func200 rfl results200 ntmps200 rfl ?_
 refine .sr<|.ag rfl<|.z<|.mo rfl ?_
 refine .q (bo.cast (v':=.int .u64 (n:Nat)) .gK (by rw[qm (by omega) (by omega)])) ?_
 refine .aR (yi n (by omega) _) (λv d=>?_)
 subst d
 refine .q (bo.cast (v':=.int .u64 ((2^Lib.bitLen n:Nat):Int)) (.lu) (by
  have e:min ((Lib.bitLen n:Nat):Int).toNat IntKind.u64.bits=Lib.bitLen n:=by
   unfold Lib.bitLen;simp[IntKind.bits];omega
  rw[e,Int.one_mul,qm]
  ·congr 1
  ·exact Int.le_of_lt (Int.pow_pos (by omega))
  ·have f:(2^Lib.bitLen n:Nat)<=2*n:=a.1
   have c:((2:Int)^Lib.bitLen n)=((2^Lib.bitLen n:Nat):Int):=by push_cast;rfl
   rw[c];omega)) ?_
 refine .az rfl ?_
 refine .ret (aM rfl ?_)
 ·exact⟨⟨2^Lib.bitLen n,rfl,a.2,a.1⟩,rfl⟩
theorem Ow(b:Nat)(z:Int)(R:aw):Spec prog 201 [pT b] R [bl b [.int .u64 z] 317] λv H'=>∃T',H'=[T']/\∃z',v=.int .u64 z'/\T'=(bl b [.int .u64 z'] 317):=by
 refine Spec.body func201 rfl results201 ntmps201 rfl ?_
 refine .sr<|.ag rfl<|.zs ?_
 refine .dY 9 mixed (by kernel_rfl) ?_
 conv=>arg 6;dsimp only[List.take]
 refine .mo rfl<|.nc rfl<|.lo rfl<|.mo rfl ?_
 refine .nc rfl<|.lo rfl<|.q .lu<|.q .u5<|.nc rfl<|.nil<|.dH rfl rfl<|.zs ?_
 refine .dY 9 mixed (by kernel_rfl) ?_
 conv=>arg 6;dsimp only[List.take]
 refine .mo rfl<|.nc rfl<|.lo rfl<|.mo rfl ?_
 refine .nc rfl<|.lo rfl<|.q .Pw<|.q .u5<|.nc rfl<|.nil<|.dH rfl rfl<|.zs ?_
 refine .dY 9 mixed (by kernel_rfl) ?_
 conv=>arg 6;dsimp only[List.take]
 refine .mo rfl<|.nc rfl<|.lo rfl<|.mo rfl ?_
 refine .nc rfl<|.lo rfl<|.q .lu<|.q .u5<|.nc rfl<|.nil<|.dH rfl rfl<|.z<|.mo rfl<|.nc rfl<|.lo rfl<|.az rfl ?_
 refine .ret (bu _ (.one (.tmp rfl)) rH ?_)
 ·exact⟨_,rfl,_,rfl,rfl⟩
namespace STP
section
variable{c:aA->aA->Int}{ok:aA->Prop}{f:FuncId}{caps:List Value} [e:aT prog f]
theorem Lt(v:Value)(xs:List aA)(T:aH)(a b:Nat)(R:aw)(h:OS 132 7 aA.enc v xs T)(a2:a<=b)(I:b<=xs.length)(hl:xs.length<=1000000000)(N:iO prog f caps R (λt:aA=>Value.agg t.enc.toArray) c ok)(J:∀x∈xs,ok x)(F:SO (bW c)):
  Spec prog 174 [v,.int .i64 a,.int .i64 b,.func (.func f) #[] caps.toArray] R [T] λu H'=>∃T',H'=[T']/\u=.tuple #[]/\∃ys,OS 132 7 aA.enc v ys T'/\RP a b xs ys/\SR (bW c) ys a b:=by
 have iv:=h.aq
 refine Spec.body func174 rfl results174 ntmps174 rfl ?_
 refine .sr<|.mo rfl ?_
 refine .ia (a+1) .add ?_
 refine .az rfl<|.block ?_
 refine .loop (X:=Nat×List aA×aH) (λy=>(a+1<=y.1/\(y.1<=b\/y.1=a+1))/\OS 132 7 aA.enc v y.2.1 y.2.2/\RP a b xs y.2.1/\SR (bW c) y.2.1 a y.1) (λy=>[(0,v),(1,iN a),(2,iN b),(3,.func (.func f) #[] caps.toArray),(8,iN y.1)]) (λy=>[y.2.2]) (λy=>b-y.1) (a+1,xs,T) ⟨⟨by simp only;omega,.inr rfl⟩,h,.refl _,λi j r m H=>by simp only at H;omega⟩ kE.c.c.c.c.c rH ?_
 rintro⟨i,ys,L⟩ ⟨⟨O,Q⟩,C,B,D⟩
 simp only at O Q C B D⊢
 have a5:=B.length
 refine .seq<|.sr<|.mo rfl<|.mo rfl<|.q .lss<|.zn ?_
 refine .cond rfl (λr=>?_) λr=>?_
 have a4:i<b:=by simp at r;omega
 refine .kn<|.seq<|.block<|.sr<|.mo rfl<|.az rfl<|.block ?_
 refine .loop (X:=Nat×List aA×aH) (λy=>(a<=y.1/\y.1<=i)/\OS 132 7 aA.enc v y.2.1 y.2.2/\RP a b xs y.2.1/\mh (bW c) y.2.1 a y.1 (i+1)) (λy=>[(0,v),(1,iN a),(2,iN b),(3,.func (.func f) #[] caps.toArray),(8,iN i),(9,iN y.1)]) (λy=>[y.2.2]) (λy=>y.1) (i,ys,L) ⟨⟨by simp only;omega,adY _⟩,C,B,D.ins⟩ kE.c.c.c.c.c.c rH ?_
 rintro⟨j,s,G⟩ ⟨⟨S,U⟩,e,n,A⟩
 simp only at S U e n A⊢
 have a6:=n.length
 refine .seq<|.seq ?_
 refine .dY 14 mixed (by kernel_rfl) ?_
 conv=>arg 6;dsimp only[List.take]
 refine .mo rfl<|.mo rfl<|.q .gtr<|.mo rfl ?_
 refine .split (t:=21) rfl (λd=>?_) (λd=>?_)
 have E:a<j:=by have:=cq d;omega
 obtain⟨x,g⟩:∃x,s[j]? =some x:=⟨_,bE (by omega)⟩
 obtain⟨y,l⟩:∃x,s[j-1]? =some x:=⟨_,bE (by omega)⟩
 have Z:=J x (n.perm.mem_iff.1 (aV g))
 have a0:=J y (n.perm.mem_iff.1 (aV l))
 refine .gT d<|.mo rfl<|.gT d<|.mo rfl<|.gT d<|.mo rfl<|.gT d ?_
 refine .bH j e g (λa7=>?_)
 refine .gT d<|.q (.aP rfl)<|.gT d<|.mo rfl<|.gT d<|.mo rfl<|.gT d ?_
 refine .ia (j-1) .sub ?_
 refine .gT d ?_
 refine .bH (j-1) e l (λa8=>?_)
 refine .gT d<|.q (.aP rfl)<|.nil<|.gT d ?_
 refine .fY (first:=[]) (captured:=caps) (vs:=[(λt:aA=>Value.agg t.enc.toArray) x,(λt:aA=>Value.agg t.enc.toArray) y]) (N x y Z a0 _ (λb o I=>.inl I)) (λu p=>?_)
 subst p
 refine .gT d<|.q .lss<|.q (.aZ d) ?_
 refine .zn ?_
 refine .cond rfl (λm=>?_) λm=>?_
 refine .kn<|.seq<|.block<|.dg [15,17] mixed ?_
 refine .tO 0 rfl .move<|.tO 1 rfl .move<|.tK 2 rfl .move<|.tK 3 rfl .move ?_
 refine .take 4 rfl (.i64 ((j-1:Nat):Int) .sub ⟨by omega,by omega,by omega⟩) (by kernel_rfl) ?_
 refine .tO 5 rfl .move<|.tO 6 rfl .move ?_
 refine .hZ 7 rfl (.i64 ((j-1:Nat):Int) .sub ⟨by omega,by omega,by omega⟩) (by kernel_rfl) ?_
 refine RA.bH 8 rfl (j-1) e l rfl rfl rfl (by kernel_rfl) (λa9=>?_)
 refine .tO 9 rfl (.aP rfl)<|.tO 10 rfl .move<|.tO 11 rfl .move ?_
 refine RA.bH 12 rfl (j) e g rfl rfl rfl (by kernel_rfl) (λb0=>?_)
 refine .tO 13 rfl (.aP rfl) ?_
 refine RA.bH 14 rfl (j) e g rfl rfl rfl (by kernel_rfl) (λb1=>?_)
 refine .sT 15 rfl ?_
 refine .eG (j) e g y (λa1 W=>?_) (e.one _ (aV l))
 refine .nil (Next.mod rfl ?_)
 refine RA.bH 16 rfl (j-1) e l rfl rfl rfl (by kernel_rfl) (λb2=>?_)
 refine .sT 17 rfl ?_
 obtain⟨zz,Y⟩:∃u,(s.set (j) y)[j-1]? =some u:=⟨_,bE (by rw[ad2];exact(ad1.1 l).1)⟩
 refine .eG (j-1) W Y x (λM K=>?_) (e.one _ (aV g))
 rw[<-jr g l]at K
 refine .nil (Next.mod rfl ?_)
 refine RA.nil (by kernel_rfl) ?_
 refine bi<|ay<|.region<|.mo rfl ?_
 refine .ia (j-1) .sub ?_
 refine .ag rfl<|.nil ?_
 ·have V:bW c x y=true:=m
  exact aW (j-1,dS s j (j-1),M) ⟨⟨by simp only;omega,by simp only;omega⟩,K,n.step (by omega) (by omega) (by omega) (by omega) (by omega),A.step F (by omega) (by omega) E g l V⟩ (by simp only;omega) kE.c.c.c.c.c.c rH
 refine .exit<|bz<|bG<|bB<|bi<|ay<|.region<|.mo rfl ?_
 refine .ia (i+1) .add ?_
 refine .ag rfl<|.nil ?_
 ·refine aW (i+1,s,G) ⟨⟨by simp only;omega,.inl (by simp only;omega)⟩,e,n,A.done F (by omega) (by omega) ?_⟩ (by simp only;omega) kE.c.c.c.c.c rH
  first
   |exact .inr ⟨E,λu w p z=>by
     rw[l]at p;rw[g]at z;cases p;cases z;exact m⟩
   |exact .inl (by have:=bC d;omega)
 refine .gF d<|.gF d<|.gF d<|.gF d<|.gF d<|.gF d<|.gF d<|.gF d<|.gF d<|.gF d<|.nil<|.gF d<|.gF d<|.q (.aX d) ?_
 refine .zn<|.bQ<|.exit<|bz<|bG<|bB<|bi<|ay<|.region<|.mo rfl ?_
 refine .ia (i+1) .add ?_
 refine .ag rfl<|.nil ?_
 ·refine aW (i+1,s,G) ⟨⟨by simp only;omega,.inl (by simp only;omega)⟩,e,n,A.done F (by omega) (by omega) ?_⟩ (by simp only;omega) kE.c.c.c.c.c rH
  first
   |exact .inr ⟨E,λu w p z=>by
     rw[l]at p;rw[g]at z;cases p;cases z;exact m⟩
   |exact .inl (by have:=bC d;omega)
 refine .exit<|bz<|bG<|bB<|gg _ .none rH ?_
 ·have a3:b<=i:=by simp at r;omega
  exact⟨_,rfl,rfl,ys,C,B,λj k r m H=>D j k r m (by omega)⟩
theorem zV(v:Value)(xs:List aA)(T:aH)(lo k d:Nat)(R:aw)(h:OS 132 7 aA.enc v xs T)(b1:lo<=k)(V:d+k<=xs.length)(hl:xs.length<=1000000000)(hf:iO prog f caps R (λt:aA=>Value.agg t.enc.toArray) c ok)(a3:∀x∈xs,ok x)(J:SO (bW c)):
    Spec prog 199 [v,.int .i64 lo,.int .i64 k,.int .i64 d,.func (.func f) #[] caps.toArray] R [T] λu H'=>∃T',H'=[T']/\u=.tuple #[]/\∃ys,OS 132 7 aA.enc v ys T'/\RP d (d+k) xs ys/\
      (lC (λx y=>bW c y x) (xs.drop d) k lo lo->kW (λx y=>bW c y x) (ys.drop d) k lo):=by
  have iv:=h.aq
  have a4:=J.rev
  refine Spec.body func199 rfl results199 ntmps199 rfl ?_
  refine .sr<|.mo rfl<|.az rfl<|.block ?_
  refine .loop (X:=Nat×List aA×aH) (λy=>(lo<=y.1/\y.1<=k)/\OS 132 7 aA.enc v y.2.1 y.2.2/\RP d (d+k) xs y.2.1/\(lC (λx y=>bW c y x) (xs.drop d) k lo lo->lC (λx y=>bW c y x) (y.2.1.drop d) k lo y.1)) (λy=>[(0,v),(2,iN k),(3,iN d),(4,.func (.func f) #[] caps.toArray),(10,iN y.1)]) (λy=>[y.2.2]) (λy=>k-y.1) (lo,xs,T) ⟨⟨adY _,b1⟩,h,.refl _,λh=>h⟩ kE.c.c.c.c.c rH ?_
  rintro⟨r,ys,T1⟩ ⟨⟨a6,b3⟩,m,D,U⟩
  simp only at a6 b3 m D U⊢
  have c1:=D.length
  have c0:(ys.drop d).length=ys.length-d:=aeb
  refine .block<|.sr<|.mo rfl ?_
  refine .ia (2*r) .mul ?_
  refine .ia (2*r+1) .add ?_
  refine .ag rfl<|.zs<|.sr<|.mo rfl<|.mo rfl<|.q .geq<|.zn ?_
  refine .cond rfl (λN=>?_) λN=>?_
  have b8:k<=2*r+1:=by have:=cq N;omega
  refine .exit (bz (o9 (bG (bB ?_))))
  refine gg _ .none rH ?_
  ·refine⟨_,rfl,rfl,ys,m,D,λQ=>(U Q).stop λa C E l u w g S=>?_⟩
   first
     |(simp only[dl]at l;omega)
     |(rw[ld]at g S
       rw[s]at g;cases g
       have O:(!bW c G x)=true:=L
       exact a4.lV _ _ _ (W a w C E l S) (by simpa using O))
  have M:2*r+1<k:=by have:=bC N;omega
  obtain⟨G,s⟩:∃y,ys[d+r]? =some y:=⟨_,bE (by omega)⟩
  obtain⟨p,n⟩:∃y,ys[d+(2*r+1)]? =some y:=⟨_,bE (by omega)⟩
  have b6:=a3 G (D.perm.mem_iff.1 (aV s))
  have I:=a3 p (D.perm.mem_iff.1 (aV n))
  refine .kn<|.seq ?_
  refine bF.cut (X:=Nat×aA) (λz=>0<z.1/\z.1<k/\dl z.1=r/\ys[d+z.1]? =some z.2/\ok z.2/\∀a u,0<a->a<k->dl a=r->ys[d+a]? =some u->bW c z.2 u=false) (λz=>[(0,v),(2,iN k),(3,iN d),(4,.func (.func f) #[] caps.toArray),(10,iN r),(11,iN z.1)]) (λz=>[T1]) ?_ ?_
  refine .seq ?_
  refine .dY 19 mixed (by kernel_rfl) ?_
  conv=>arg 6;dsimp only[List.take]
  refine .mo rfl ?_
  refine .ia (2*r+2) .add ?_
  refine .mo rfl<|.q .lss<|.mo rfl ?_
  refine .split (t:=23) rfl (λe=>?_) (λe=>?_)
  have a1:2*r+2<k:=by have:=cq e;omega
  obtain⟨K,B⟩:∃y,ys[d+(2*r+2)]? =some y:=⟨_,bE (by omega)⟩
  have Y:=a3 K (D.perm.mem_iff.1 (aV B))
  refine .gT e<|.mo rfl<|.gT e<|.mo rfl<|.gT e<|.mo rfl<|.gT e<|.mo rfl<|.gT e ?_
  refine .ia (d+(2*r+1)) .add ?_
  refine .gT e ?_
  refine .bH (d+(2*r+1)) m n (λc2=>?_)
  refine .gT e<|.q (.aP rfl)<|.gT e<|.mo rfl<|.gT e<|.mo rfl<|.gT e<|.mo rfl<|.gT e ?_
  refine .ia (d+(2*r+1)) .add ?_
  refine .gT e ?_
  refine .ia (d+(2*r+2)) .add ?_
  refine .gT e ?_
  refine .bH (d+(2*r+2)) m B (λc3=>?_)
  refine .gT e<|.q (.aP rfl)<|.nil<|.gT e ?_
  refine .fY (first:=[]) (captured:=caps) (vs:=[(λt:aA=>Value.agg t.enc.toArray) p,(λt:aA=>Value.agg t.enc.toArray) K]) (hf p K I Y _ (λb o V=>.inl V)) (λu g=>?_)
  subst g
  refine .gT e<|.q .lss<|.q (.aZ e) ?_
  refine .zn ?_
  refine .cond rfl (λH=>?_) λH=>?_
  have a2:∀a u,0<a->a<k->dl a=r->ys[d+a]? =some u->bW c K u=false:=λa u C E l g=>by
    have:a=2*r+1\/a=2*r+2:=by simp only[dl]at l;omega
    rcases this with rfl|rfl
    ·rw[n]at g;cases g;exact J.qG H
    ·rw[B]at g;cases g;exact J.lN _
  refine .region<|.mo rfl ?_
  refine .ia (2*r+2) .add ?_
  refine .ag rfl<|.nil ?_
  ·first
      |exact aG (2*r+2,K) ⟨by simp only;omega,a1,by simp only[dl];omega,B,Y,a2⟩ kE.c.c.c.c.c.c rH
      |exact aG (2*r+1,p) ⟨by simp only;omega,M,by simp only[dl];omega,n,I,A⟩ kE.c.c.c.c.c.c rH
      |(have A:∀a u,0<a->a<k->dl a=r->ys[d+a]? =some u->bW c p u=false:=λa u C E l g=>by
           have:a=2*r+1\/a=2*r+2:=by simp only[dl]at l;omega
           rcases this with rfl|rfl
           ·rw[n]at g;cases g;exact J.lN _
           ·rw[B]at g;cases g;exact H
        exact aG (2*r+1,p) ⟨by simp only;omega,M,by simp only[dl];omega,n,I,A⟩ kE.c.c.c.c.c.c rH)
  refine .skip ?_
  ·first
      |exact aG (2*r+2,K) ⟨by simp only;omega,a1,by simp only[dl];omega,B,Y,a2⟩ kE.c.c.c.c.c.c rH
      |exact aG (2*r+1,p) ⟨by simp only;omega,M,by simp only[dl];omega,n,I,A⟩ kE.c.c.c.c.c.c rH
      |(have A:∀a u,0<a->a<k->dl a=r->ys[d+a]? =some u->bW c p u=false:=λa u C E l g=>by
           have:a=2*r+1\/a=2*r+2:=by simp only[dl]at l;omega
           rcases this with rfl|rfl
           ·rw[n]at g;cases g;exact J.lN _
           ·rw[B]at g;cases g;exact H
        exact aG (2*r+1,p) ⟨by simp only;omega,M,by simp only[dl];omega,n,I,A⟩ kE.c.c.c.c.c.c rH)
  have A:∀a u,0<a->a<k->dl a=r->ys[d+a]? =some u->bW c p u=false:=λa u C E l g=>by
    have:a=2*r+1:=by have:=bC e;simp only[dl]at l;omega
    subst this
    rw[n]at g;cases g;exact J.lN _
  refine .gF e<|.gF e<|.gF e<|.gF e<|.gF e<|.gF e<|.gF e<|.gF e<|.gF e<|.gF e<|.gF e<|.gF e<|.gF e<|.gF e<|.nil<|.gF e<|.gF e<|.q (.aX e) ?_
  refine .zn<|.bQ<|.skip ?_
  ·first
      |exact aG (2*r+2,K) ⟨by simp only;omega,a1,by simp only[dl];omega,B,Y,a2⟩ kE.c.c.c.c.c.c rH
      |exact aG (2*r+1,p) ⟨by simp only;omega,M,by simp only[dl];omega,n,I,A⟩ kE.c.c.c.c.c.c rH
      |(have A:∀a u,0<a->a<k->dl a=r->ys[d+a]? =some u->bW c p u=false:=λa u C E l g=>by
           have:a=2*r+1\/a=2*r+2:=by simp only[dl]at l;omega
           rcases this with rfl|rfl
           ·rw[n]at g;cases g;exact J.lN _
           ·rw[B]at g;cases g;exact H
        exact aG (2*r+1,p) ⟨by simp only;omega,M,by simp only[dl];omega,n,I,A⟩ kE.c.c.c.c.c.c rH)
  intro y hy
  obtain⟨j,x⟩:=y
  obtain⟨Z,a5,a0,F,a8,W⟩:=hy
  simp only at Z a5 a0 F a8 W⊢
  have b9:r<j:=a0▸jH Z
  refine ay<|.seq<|.seq ?_
  refine .dY 13 mixed (by kernel_rfl) ?_
  conv=>arg 6;dsimp only[List.take]
  refine .mo rfl<|.mo rfl<|.mo rfl<|.mo rfl ?_
  refine .ia (d+r) .add ?_
  refine .bH (d+r) m s (λc4=>?_)
  refine .q (.aP rfl)<|.mo rfl<|.mo rfl<|.mo rfl ?_
  refine .ia (d+j) .add ?_
  refine .bH (d+j) m F (λc5=>?_)
  refine .q (.aP rfl)<|.nil ?_
  refine .fY (first:=[]) (captured:=caps) (vs:=[(λt:aA=>Value.agg t.enc.toArray) G,(λt:aA=>Value.agg t.enc.toArray) x]) (hf G x b6 a8 _ (λb o V=>.inl V)) (λu g=>?_)
  subst g
  refine .q .lss<|.q .not<|.zn ?_
  refine .cond rfl (λL=>?_) λL=>?_
  refine .ret (aI (bf (cK (bf (bu _ .none rH ?_)))))
  ·refine⟨_,rfl,rfl,ys,m,D,λQ=>(U Q).stop λa C E l u w g S=>?_⟩
   first
     |(simp only[dl]at l;omega)
     |(rw[ld]at g S
       rw[s]at g;cases g
       have O:(!bW c G x)=true:=L
       exact a4.lV _ _ _ (W a w C E l S) (by simpa using O))
  refine .kn<|.seq<|.dg [21,23] mixed ?_
  refine .tO 0 rfl .move<|.tO 1 rfl .move<|.tO 2 rfl .move ?_
  refine .hZ 3 rfl (.i64 ((d+r:Nat):Int) .add ⟨by omega,by omega,by omega⟩) (by kernel_rfl) ?_
  refine .tK 4 rfl .move<|.tK 5 rfl .move<|.tK 6 rfl .move ?_
  refine .take 7 rfl (.i64 ((d+j:Nat):Int) .add ⟨by omega,by omega,by omega⟩) (by kernel_rfl) ?_
  refine .tO 8 rfl .move<|.tO 9 rfl .move<|.tO 10 rfl .move ?_
  refine .hZ 11 rfl (.i64 ((d+j:Nat):Int) .add ⟨by omega,by omega,by omega⟩) (by kernel_rfl) ?_
  refine RA.bH 12 rfl (d+j) m F rfl rfl rfl (by kernel_rfl) (λc6=>?_)
  refine .tO 13 rfl (.aP rfl)<|.tO 14 rfl .move<|.tO 15 rfl .move<|.tO 16 rfl .move ?_
  refine .hZ 17 rfl (.i64 ((d+r:Nat):Int) .add ⟨by omega,by omega,by omega⟩) (by kernel_rfl) ?_
  refine RA.bH 18 rfl (d+r) m s rfl rfl rfl (by kernel_rfl) (λc7=>?_)
  refine .tO 19 rfl (.aP rfl) ?_
  refine RA.bH 20 rfl (d+r) m s rfl rfl rfl (by kernel_rfl) (λc8=>?_)
  refine .sT 21 rfl ?_
  refine .eG (d+r) m s x (λb7 b4=>?_) (m.one _ (aV F))
  refine .nil (Next.mod rfl ?_)
  refine RA.bH 22 rfl (d+j) m F rfl rfl rfl (by kernel_rfl) (λc9=>?_)
  refine .sT 23 rfl ?_
  obtain⟨zz,b5⟩:∃u,(ys.set (d+r) x)[d+j]? =some u:=⟨_,bE (by rw[ad2];exact(ad1.1 F).1)⟩
  refine .eG (d+j) b4 b5 G (λa9 a7=>?_) (m.one _ (aV s))
  rw[<-jr s F]at a7
  refine .nil (Next.mod rfl ?_)
  refine RA.nil (by kernel_rfl) ?_
  refine ay<|.region<|.mo rfl<|.ag rfl<|.nil<|bi ?_
  ·have b2:bW c G x=true:=by
      have O:(!bW c G x)=false:=L
      simpa using O
   have b0:=wG (xs:=ys) (f:=d) (i:=r) (j:=j) (by omega) (by omega)
   exact aW (j,dS ys (d+r) (d+j),a9) ⟨⟨by simp only;omega,by simp only;omega⟩,a7,D.step (by omega) (by omega) (by omega) (by omega) (by omega),λQ=>by
     simp only
     rw[b0]
     exact(U Q).step a4 a6 Z a5 (by omega) a0 (by rw[ld];exact F) (by rw[ld];exact s) b2 λa z N H L h4=>W a z N H L (by rw[<-ld];exact h4)⟩ (by simp only;omega) kE.c.c.c.c.c rH
end
end STP
namespace STP
section
variable{c:aA->aA->Int}{ok:aA->Prop}{f:FuncId}{caps:List Value} [e:aT prog f]
theorem Ln(v:Value)(xs:List aA)(T:aH)(a b:Nat)(R:aw)(h:OS 132 7 aA.enc v xs T)(a8:a<=b)(hb:b<=xs.length)(hl:xs.length<=1000000000)(M:iO prog f caps R (λt:aA=>Value.agg t.enc.toArray) c ok)(N:∀x∈xs,ok x)(G:SO (bW c)):
  Spec prog 175 [v,.int .i64 a,.int .i64 b,.func (.func f) #[] caps.toArray] R [T] λu H'=>∃T',H'=[T']/\u=.tuple #[]/\∃ys,OS 132 7 aA.enc v ys T'/\RP a b xs ys/\SR (bW c) ys a b:=by
 have iv:=h.aq
 have a6:=G.rev
 obtain⟨n,hn⟩:∃n,b=a+n:=⟨b-a,by omega⟩
 subst hn
 refine Spec.body func175 rfl results175 ntmps175 rfl ?_
 refine .sr<|.mo rfl<|.ag rfl<|.z<|.ag rfl<|.z<|.mo rfl<|.mo rfl ?_
 refine .ia (n) .sub ?_
 refine .ag rfl<|.zs<|.sr<|.mo rfl ?_
 refine .q (.i64 ((n:Int)-1) .sub ⟨rfl,by omega,by omega⟩) ?_
 refine .q (.i64 (((n-1)/2:Nat):Int) .quo ⟨P4,by omega,by omega⟩) ?_
 refine .az rfl<|.block ?_
 refine .loop (X:=Nat×Int×List aA×aH) (λy=>(y.2.1=(y.1:Int)-1/\y.1<=n+1)/\OS 132 7 aA.enc v y.2.2.1 y.2.2.2/\RP a (a+n) xs y.2.2.1/\kW (λx y=>bW c y x) (y.2.2.1.drop a) n y.1) (λy=>[(0,v),(3,.func (.func f) #[] caps.toArray),(8,iN a),(9,.int .i64 ((0:Nat):Int)),(10,iN n),(11,.int .i64 y.2.1)]) (λy=>[y.2.2.2]) (λy=>y.1) ((n-1)/2+1,(((n-1)/2:Nat):Int),xs,T) ⟨⟨by simp only;omega,by simp only;omega⟩,h,.refl _,λk V hk hp=>by simp only[dl]at hp;omega⟩ kE.c.c.c.c.c.c rH ?_
 rintro⟨m,z,ys,H⟩ ⟨⟨hz,hm⟩,C,r,B⟩
 simp only at hz hm C r B⊢
 have a9:=r.length
 refine .seq<|.sr<|.mo rfl<|.q .geq<|.zn ?_
 refine .cond rfl (λo=>?_) λo=>?_
 have a3:0<=z:=cq o
 obtain⟨k,rfl⟩:∃k,m=k+1:=⟨m-1,by omega⟩
 obtain rfl:z=(k:Int):=by omega
 refine .kn<|.seq<|.block<|.region<|.mo rfl<|.mo rfl<|.mo rfl<|.mo rfl<|.mo rfl ?_
 refine .cr (zV (c:=c) (ok:=ok) v ys H k n a _ C (by omega) (by omega) (by omega) M (λx e=>N x (r.perm.mem_iff.1 e)) G) (λu I F=>?_)
 obtain⟨rfl,g,d,l,p⟩:=F
 refine .nil<|bi<|ay<|.region<|.mo rfl ?_
 refine .q (.i64 ((k:Int)-1) .sub ⟨rfl,by omega,by omega⟩) ?_
 refine .ag rfl<|.nil ?_
 ·exact aW (k,(k:Int)-1,g,I) ⟨⟨rfl,by simp only;omega⟩,d,r.trans l,p B.hole⟩ (by simp only;omega) kE.c.c.c.c.c.c rH
 have E:m=0:=by have:=bC o;omega
 subst E
 refine .exit<|bz<|bG<|bB<|ay<|.sr<|.mo rfl ?_
 refine .q (.i64 ((n:Int)-1) .sub ⟨rfl,by omega,by omega⟩) ?_
 refine .az rfl<|.block ?_
 refine .loop (X:=Nat×Int×List aA×aH) (λy=>(y.2.1=(y.1:Int)-1/\y.1<=n)/\OS 132 7 aA.enc v y.2.2.1 y.2.2.2/\RP a (a+n) xs y.2.2.1/\kW (λx y=>bW c y x) (y.2.2.1.drop a) y.1 0/\OX (bW c) y.2.2.1 a (a+n) a (a+y.1)) (λy=>[(0,v),(3,.func (.func f) #[] caps.toArray),(8,iN a),(9,.int .i64 ((0:Nat):Int)),(10,iN n),(12,.int .i64 y.2.1)]) (λy=>[y.2.2.2]) (λy=>y.1) (n,(n:Int)-1,ys,H) ⟨⟨rfl,adY _⟩,C,r,B,OX.start⟩ kE.c.c.c.c.c.c rH ?_
 rintro⟨m,Q,g,I⟩ ⟨⟨a4,a1⟩,d,l,p,D⟩
 simp only at a4 a1 d l p D⊢
 have b0:=l.length
 refine .seq<|.sr<|.mo rfl<|.q .geq<|.zn ?_
 refine .cond rfl (λA=>?_) λA=>?_
 have a3:0<=Q:=cq A
 obtain⟨k,rfl⟩:∃k,m=k+1:=⟨m-1,by omega⟩
 obtain rfl:Q=(k:Int):=by omega
 obtain⟨x,e⟩:∃x,g[a]? =some x:=⟨_,bE (by omega)⟩
 obtain⟨y,s⟩:∃x,g[a+k]? =some x:=⟨_,bE (by omega)⟩
 refine .kn<|.seq<|.block<|.seq<|.dg [17,19] mixed ?_
 refine .tO 0 rfl .move<|.tO 1 rfl .move<|.tK 2 rfl .move<|.tK 3 rfl .move<|.tK 4 rfl .move ?_
 refine .take 5 rfl (.i64 ((a+k:Nat):Int) .add ⟨by omega,by omega,by omega⟩) (by kernel_rfl) ?_
 refine .tO 6 rfl .move<|.tO 7 rfl .move<|.tO 8 rfl .move ?_
 refine .hZ 9 rfl (.i64 ((a+k:Nat):Int) .add ⟨by omega,by omega,by omega⟩) (by kernel_rfl) ?_
 refine RA.bH 10 rfl (a+k) d s rfl rfl rfl (by kernel_rfl) (λb1=>?_)
 refine .tO 11 rfl (.aP rfl)<|.tO 12 rfl .move<|.tO 13 rfl .move ?_
 refine RA.bH 14 rfl (a) d e rfl rfl rfl (by kernel_rfl) (λb2=>?_)
 refine .tO 15 rfl (.aP rfl) ?_
 refine RA.bH 16 rfl (a) d e rfl rfl rfl (by kernel_rfl) (λb3=>?_)
 refine .sT 17 rfl ?_
 refine .eG (a) d e y (λa7 a2=>?_) (d.one _ (aV s))
 refine .nil (Next.mod rfl ?_)
 refine RA.bH 18 rfl (a+k) d s rfl rfl rfl (by kernel_rfl) (λb4=>?_)
 refine .sT 19 rfl ?_
 obtain⟨zz,a5⟩:∃u,(g.set (a) y)[a+k]? =some u:=⟨_,bE (by rw[ad2];exact(ad1.1 s).1)⟩
 refine .eG (a+k) a2 a5 x (λU O=>?_) (d.one _ (aV e))
 rw[<-jr e s]at O
 refine .nil (Next.mod rfl ?_)
 refine RA.nil (by kernel_rfl) ?_
 refine ay<|.region<|.mo rfl<|.mo rfl<|.mo rfl<|.mo rfl<|.mo rfl ?_
 have L:=wG (xs:=g) (f:=a) (i:=0) (j:=k) (by omega) (by omega)
 have J:=l.step (i:=a) (j:=a+k) (by omega) (by omega) (by omega) (by omega) (by omega)
 have a0:=OX.last (m:=a+k) (x:=x) D (by omega) (by omega) (by omega) e (λj w o W hw=>kW.top a6 p (by rw[aeb];omega) (x:=x) (by rw[ld];exact e) (j-a) w (by omega) (by rw[ld,show a+(j-a)=j by omega];exact hw))
 refine .cr (zV (c:=c) (ok:=ok) v (dS g a (a+k)) U 0 k a _ O (by omega) (by rw[sq];omega) (by rw[sq];omega) M (λx e=>N x (J.perm.mem_iff.1 e)) G) (λu S F=>?_)
 obtain⟨rfl,ws,Z,K,Y⟩:=F
 refine .nil<|bi<|ay<|.region<|.mo rfl ?_
 refine .q (.i64 ((k:Int)-1) .sub ⟨rfl,by omega,by omega⟩) ?_
 refine .ag rfl<|.nil ?_
 ·exact aW (k,(k:Int)-1,ws,S) ⟨⟨rfl,by simp only;omega⟩,Z,J.trans (K.mono (adY a) (by omega) (by rw[sq];omega)),Y (p.Lp λj V hj=>by
   rw[Nat.add_zero]at L
   rw[L,js (by rw[aeb];omega) (by rw[aeb];omega),ad0 (by omega),ad0 (by omega)]),a0.rp K (adY _) (by omega)⟩ (by simp only;omega) kE.c.c.c.c.c.c rH
 refine .exit<|bz<|bG<|bB<|gg _ .none rH ?_
 ·have E:m=0:=by have:=bC A;omega
  subst E
  exact⟨_,rfl,rfl,g,d,l,D.n3 λi j o A W=>by omega⟩
theorem N9(v:Value)(xs:List aA)(T:aH)(a b:Nat)(R:aw)(k:Value)(D:One k)(h:OS 132 7 aA.enc v xs T)(B:a<b)(C:b<=xs.length)(E:xs.length<=1000000000):
  Spec prog 178 [v,.int .i64 a,.int .i64 b,k] R [T] λu H'=>∃T',H'=[T']/\u=.tuple #[]/\∃ys,OS 132 7 aA.enc v ys T'/\RP a b xs ys:=by
 have H:=h.aq
 refine Spec.body func178 rfl results178 ntmps178 rfl ?_
 refine .sr<|.mo rfl<|.ag rfl<|.z<|.mo rfl ?_
 refine .ia (b-1) .sub ?_
 refine .az rfl<|.block ?_
 refine .loop (X:=Nat×Nat×List aA×aH) (λy=>(a<=y.1/\y.1<=y.2.1+1/\y.2.1<b)/\OS 132 7 aA.enc v y.2.2.1 y.2.2.2/\RP a b xs y.2.2.1) (λy=>[(0,v),(8,iN y.1),(9,iN y.2.1)]) (λy=>[y.2.2.2]) (λy=>b-y.1) (a,b-1,xs,T) ⟨⟨adY _,by simp only;omega,by simp only;omega⟩,h,.refl _⟩ kE.c.c.c rH ?_
 rintro⟨i,j,ys,w⟩ ⟨⟨o,p,r⟩,d,g⟩
 simp only at o p r d g⊢
 have F:=g.length
 refine .seq<|.sr<|.mo rfl<|.mo rfl<|.q .lss<|.zn ?_
 refine .cond rfl (λl=>?_) λl=>?_
 have G:i<j:=cF l
 obtain⟨x,e⟩:∃x,ys[i]? =some x:=⟨_,bE (by omega)⟩
 obtain⟨y,f⟩:∃x,ys[j]? =some x:=⟨_,bE (by omega)⟩
 refine .kn<|.block<|.seq<|.dg [13,15] mixed ?_
 refine .tO 0 rfl .move<|.tO 1 rfl .move<|.tK 2 rfl .move<|.tK 3 rfl .move<|.tO 4 rfl .move<|.tO 5 rfl .move ?_
 refine RA.bH 6 rfl (j) d f rfl rfl rfl (by kernel_rfl) (λI=>?_)
 refine .tO 7 rfl (.aP rfl)<|.tO 8 rfl .move<|.tO 9 rfl .move ?_
 refine RA.bH 10 rfl (i) d e rfl rfl rfl (by kernel_rfl) (λJ=>?_)
 refine .tO 11 rfl (.aP rfl) ?_
 refine RA.bH 12 rfl (i) d e rfl rfl rfl (by kernel_rfl) (λK=>?_)
 refine .sT 13 rfl ?_
 refine .eG (i) d e y (λA s=>?_) (d.one _ (aV f))
 refine .nil (Next.mod rfl ?_)
 refine RA.bH 14 rfl (j) d f rfl rfl rfl (by kernel_rfl) (λL=>?_)
 refine .sT 15 rfl ?_
 obtain⟨M,t⟩:∃u,(ys.set (i) y)[j]? =some u:=⟨_,bE (by rw[ad2];exact(ad1.1 f).1)⟩
 refine .eG (j) s t x (λn m=>?_) (d.one _ (aV e))
 rw[<-jr e f]at m
 refine .nil (Next.mod rfl ?_)
 refine RA.nil (by kernel_rfl) ?_
 refine ay<|.sr<|.mo rfl ?_
 refine .ia (i+1) .add ?_
 refine .az rfl<|.region<|.mo rfl ?_
 refine .ia (j-1) .sub ?_
 refine .ag rfl<|.nil<|bi ?_
 ·exact aW (i+1,j-1,dS ys i j,n) ⟨⟨by simp only;omega,by simp only;omega,by simp only;omega⟩,m,g.step (by omega) (by omega) (by omega) (by omega) (by omega)⟩ (by simp only;omega) kE.c.c.c rH
 refine .exit<|bz<|bG<|bB<|gg _ .none rH ?_
 ·exact⟨_,rfl,rfl,ys,d,g⟩
theorem Bc(v:Value)(xs:List aA)(T:aH)(a b:Nat)(R:aw)(s:Value)(V:One s)(h:OS 132 7 aA.enc v xs T)(S:a<=b)(U:b<=xs.length)(Y:xs.length<=1000000000):
  Spec prog 176 [v,.int .i64 a,.int .i64 b,s] R [T] λu H'=>∃T',H'=[T']/\u=.tuple #[]/\∃ys,OS 132 7 aA.enc v ys T'/\RP a b xs ys:=by
 have iv:=h.aq
 obtain⟨n,J⟩:∃n,b=a+n:=⟨b-a,by omega⟩
 subst J
 refine Spec.body func176 rfl results176 ntmps176 rfl ?_
 refine .sr<|.mo rfl<|.mo rfl ?_
 refine .ia (n) .sub ?_
 refine .ag rfl<|.z<|.mo rfl<|.q .geq<|.zn ?_
 refine .cond rfl (λt=>?_) λt=>?_
 have a2:8<=n:=by have:=cq t;omega
 obtain⟨q,D⟩:∃q,q=n/4:=⟨_,rfl⟩
 refine .sr<|.mo rfl<|.q .gK ?_
 refine .qB (λe=>?_)
 refine .dH rfl rfl<|.z<|.mo rfl ?_
 refine .aR (M8 n (by omega) (by omega) _) (λu r=>?_)
 obtain⟨j,rfl,a0,a1⟩:=r
 refine .ag rfl<|.z<|.mo rfl<|.mo rfl ?_
 refine .q (.i64 ((q:Nat):Int) .quo ⟨by rw[D,ad5 (by omega)];omega,by omega,by omega⟩) ?_
 refine .ia (q*2) .mul ?_
 refine .ia (a+q*2) .add ?_
 refine .ia (a+q*2-1) .sub ?_
 refine .az rfl<|.block ?_
 refine .loop (X:=Nat×Int×List aA×aH) (λy=>(a+q*2-1<=y.1/\y.1<=a+q*2+2)/\OS 132 7 aA.enc v y.2.2.1 y.2.2.2/\RP a (a+n) xs y.2.2.1) (λy=>[(0,v),(1,iN a),(8,iN n),(9,pT e),(10,.int .u64 (j:Nat)),(11,iN y.1)]) (λy=>[bl e [.int .u64 y.2.1] 317,y.2.2.2]) (λy=>a+q*2+2-y.1) (a+q*2-1,_,xs,T) ⟨⟨adY _,by simp only;omega⟩,h,.refl _⟩ kE.c.c.c.c.c.c rH ?_
 rintro⟨i,z,ys,F⟩ ⟨⟨H,I⟩,d,k⟩
 simp only at H I d k⊢
 have Z:=k.length
 refine .seq<|.sr<|.mo rfl<|.mo rfl<|.mo rfl ?_
 refine .q (.i64 ((q:Nat):Int) .quo ⟨by rw[D,ad5 (by omega)];omega,by omega,by omega⟩) ?_
 refine .ia (q*2) .mul ?_
 refine .ia (a+q*2) .add ?_
 refine .ia (a+q*2+1) .add ?_
 refine .q .leq<|.zn ?_
 refine .cond rfl (λA=>?_) λA=>?_
 have W:i<=a+q*2+1:=by have:=cq A;omega
 refine .kn<|.seq<|.block<|.sr ?_
 refine .cr (Ow e z _) (λu O r=>?_)
 obtain⟨l,rfl,rfl⟩:=r
 refine .mo rfl ?_
 refine .q (bo.cast (v':=.int .u64 ((j-1:Nat):Int)) .sub (by rw[qm (by omega) (by omega)];congr 1;omega)) ?_
 have B:=A2 (z:=l) (q:=((j-1:Nat):Int)) (by omega) (by omega)
 obtain⟨o,C⟩:∃o:Nat,IntKind.u64.wrap (BitVec.ofInt IntKind.u64.bits l&&&BitVec.ofInt IntKind.u64.bits ((j-1:Nat):Int)).toNat=(o:Int):=⟨_,(Int.toNat_of_nonneg B.1).symm⟩
 refine .q (bo.cast (v':=.int .u64 ((o:Nat):Int)) .qE (by rw[C])) ?_
 rw[C]at B
 refine .q (bo.cast (v':=.int .i64 ((o:Nat):Int)) .gK (by rw[Qt (by omega) (by omega)])) ?_
 refine .ag rfl<|.zs ?_
 refine bF.cut (X:=Nat) (λp=>p<n) (λp=>[(0,v),(1,iN a),(8,iN n),(9,pT e),(10,.int .u64 (j:Nat)),(11,iN i),(12,iN p)]) (λ_=>[bl e [.int .u64 l] 317,F]) ?_ ?_
 refine .sr<|.mo rfl<|.mo rfl<|.q .geq<|.zn ?_
 refine .cond rfl (λm=>?_) λm=>?_
 have K:n<=o:=by have:=cq m;omega
 refine .region<|.mo rfl<|.mo rfl ?_
 refine .ia (o-n) .sub ?_
 refine .ag rfl<|.nil ?_
 ·first
   |exact aG (o-n) (by omega) kE.c.c.c.c.c.c.c rH
   |exact aG o (by omega) kE.c.c.c.c.c.c.c rH
 have K:o<n:=by have:=bC m;omega
 refine .skip ?_
 ·first
   |exact aG (o-n) (by omega) kE.c.c.c.c.c.c.c rH
   |exact aG o (by omega) kE.c.c.c.c.c.c.c rH
 intro y M
 have a3:y<n:=M
 obtain⟨p,rfl⟩:∃p,p=y:=⟨_,rfl⟩
 obtain⟨x,g⟩:∃x,ys[i]? =some x:=⟨_,bE (by omega)⟩
 obtain⟨w,f⟩:∃x,ys[a+p]? =some x:=⟨_,bE (by omega)⟩
 refine ay<|.dg [17,19] mixed ?_
 refine .tO 0 rfl .move<|.tO 1 rfl .move<|.tK 2 rfl .move<|.tK 3 rfl .move<|.tK 4 rfl .move ?_
 refine .take 5 rfl (.i64 ((a+p:Nat):Int) .add ⟨by omega,by omega,by omega⟩) (by kernel_rfl) ?_
 refine .tO 6 rfl .move<|.tO 7 rfl .move<|.tO 8 rfl .move ?_
 refine .hZ 9 rfl (.i64 ((a+p:Nat):Int) .add ⟨by omega,by omega,by omega⟩) (by kernel_rfl) ?_
 refine RA.bH 10 rfl (a+p) d f rfl rfl rfl (by kernel_rfl) (λa4=>?_)
 refine .tO 11 rfl (.aP rfl)<|.tO 12 rfl .move<|.tO 13 rfl .move ?_
 refine RA.bH 14 rfl (i) d g rfl rfl rfl (by kernel_rfl) (λa5=>?_)
 refine .tO 15 rfl (.aP rfl) ?_
 refine RA.bH 16 rfl (i) d g rfl rfl rfl (by kernel_rfl) (λa6=>?_)
 refine .sT 17 rfl ?_
 refine .eG (i) d g w (λQ L=>?_) (d.one _ (aV f))
 refine .nil (Next.mod rfl ?_)
 refine RA.bH 18 rfl (a+p) d f rfl rfl rfl (by kernel_rfl) (λa7=>?_)
 refine .sT 19 rfl ?_
 obtain⟨zz,N⟩:∃u,(ys.set (i) w)[a+p]? =some u:=⟨_,bE (by rw[ad2];exact(ad1.1 f).1)⟩
 refine .eG (a+p) L N x (λG E=>?_) (d.one _ (aV g))
 rw[<-jr g f]at E
 refine .nil (Next.mod rfl ?_)
 refine RA.nil (by kernel_rfl) ?_
 refine bi<|ay<|.region<|.mo rfl ?_
 refine .ia (i+1) .add ?_
 refine .ag rfl<|.nil ?_
 ·exact aW (i+1,l,dS ys i (a+p),G) ⟨⟨by simp only;omega,by simp only;omega⟩,E,k.step (by omega) (by omega) (by omega) (by omega) (by omega)⟩ (by simp only;omega) kE.c.c.c.c.c.c rH
 refine .exit<|bz<|bG<|bB<|gg _ .none (aQ [1]) ?_
 ·exact⟨_,rfl,rfl,ys,d,k⟩
 refine .skip<|gg _ .none rH ?_
 ·exact⟨_,rfl,rfl,xs,h,.refl _⟩
end
end STP
namespace STP
section
variable{c:aA->aA->Int}{ok:aA->Prop}{f:FuncId}{caps:List Value} [e:aT prog f]
theorem ND(v:Value)(xs:List aA)(T:aH)(a b:Nat)(R:aw)(h:OS 132 7 aA.enc v xs T)(b5:a<b)(V:b<=xs.length)(hl:xs.length<=1000000000)(hf:iO prog f caps R (λt:aA=>Value.agg t.enc.toArray) c ok)(W:∀x∈xs,ok x)(so:SO (bW c))(c4:LB (bW c) xs a b):
  Spec prog 179 [v,.int .i64 a,.int .i64 b,.func (.func f) #[] caps.toArray] R [T] λu H'=>∃T',H'=[T']/\∃ys m,u=.bool m/\OS 132 7 aA.enc v ys T'/\RP a b xs ys/\(m=true->SR (bW c) ys a b):=by
 have iv:=h.aq
 refine Spec.body func179 rfl results179 ntmps179 rfl ?_
 refine .sr<|.ag rfl<|.z<|.mo rfl ?_
 refine .ia (a+1) .add ?_
 refine .ag rfl<|.zs<|.sr<|.az rfl<|.block ?_
 refine .loop (X:=Nat×Nat×List aA×aH) (λy=>(y.1<=5/\a+1<=y.2.1/\y.2.1<=b)/\OS 132 7 aA.enc v y.2.2.1 y.2.2.2/\RP a b xs y.2.2.1/\SR (bW c) y.2.2.1 a y.2.1) (λy=>[(0,v),(1,iN a),(2,iN b),(3,.func (.func f) #[] caps.toArray),(9,iN y.2.1),(10,iN y.1)]) (λy=>[y.2.2.2]) (λy=>5-y.1) (0,a+1,xs,T) ⟨⟨by omega,adY _,b5⟩,h,.refl _,λi j S U M=>by simp only at M;omega⟩ kE.c.c.c.c.c.c rH ?_
 rintro⟨n,i,ys,T1⟩ ⟨⟨hn,I,J⟩,B,N,E⟩
 simp only at hn I J B N E⊢
 have c8:=N.length
 refine .seq<|.sr<|.mo rfl<|.q .lss<|.zn ?_
 refine .cond rfl (λS=>?_) λS=>?_
 have d1:n<5:=cF S
 refine .kn<|.seq<|.block<|.seq ?_
 refine bF.cut (X:=Nat) (λi=>(a+1<=i/\i<=b)/\SR (bW c) ys a i) (λi=>[(0,v),(1,iN a),(2,iN b),(3,.func (.func f) #[] caps.toArray),(9,iN i),(10,iN n)]) (λ_=>[T1]) ?_ ?_
 refine .block ?_
 refine .loop (X:=Nat) (λi=>(a+1<=i/\i<=b)/\SR (bW c) ys a i) (λi=>[(0,v),(1,iN a),(2,iN b),(3,.func (.func f) #[] caps.toArray),(9,iN i),(10,iN n)]) (λ_=>[T1]) (λi=>b-i) i ⟨⟨I,J⟩,E⟩ kE.c.c.c.c.c.c rH ?_
 clear I J E
 rintro i ⟨⟨I,J⟩,E⟩
 refine .seq<|.seq ?_
 refine .dY 14 mixed (by kernel_rfl) ?_
 conv=>arg 6;dsimp only[List.take]
 refine .mo rfl<|.mo rfl<|.q .lss<|.mo rfl ?_
 refine .split (t:=22) rfl (λe=>?_) (λe=>?_)
 have c3:i<b:=by have:=cq e;omega
 obtain⟨x,F⟩:∃x,ys[i]? =some x:=⟨_,bE (by omega)⟩
 obtain⟨y,D⟩:∃x,ys[i-1]? =some x:=⟨_,bE (by omega)⟩
 have c6:=W x (N.perm.mem_iff.1 (aV F))
 have c7:=W y (N.perm.mem_iff.1 (aV D))
 refine .gT e<|.mo rfl<|.gT e<|.mo rfl<|.gT e<|.mo rfl<|.gT e ?_
 refine .bH i B F (λe1=>?_)
 refine .gT e<|.q (.aP rfl)<|.gT e<|.mo rfl<|.gT e<|.mo rfl<|.gT e ?_
 refine .ia (i-1) .sub ?_
 refine .gT e ?_
 refine .bH (i-1) B D (λe2=>?_)
 refine .gT e<|.q (.aP rfl)<|.nil<|.gT e ?_
 refine .fY (first:=[]) (captured:=caps) (vs:=[(λt:aA=>Value.agg t.enc.toArray) x,(λt:aA=>Value.agg t.enc.toArray) y]) (hf x y c6 c7 _ (λb o V=>.inl V)) (λu H=>?_)
 subst H
 refine .gT e<|.q .lss<|.gT e<|.q .not<|.q (.aZ e) ?_
 refine .zn ?_
 refine .cond rfl (λU=>?_) λU=>?_
 refine .kn<|.block<|.region<|.mo rfl ?_
 refine .ia (i+1) .add ?_
 refine .ag rfl<|.nil<|bi ?_
 ·have c5:bW c x y=false:=by
   have b8:(!bW c x y)=true:=U
   simpa using b8
  exact aW (i+1) ⟨⟨by omega,by omega⟩,E.snoc so (by omega) (by omega) λu w H hw=>by
   rw[D]at H;rw[F]at hw;cases H;cases hw;exact c5⟩ (by omega) kE.c.c.c.c.c.c rH
 refine .exit<|bz<|bG<|bB ?_
 exact aG i ⟨⟨I,J⟩,E⟩ kE.c.c.c.c.c.c rH
 refine .gF e<|.gF e<|.gF e<|.gF e<|.gF e<|.gF e<|.gF e<|.gF e<|.gF e<|.gF e<|.nil<|.gF e<|.gF e<|.gF e<|.q (.aX e) ?_
 refine .zn<|.bQ<|.exit<|bz<|bG<|bB ?_
 exact aG i ⟨⟨I,J⟩,E⟩ kE.c.c.c.c.c.c rH
 intro x F
 obtain⟨d,b6⟩:∃d,d=x:=⟨_,rfl⟩
 rw[<-b6]at F⊢
 clear b6 x I J E
 obtain⟨⟨I,J⟩,E⟩:=F
 refine ay<|.seq<|.sr<|.mo rfl<|.mo rfl<|.q .bw<|.zn ?_
 refine .cond rfl (λM=>?_) λM=>?_
 refine .sr<|.az rfl ?_
 refine .ret (aI (bf (aI (cK (bf (aI (bu _ (.one (.tmp rfl)) rH ?_)))))))
 ·have c2:d=b:=by
   have b9:((d:Int)=b):=by simpa using M
   omega
  exact⟨_,rfl,ys,true,rfl,B,N,λ_=>c2▸E⟩
 have c3:d<b:=by
  have b9:¬((d:Int)=b):=by simpa using M
  omega
 obtain⟨x,F⟩:∃x,ys[d]? =some x:=⟨_,bE (by omega)⟩
 obtain⟨y,D⟩:∃x,ys[d-1]? =some x:=⟨_,bE (by omega)⟩
 refine .kn<|.seq<|.sr<|.mo rfl<|.mo rfl ?_
 refine .ia (b-a) .sub ?_
 refine .q .lss<|.zn ?_
 refine .cond rfl (λh4=>?_) λh4=>?_
 refine .sr<|.az rfl ?_
 refine .ret (aI (bf (aI (cK (bf (aI (bu _ (.one (.tmp rfl)) rH ?_)))))))
 ·exact⟨_,rfl,ys,false,rfl,B,N,λh=>by cases h⟩
 refine .kn<|.seq<|.dg [15,17] mixed ?_
 refine .tO 0 rfl .move<|.tO 1 rfl .move<|.tK 2 rfl .move<|.tK 3 rfl .move ?_
 refine .take 4 rfl (.i64 ((d-1:Nat):Int) .sub ⟨by omega,by omega,by omega⟩) (by kernel_rfl) ?_
 refine .tO 5 rfl .move<|.tO 6 rfl .move ?_
 refine .hZ 7 rfl (.i64 ((d-1:Nat):Int) .sub ⟨by omega,by omega,by omega⟩) (by kernel_rfl) ?_
 refine RA.bH 8 rfl (d-1) B D rfl rfl rfl (by kernel_rfl) (λe3=>?_)
 refine .tO 9 rfl (.aP rfl)<|.tO 10 rfl .move<|.tO 11 rfl .move ?_
 refine RA.bH 12 rfl (d) B F rfl rfl rfl (by kernel_rfl) (λe4=>?_)
 refine .tO 13 rfl (.aP rfl) ?_
 refine RA.bH 14 rfl (d) B F rfl rfl rfl (by kernel_rfl) (λe5=>?_)
 refine .sT 15 rfl ?_
 refine .eG (d) B F y (λb1 a0=>?_) (B.one _ (aV D))
 refine .nil (Next.mod rfl ?_)
 refine RA.bH 16 rfl (d-1) B D rfl rfl rfl (by kernel_rfl) (λe6=>?_)
 refine .sT 17 rfl ?_
 obtain⟨zz,a1⟩:∃u,(ys.set (d) y)[d-1]? =some u:=⟨_,bE (by rw[ad2];exact(ad1.1 D).1)⟩
 refine .eG (d-1) a0 a1 x (λL G=>?_) (B.one _ (aV F))
 rw[<-jr F D]at G
 refine .nil (Next.mod rfl ?_)
 refine RA.nil (by kernel_rfl) ?_
 have a3:=N.step (i:=d) (j:=d-1) (by omega) (by omega) (by omega) (by omega) (by omega)
 have c0:=E.PW (by omega)
 clear E
 refine ay<|.seq ?_
 refine bF.cut (X:=List aA×aH) (λz=>OS 132 7 aA.enc v z.1 z.2/\RP a b xs z.1/\SR (bW c) z.1 a d) (λ_=>[(0,v),(1,iN a),(2,iN b),(3,.func (.func f) #[] caps.toArray),(9,iN d),(10,iN n)]) (λz=>[z.2]) ?_ ?_
 refine .sr<|.mo rfl<|.mo rfl ?_
 refine .ia (d-a) .sub ?_
 refine .q .geq<|.zn ?_
 refine .cond rfl (λh5=>?_) λh5=>?_
 refine .sr<|.mo rfl ?_
 refine .ia (d-1) .sub ?_
 refine .az rfl<|.block ?_
 refine .loop (X:=Nat×List aA×aH) (λz=>(a<=z.1/\z.1<=d-1)/\OS 132 7 aA.enc v z.2.1 z.2.2/\RP a b xs z.2.1/\mh (bW c) z.2.1 a z.1 d) (λz=>[(0,v),(1,iN a),(2,iN b),(3,.func (.func f) #[] caps.toArray),(9,iN d),(10,iN n),(11,iN z.1)]) (λz=>[z.2.2]) (λz=>z.1) (d-1,dS ys d (d-1),L) ⟨⟨by simp only;omega,adY _⟩,G,a3,c0⟩ kE.c.c.c.c.c.c.c rH ?_
 rintro⟨q,A,K⟩ ⟨⟨a7,a8⟩,g,r,a2⟩
 simp only at a7 a8 g r a2⊢
 have c9:=r.length
 refine .seq<|.sr<|.mo rfl<|.q .geq<|.zn ?_
 refine .cond rfl (λh6=>?_) λh6=>?_
 have d2:1<=q:=by have:=cq h6;omega
 obtain⟨s,k⟩:∃x,A[q]? =some x:=⟨_,bE (by omega)⟩
 obtain⟨t,l⟩:∃x,A[q-1]? =some x:=⟨_,bE (by omega)⟩
 have a9:=W s (r.perm.mem_iff.1 (aV k))
 have b0:=W t (r.perm.mem_iff.1 (aV l))
 refine .kn<|.seq<|.block<|.seq<|.seq ?_
 refine .dY 10 mixed (by kernel_rfl) ?_
 conv=>arg 6;dsimp only[List.take]
 refine .mo rfl<|.mo rfl<|.mo rfl ?_
 refine .bH q g k (λe7=>?_)
 refine .q (.aP rfl)<|.mo rfl<|.mo rfl ?_
 refine .ia (q-1) .sub ?_
 refine .bH (q-1) g l (λe8=>?_)
 refine .q (.aP rfl)<|.nil ?_
 refine .fY (first:=[]) (captured:=caps) (vs:=[(λt:aA=>Value.agg t.enc.toArray) s,(λt:aA=>Value.agg t.enc.toArray) t]) (hf s t a9 b0 _ (λb o V=>.inl V)) (λu H=>?_)
 subst H
 refine .q .lss<|.q .not<|.zn ?_
 refine .cond rfl (λh7=>?_) λh7=>?_
 have a4:SR (bW c) A a d:=a2.done so (by omega) (by omega) (by
  have a5:(!bW c s t)=true:=h7
  rcases Nat.lt_or_ge a q with hh|hh
  ·exact .inr ⟨hh,λu w H hw=>by rw[l]at H;rw[k]at hw;cases H;cases hw;simpa using a5⟩
  ·exact .inl (by omega))
 refine .exit (bz (o9 (bz (bG (bB ?_)))))
 ·first
   |exact aG (A,K) ⟨g,r,a4⟩ kE.c.c.c.c.c.c rH
   |exact aG (dS ys d (d-1),L) ⟨G,a3,λp q S U M=>by have:=bC h5;omega⟩ kE.c.c.c.c.c.c rH
 have a6:bW c s t=true:=by
  have a5:(!bW c s t)=false:=h7
  simpa using a5
 have c1:a<q:=by
  rcases Nat.lt_or_ge a q with hh|hh
  ·exact hh
  ·have ea:q=a:=by omega
   subst ea
   have:=(c4.rp r) (by omega) q (adY _) b5 t s l k
   rw[this]at a6;cases a6
 refine .kn<|.dg [15,17] mixed ?_
 refine .tO 0 rfl .move<|.tO 1 rfl .move<|.tK 2 rfl .move<|.tK 3 rfl .move ?_
 refine .take 4 rfl (.i64 ((q-1:Nat):Int) .sub ⟨by omega,by omega,by omega⟩) (by kernel_rfl) ?_
 refine .tO 5 rfl .move<|.tO 6 rfl .move ?_
 refine .hZ 7 rfl (.i64 ((q-1:Nat):Int) .sub ⟨by omega,by omega,by omega⟩) (by kernel_rfl) ?_
 refine RA.bH 8 rfl (q-1) g l rfl rfl rfl (by kernel_rfl) (λe9=>?_)
 refine .tO 9 rfl (.aP rfl)<|.tO 10 rfl .move<|.tO 11 rfl .move ?_
 refine RA.bH 12 rfl (q) g k rfl rfl rfl (by kernel_rfl) (λf0=>?_)
 refine .tO 13 rfl (.aP rfl) ?_
 refine RA.bH 14 rfl (q) g k rfl rfl rfl (by kernel_rfl) (λf1=>?_)
 refine .sT 15 rfl ?_
 refine .eG (q) g k t (λb1 a0=>?_) (g.one _ (aV l))
 refine .nil (Next.mod rfl ?_)
 refine RA.bH 16 rfl (q-1) g l rfl rfl rfl (by kernel_rfl) (λd4=>?_)
 refine .sT 17 rfl ?_
 obtain⟨zz,a1⟩:∃u,(A.set (q) t)[q-1]? =some u:=⟨_,bE (by rw[ad2];exact(ad1.1 l).1)⟩
 refine .eG (q-1) a0 a1 s (λL G=>?_) (g.one _ (aV k))
 rw[<-jr k l]at G
 refine .nil (Next.mod rfl ?_)
 refine RA.nil (by kernel_rfl) ?_
 refine bi<|ay<|.region<|.mo rfl ?_
 refine .ia (q-1) .sub ?_
 refine .ag rfl<|.nil ?_
 ·exact aW (q-1,dS A q (q-1),L) ⟨⟨by simp only;omega,by simp only;omega⟩,G,r.step (by omega) (by omega) (by omega) (by omega) (by omega),a2.step so (by omega) (by omega) c1 k l a6⟩ (by simp only;omega) kE.c.c.c.c.c.c.c rH
 have a4:SR (bW c) A a d:=a2.done so (by omega) (by omega) (.inl (by have:=bC h6;omega))
 refine .exit<|bz<|bG<|bB ?_
 ·first
   |exact aG (A,K) ⟨g,r,a4⟩ kE.c.c.c.c.c.c rH
   |exact aG (dS ys d (d-1),L) ⟨G,a3,λp q S U M=>by have:=bC h5;omega⟩ kE.c.c.c.c.c.c rH
 refine .skip ?_
 ·first
   |exact aG (A,K) ⟨g,r,a4⟩ kE.c.c.c.c.c.c rH
   |exact aG (dS ys d (d-1),L) ⟨G,a3,λp q S U M=>by have:=bC h5;omega⟩ kE.c.c.c.c.c.c rH
 intro y D
 obtain⟨A,K⟩:=y
 obtain⟨g,r,Y⟩:=D
 simp only at g r Y⊢
 refine ay ?_
 refine bF.cut (X:=List aA×aH) (λz=>OS 132 7 aA.enc v z.1 z.2/\RP a b xs z.1/\SR (bW c) z.1 a d) (λ_=>[(0,v),(1,iN a),(2,iN b),(3,.func (.func f) #[] caps.toArray),(9,iN d),(10,iN n)]) (λz=>[z.2]) ?_ ?_
 refine .sr<|.mo rfl<|.mo rfl ?_
 refine .ia (b-d) .sub ?_
 refine .q .geq<|.zn ?_
 refine .cond rfl (λh8=>?_) λh8=>?_
 refine .sr<|.mo rfl ?_
 refine .ia (d+1) .add ?_
 refine .az rfl<|.block ?_
 refine .loop (X:=Nat×List aA×aH) (λz=>(d+1<=z.1/\z.1<=b)/\OS 132 7 aA.enc v z.2.1 z.2.2/\RP a b xs z.2.1/\SR (bW c) z.2.1 a d) (λz=>[(0,v),(1,iN a),(2,iN b),(3,.func (.func f) #[] caps.toArray),(9,iN d),(10,iN n),(12,iN z.1)]) (λz=>[z.2.2]) (λz=>b-z.1) (d+1,A,K) ⟨⟨adY _,by simp only;omega⟩,g,r,Y⟩ kE.c.c.c.c.c.c.c rH ?_
 rintro⟨q,Q,T4⟩ ⟨⟨a7,a8⟩,C,O,Z⟩
 simp only at a7 a8 C O Z⊢
 have d0:=O.length
 refine .seq<|.sr<|.mo rfl<|.mo rfl<|.q .lss<|.zn ?_
 refine .cond rfl (λh9=>?_) λh9=>?_
 have d3:q<b:=cF h9
 obtain⟨s,k⟩:∃x,Q[q]? =some x:=⟨_,bE (by omega)⟩
 obtain⟨t,l⟩:∃x,Q[q-1]? =some x:=⟨_,bE (by omega)⟩
 have a9:=W s (O.perm.mem_iff.1 (aV k))
 have b0:=W t (O.perm.mem_iff.1 (aV l))
 refine .kn<|.seq<|.block<|.seq<|.seq ?_
 refine .dY 10 mixed (by kernel_rfl) ?_
 conv=>arg 6;dsimp only[List.take]
 refine .mo rfl<|.mo rfl<|.mo rfl ?_
 refine .bH q C k (λd5=>?_)
 refine .q (.aP rfl)<|.mo rfl<|.mo rfl ?_
 refine .ia (q-1) .sub ?_
 refine .bH (q-1) C l (λd6=>?_)
 refine .q (.aP rfl)<|.nil ?_
 refine .fY (first:=[]) (captured:=caps) (vs:=[(λt:aA=>Value.agg t.enc.toArray) s,(λt:aA=>Value.agg t.enc.toArray) t]) (hf s t a9 b0 _ (λb o V=>.inl V)) (λu H=>?_)
 subst H
 refine .q .lss<|.q .not<|.zn ?_
 refine .cond rfl (λb7=>?_) λb7=>?_
 refine .exit (bz (o9 (bz (bG (bB ?_)))))
 ·first
   |exact aG (Q,T4) ⟨C,O,Z⟩ kE.c.c.c.c.c.c rH
   |exact aG (A,K) ⟨g,r,Y⟩ kE.c.c.c.c.c.c rH
 refine .kn<|.dg [15,17] mixed ?_
 refine .tO 0 rfl .move<|.tO 1 rfl .move<|.tK 2 rfl .move<|.tK 3 rfl .move ?_
 refine .take 4 rfl (.i64 ((q-1:Nat):Int) .sub ⟨by omega,by omega,by omega⟩) (by kernel_rfl) ?_
 refine .tO 5 rfl .move<|.tO 6 rfl .move ?_
 refine .hZ 7 rfl (.i64 ((q-1:Nat):Int) .sub ⟨by omega,by omega,by omega⟩) (by kernel_rfl) ?_
 refine RA.bH 8 rfl (q-1) C l rfl rfl rfl (by kernel_rfl) (λd7=>?_)
 refine .tO 9 rfl (.aP rfl)<|.tO 10 rfl .move<|.tO 11 rfl .move ?_
 refine RA.bH 12 rfl (q) C k rfl rfl rfl (by kernel_rfl) (λd8=>?_)
 refine .tO 13 rfl (.aP rfl) ?_
 refine RA.bH 14 rfl (q) C k rfl rfl rfl (by kernel_rfl) (λd9=>?_)
 refine .sT 15 rfl ?_
 refine .eG (q) C k t (λb1 a0=>?_) (C.one _ (aV l))
 refine .nil (Next.mod rfl ?_)
 refine RA.bH 16 rfl (q-1) C l rfl rfl rfl (by kernel_rfl) (λe0=>?_)
 refine .sT 17 rfl ?_
 obtain⟨zz,a1⟩:∃u,(Q.set (q) t)[q-1]? =some u:=⟨_,bE (by rw[ad2];exact(ad1.1 l).1)⟩
 refine .eG (q-1) a0 a1 s (λL G=>?_) (C.one _ (aV k))
 rw[<-jr k l]at G
 refine .nil (Next.mod rfl ?_)
 refine RA.nil (by kernel_rfl) ?_
 refine bi<|ay<|.region<|.mo rfl ?_
 refine .ia (q+1) .add ?_
 refine .ag rfl<|.nil ?_
 ·exact aW (q+1,dS Q q (q-1),L) ⟨⟨by simp only;omega,by simp only;omega⟩,G,O.step (by omega) (by omega) (by omega) (by omega) (by omega),Z.PX (by omega) (by omega) (by omega) (by omega)⟩ (by simp only;omega) kE.c.c.c.c.c.c.c rH
 refine .exit<|bz<|bG<|bB ?_
 ·first
   |exact aG (Q,T4) ⟨C,O,Z⟩ kE.c.c.c.c.c.c rH
   |exact aG (A,K) ⟨g,r,Y⟩ kE.c.c.c.c.c.c rH
 refine .skip ?_
 ·first
   |exact aG (Q,T4) ⟨C,O,Z⟩ kE.c.c.c.c.c.c rH
   |exact aG (A,K) ⟨g,r,Y⟩ kE.c.c.c.c.c.c rH
 intro y D
 obtain⟨us,T5⟩:=y
 obtain⟨b2,b3,b4⟩:=D
 simp only at b2 b3 b4⊢
 refine bi<|ay<|.region<|.mo rfl ?_
 refine .ia (n+1) .add ?_
 refine .ag rfl<|.nil ?_
 ·exact aW (n+1,d,us,T5) ⟨⟨by simp only;omega,I,J⟩,b2,b3,b4⟩ (by simp only;omega) kE.c.c.c.c.c.c rH
 refine .exit<|bz<|bG<|bB<|ay<|.sr<|.az rfl ?_
 refine .ret (bu _ (.one (.tmp rfl)) rH ?_)
 ·exact⟨_,rfl,ys,false,rfl,B,N,λh=>by cases h⟩
end
end STP
namespace STP
section
variable{c:aA->aA->Int}{ok:aA->Prop}{f:FuncId}{caps:List Value} [e:aT prog f]
theorem uk(v:Value)(xs:List aA)(a b lo d g:Nat)(s:Int)(R:aw)(h:RS R 7 aA.enc v xs)(i:lo<=a/\a<d)(e:lo<=b/\b<d)(B:d<=xs.length)(n:iO prog f caps R (λt:aA=>Value.agg t.enc.toArray) c ok)(j:∀x∈xs,ok x):
  Spec prog 215 [v,.int .i64 a,.int .i64 b,pT g,.func (.func f) #[] caps.toArray] R [bl g [.int .i64 s] 3] λu H'=>∃T',H'=[T']/\∃(s':Int) (p q:Nat),u=.tuple [.int .i64 p,.int .i64 q].toArray/\T'=(bl g [.int .i64 s'] 3)/\(lo<=p/\p<d)/\(lo<=q/\q<d):=by
 have C:=h.aq
 obtain⟨x,k⟩:∃x,xs[b]? =some x:=⟨_,bE (by omega)⟩
 obtain⟨y,l⟩:∃x,xs[a]? =some x:=⟨_,bE (by omega)⟩
 have w:=j x (aV k)
 have A:=j y (aV l)
 refine Spec.body func215 rfl results215 ntmps215 rfl ?_
 refine .sr<|.ag rfl<|.ag rfl<|.zs<|.seq ?_
 refine .dY 9 mixed (by kernel_rfl) ?_
 conv=>arg 6;dsimp only[List.take]
 refine .mo rfl<|.mo rfl<|.mo rfl ?_
 refine .bI b h k (λD=>?_)
 refine .q (.aP rfl)<|.mo rfl<|.mo rfl ?_
 refine .bI a h l (λE=>?_)
 refine .q (.aP rfl)<|.nil ?_
 refine .fY (first:=[]) (captured:=caps) (vs:=[(λt:aA=>Value.agg t.enc.toArray) x,(λt:aA=>Value.agg t.enc.toArray) y]) (n x y w A _ (λb o e=>.inl e)) (λu r=>?_)
 subst r
 refine .q .lss<|.zn ?_
 refine .cond rfl (λm=>?_) λm=>?_
 refine .sr<|.mo rfl<|.nc rfl<|.lo rfl<|.q .add ?_
 refine .nc rfl<|.dH rfl rfl<|.z<|.mo rfl<|.mo rfl<|.ag rfl<|.az rfl ?_
 refine .ret (aI (bu _ (.two (.tmp rfl) (.tmp rfl)) rH ?_))
 ·exact⟨_,rfl,_,b,a,rfl,rfl,e,i⟩
 refine .kn<|.sr<|.mo rfl<|.mo rfl<|.ag rfl<|.az rfl ?_
 refine .ret (bu _ (.two (.tmp rfl) (.tmp rfl)) rH ?_)
 ·exact⟨_,rfl,_,a,b,rfl,rfl,i,e⟩
theorem yx(v:Value)(xs:List aA)(a b d lo e g:Nat)(s:Int)(R:aw)(h:RS R 7 aA.enc v xs)(m:lo<=a/\a<e)(n:lo<=b/\b<e)(o:lo<=d/\d<e)(k:e<=xs.length)(j:iO prog f caps R (λt:aA=>Value.agg t.enc.toArray) c ok)(l:∀x∈xs,ok x):
  Spec prog 203 [v,.int .i64 a,.int .i64 b,.int .i64 d,pT g,.func (.func f) #[] caps.toArray] R [bl g [.int .i64 s] 3] λu H'=>∃T',H'=[T']/\∃(s':Int) (p:Nat),u=.int .i64 p/\T'=(bl g [.int .i64 s'] 3)/\(lo<=p/\p<e):=by
 have N:=h.aq
 refine Spec.body func203 rfl results203 ntmps203 rfl ?_
 refine .sr<|.ag rfl<|.z<|.mo rfl<|.mo rfl<|.mo rfl<|.mo rfl<|.mo rfl ?_
 refine .cr (uk v xs a b lo e g s _ h m n k j l) (λu I i=>?_)
 obtain⟨F,B,D,rfl,rfl,r,y⟩:=i
 refine .mo rfl<|.q .extract<|.q .extract<|.ag rfl<|.ag rfl<|.z<|.mo rfl<|.mo rfl<|.mo rfl<|.mo rfl<|.mo rfl ?_
 refine .cr (uk v xs D d lo e g F _ h y o k j l) (λu J i=>?_)
 obtain⟨G,C,Q,rfl,rfl,w,M⟩:=i
 refine .mo rfl<|.q .extract<|.q .extract<|.ag rfl<|.ag rfl<|.z<|.mo rfl<|.mo rfl<|.mo rfl<|.mo rfl<|.mo rfl ?_
 refine .cr (uk v xs B C lo e g G _ h r w k j l) (λu K i=>?_)
 obtain⟨H,O,E,rfl,rfl,L,A⟩:=i
 refine .mo rfl<|.q .extract<|.q .extract<|.ag rfl<|.ag rfl<|.z<|.mo rfl<|.az rfl ?_
 refine .ret (bu _ (.one (.tmp rfl)) rH ?_)
 ·exact⟨_,rfl,H,E,rfl,rfl,A⟩
theorem tS(v:Value)(xs:List aA)(a lo d b:Nat)(s:Int)(R:aw)(h:RS R 7 aA.enc v xs)(o:lo+1<=a/\a+1<d)(g:d<=xs.length)(q:xs.length<=1000000000)(e:iO prog f caps R (λt:aA=>Value.agg t.enc.toArray) c ok)(i:∀x∈xs,ok x):
  Spec prog 202 [v,.int .i64 a,pT b,.func (.func f) #[] caps.toArray] R [bl b [.int .i64 s] 3] λu H'=>∃T',H'=[T']/\∃(s':Int) (p:Nat),u=.int .i64 p/\T'=(bl b [.int .i64 s'] 3)/\(lo<=p/\p<d):=by
 have r:=h.aq
 refine Spec.body func202 rfl results202 ntmps202 rfl ?_
 refine .sr<|.ag rfl<|.z<|.mo rfl<|.mo rfl ?_
 refine .ia (a-1) .sub ?_
 refine .mo rfl<|.mo rfl ?_
 refine .ia (a+1) .add ?_
 refine .mo rfl<|.mo rfl ?_
 refine .cr (yx v xs (a-1) a (a+1) lo d b s _ h (by omega) (by omega) (by omega) g e i) (λu n k=>?_)
 obtain⟨m,l,rfl,rfl,j⟩:=k
 refine .az rfl ?_
 refine .ret (bu _ (.one (.tmp rfl)) rH ?_)
 ·exact⟨_,rfl,m,l,rfl,rfl,j⟩
theorem choose_spec(v:Value)(xs:List aA)(a b:Nat)(R:aw)(h:RS R 7 aA.enc v xs)(Y:a<b)(l:b<=xs.length)(w:xs.length<=1000000000)(m:iO prog f caps R (λt:aA=>Value.agg t.enc.toArray) c ok)(o:∀x∈xs,ok x):
  Spec prog 177 [v,.int .i64 a,.int .i64 b,.func (.func f) #[] caps.toArray] R [] λu H'=>(∃(p:Nat) (t:Int),u=.tuple [.int .i64 p,.int .i64 t].toArray/\a<=p/\p<b)/\H'=[]:=by
 have iv:=h.aq
 obtain⟨n,U⟩:∃n,b=a+n:=⟨b-a,by omega⟩
 subst U
 obtain⟨q,A⟩:∃q,q=n/4:=⟨_,rfl⟩
 refine Spec.body func177 rfl results177 ntmps177 rfl ?_
 refine .sr<|.ag rfl<|.ag rfl<|.z<|.mo rfl<|.mo rfl ?_
 refine .ia (n) .sub ?_
 refine .ag rfl<|.z ?_
 refine .qB (λe=>?_)
 refine .z<|.mo rfl<|.mo rfl ?_
 refine .q (.i64 ((q:Nat):Int) .quo ⟨by rw[A,ad5 (by omega)];omega,by omega,by omega⟩) ?_
 refine .ia (q) .mul ?_
 refine .ia (a+q) .add ?_
 refine .ag rfl<|.z<|.mo rfl<|.mo rfl ?_
 refine .q (.i64 ((q:Nat):Int) .quo ⟨by rw[A,ad5 (by omega)];omega,by omega,by omega⟩) ?_
 refine .ia (q*2) .mul ?_
 refine .ia (a+q*2) .add ?_
 refine .ag rfl<|.z<|.mo rfl<|.mo rfl ?_
 refine .q (.i64 ((q:Nat):Int) .quo ⟨by rw[A,ad5 (by omega)];omega,by omega,by omega⟩) ?_
 refine .ia (q*3) .mul ?_
 refine .ia (a+q*3) .add ?_
 refine .ag rfl<|.zs ?_
 refine bF.cut (X:=Nat×Int) (λz=>a<=z.1/\z.1<a+n) (λz=>[(11,pT e),(13,iN z.1)]) (λz=>[bl e [.int .i64 z.2] 3]) ?_ ?_
 refine .sr<|.mo rfl<|.q .geq<|.zn ?_
 refine .cond rfl (λB=>?_) λB=>?_
 have a0:8<=n:=by have:=cq B;omega
 refine .seq ?_
 refine bF.cut (X:=Nat×Nat×Nat×Int) (λz=>(a<=z.1/\z.1<a+n)/\(a<=z.2.1/\z.2.1<a+n)/\(a<=z.2.2.1/\z.2.2.1<a+n)) (λz=>[(0,v),(3,.func (.func f) #[] caps.toArray),(11,pT e),(12,iN z.1),(13,iN z.2.1),(14,iN z.2.2.1)]) (λz=>[bl e [.int .i64 z.2.2.2] 3]) ?_ ?_
 refine .sr<|.mo rfl<|.q .geq<|.zn ?_
 refine .cond rfl (λC=>?_) λC=>?_
 have Z:50<=n:=by have:=cq C;omega
 refine .sr<|.mo rfl<|.mo rfl<|.mo rfl ?_
 refine .cr (tS v xs (a+q) a (a+n) e 0 _ h (by omega) l w m o) (λu r g=>?_)
 obtain⟨V,K,rfl,rfl,G⟩:=g
 refine .ag rfl<|.z<|.mo rfl<|.mo rfl<|.mo rfl ?_
 refine .cr (tS v xs (a+q*2) a (a+n) e V _ h (by omega) l w m o) (λu r g=>?_)
 obtain⟨W,L,rfl,rfl,H⟩:=g
 refine .az rfl<|.region<|.mo rfl<|.mo rfl<|.mo rfl ?_
 refine .cr (tS v xs (a+q*3) a (a+n) e W _ h (by omega) l w m o) (λu r g=>?_)
 obtain⟨O,M,rfl,rfl,I⟩:=g
 refine .ag rfl<|.nil ?_
 ·first
   |exact aG (K,L,M,O) ⟨G,H,I⟩ kE.c.c.c.c.c.c rH
   |exact aG (a+q,a+q*2,a+q*3,0) ⟨by simp only;omega,by simp only;omega,by simp only;omega⟩ kE.c.c.c.c.c.c rH
 refine .skip ?_
 ·first
   |exact aG (K,L,M,O) ⟨G,H,I⟩ kE.c.c.c.c.c.c rH
   |exact aG (a+q,a+q*2,a+q*3,0) ⟨by simp only;omega,by simp only;omega,by simp only;omega⟩ kE.c.c.c.c.c.c rH
 intro y d
 obtain⟨i,j,k,s⟩:=y
 obtain⟨D,E,F⟩:=d
 simp only at D E F⊢
 refine ay<|.region<|.mo rfl<|.mo rfl<|.mo rfl<|.mo rfl<|.mo rfl ?_
 refine .cr (yx v xs i j k a (a+n) e s _ h D E F l m o) (λu r g=>?_)
 obtain⟨Q,N,rfl,rfl,J⟩:=g
 refine .ag rfl<|.nil ?_
 ·first
   |exact aG (N,Q) J kE.c.c rH
   |exact aG (a+q*2,0) (by simp only;omega) kE.c.c rH
 refine .skip ?_
 ·first
   |exact aG (N,Q) J kE.c.c rH
   |exact aG (a+q*2,0) (by simp only;omega) kE.c.c rH
 intro y d
 obtain⟨p,s⟩:=y
 simp only at d⊢
 refine ay<|.sr<|.lo rfl<|.zn<|.block<|.sr<|.q .bw<|.az rfl ?_
 refine .cond rfl (λS=>?_) λS=>?_
 refine .sr<|.mo rfl<|.ag rfl<|.az rfl ?_
 refine .ret (bf (bu _ (.two (.tmp rfl) (.tmp rfl)) (.none _) ?_))
 ·exact⟨⟨p,_,rfl,d.1,d.2⟩,rfl⟩
 refine .sr<|.q .bw<|.az rfl ?_
 refine .cond rfl (λT=>?_) λT=>?_
 refine .sr<|.mo rfl<|.ag rfl<|.az rfl ?_
 refine .ret (bf (bu _ (.two (.tmp rfl) (.tmp rfl)) (.none _) ?_))
 ·exact⟨⟨p,_,rfl,d.1,d.2⟩,rfl⟩
 refine .sr<|.mo rfl<|.ag rfl<|.az rfl ?_
 refine .ret (bf (bu _ (.two (.tmp rfl) (.tmp rfl)) (.none _) ?_))
 ·exact⟨⟨p,_,rfl,d.1,d.2⟩,rfl⟩
end
end STP
namespace STP
section
variable{c:aA->aA->Int}{ok:aA->Prop}{f:FuncId}{caps:List Value} [e:aT prog f]
theorem NC(v:Value)(xs:List aA)(T:aH)(a b m:Nat)(p:aA)(R:aw)(h:OS 132 7 aA.enc v xs T)(b1:a<b)(hm:a<=m/\m<b)(C:xs[m]? =some p)(U:b<=xs.length)(hl:xs.length<=1000000000)(hf:iO prog f caps R (λt:aA=>Value.agg t.enc.toArray) c ok)(a0:∀x∈xs,ok x)(so:SO (bW c))
  (b7:∀(k:Nat) (x:aA),a<=k->k<b->xs[k]? =some x->bW c x p=false):
  Spec prog 180 [v,.int .i64 a,.int .i64 b,.int .i64 m,.func (.func f) #[] caps.toArray] R [T] λu H'=>∃T',H'=[T']/\∃ys mid,u=iN mid/\OS 132 7 aA.enc v ys T'/\RP a b xs ys/\sK (bW c) ys a mid b p:=by
 have iv:=h.aq
 obtain⟨x0,E⟩:∃x,xs[a]? =some x:=⟨_,bE (by omega)⟩
 have a8:=a0 p (aV C)
 refine Spec.body func180 rfl results180 ntmps180 rfl ?_
 refine .sr<|.ag rfl<|.zs<|.dg [13,15] mixed ?_
 refine .tO 0 rfl .move<|.tO 1 rfl .move<|.tK 2 rfl .move<|.tK 3 rfl .move<|.tO 4 rfl .move<|.tO 5 rfl .move ?_
 refine RA.bH 6 rfl (m) h C rfl rfl rfl (by kernel_rfl) (λd1=>?_)
 refine .tO 7 rfl (.aP rfl)<|.tO 8 rfl .move<|.tO 9 rfl .move ?_
 refine RA.bH 10 rfl (a) h E rfl rfl rfl (by kernel_rfl) (λd2=>?_)
 refine .tO 11 rfl (.aP rfl) ?_
 refine RA.bH 12 rfl (a) h E rfl rfl rfl (by kernel_rfl) (λd3=>?_)
 refine .sT 13 rfl ?_
 refine .eG (a) h E p (λa9 a1=>?_) (h.one _ (aV C))
 refine .nil (Next.mod rfl ?_)
 refine RA.bH 14 rfl (m) h C rfl rfl rfl (by kernel_rfl) (λd4=>?_)
 refine .sT 15 rfl ?_
 obtain⟨zz,a2⟩:∃u,(xs.set (a) p)[m]? =some u:=⟨_,bE (by rw[ad2];exact(ad1.1 C).1)⟩
 refine .eG (m) a1 a2 x0 (λY K=>?_) (h.one _ (aV E))
 rw[<-jr E C]at K
 refine .nil (Next.mod rfl ?_)
 refine RA.nil (by kernel_rfl) ?_
 have b0:RP a b xs (dS xs a m):=(RP.refl xs).step (by omega) (by omega) (by omega) (by omega) (by omega)
 have b2:(dS xs a m)[a]? =some p:=by
  rw[js (by omega) (by omega)]
  by_cases hk:a=m
  ·rw[adZ hk,E, <-C, <-hk,E]
  ·rw[ad0 hk,adZ rfl,C]
 refine ay<|.sr<|.mo rfl ?_
 refine .ia (a+1) .add ?_
 refine .mo rfl ?_
 refine .ia (b-1) .sub ?_
 refine .ag rfl<|.ag rfl<|.zs<|.block ?_
 refine .loop (X:=Nat×Nat×List aA×aH) (λy=>OS 132 7 aA.enc v y.2.2.1 y.2.2.2/\RP a b xs y.2.2.1/\PQ (λx=> !bW c p x) y.2.2.1 a y.1 y.2.1 b p) (λy=>[(0,v),(1,iN a),(4,.func (.func f) #[] caps.toArray),(11,iN y.1),(12,iN y.2.1)]) (λy=>[y.2.2.2]) (λy=>y.2.1+1-y.1) (a+1,b-1,dS xs a m,Y) ⟨K,b0,.start b1 b2⟩ kE.c.c.c.c.c rH ?_
 rintro⟨i,j,ys,N⟩ ⟨r,D,G⟩
 simp only at r D G⊢
 have d0:=D.length
 have c4:=G.i0
 have c6:=G.ij
 have c8:=G.jb
 have a7:=G.at_
 refine .block<|.seq ?_
 refine bF.cut (X:=Nat) (λs=>i<=s/\PQ (λx=> !bW c p x) ys a s j b p/\∀x,s<=j->ys[s]? =some x->(!bW c p x)=false) (λs=>[(0,v),(1,iN a),(4,.func (.func f) #[] caps.toArray),(11,.int .i64 (s:Nat)),(12,iN j)]) (λ_=>[N]) ?_ ?_
 refine .block ?_
 refine .loop (X:=Nat) (λs=>i<=s/\PQ (λx=> !bW c p x) ys a s j b p) (λs=>[(0,v),(1,iN a),(4,.func (.func f) #[] caps.toArray),(11,.int .i64 (s:Nat)),(12,iN j)]) (λ_=>[N]) (λs=>j+1-s) i ⟨adY _,G⟩ kE.c.c.c.c.c rH ?_
 rintro A ⟨V,I⟩
 refine .seq<|.seq ?_
 refine .dY 13 mixed (by kernel_rfl) ?_
 conv=>arg 6;dsimp only[List.take]
 refine .mo rfl<|.mo rfl<|.q .leq<|.mo rfl ?_
 refine .split (t:=34) rfl (λd=>?_) (λd=>?_)
 have b5:A<=j:=by have:=cq d;omega
 obtain⟨x2,L⟩:∃x,ys[A]? =some x:=⟨_,bE (by omega)⟩
 have c2:=a0 x2 (D.perm.mem_iff.1 (aV L))
 refine .gT d<|.mo rfl<|.gT d<|.mo rfl<|.gT d<|.mo rfl<|.gT d ?_
 refine .bH a r a7 (λd5=>?_)
 refine .gT d<|.q (.aP rfl)<|.gT d<|.mo rfl<|.gT d<|.mo rfl<|.gT d ?_
 refine .bH A r L (λd6=>?_)
 refine .gT d<|.q (.aP rfl)<|.nil<|.gT d ?_
 refine .fY (first:=[]) (captured:=caps) (vs:=[(λt:aA=>Value.agg t.enc.toArray) p,(λt:aA=>Value.agg t.enc.toArray) x2]) (hf p x2 a8 c2 _ (λb o U=>.inl U)) (λu hu=>?_)
 subst hu
 refine .gT d<|.q .lss<|.gT d<|.q .not<|.q (.aZ d) ?_
 refine .zn ?_
 refine .cond rfl (λO=>?_) λO=>?_
 refine .kn<|.block<|.region<|.mo rfl ?_
 refine .ia (A+1) .add ?_
 refine .ag rfl<|.nil<|bi ?_
 ·exact aW (A+1) ⟨by omega,I.inc b5 L O⟩ (by omega) kE.c.c.c.c.c rH
 refine .exit<|bz<|bG<|bB ?_
 first
  |exact aG A ⟨V,I,λx g n=>by rw[L]at n;cases n;exact O⟩ kE.c.c.c.c.c rH
  |exact aG A ⟨V,I,λx g n=>by have:=bC d;omega⟩ kE.c.c.c.c.c rH
 refine .gF d<|.gF d<|.gF d<|.gF d<|.gF d<|.gF d<|.gF d<|.gF d<|.gF d<|.nil<|.gF d<|.gF d<|.gF d<|.q (.aX d) ?_
 refine .zn<|.bQ<|.exit<|bz<|bG<|bB ?_
 first
  |exact aG A ⟨V,I,λx g n=>by rw[L]at n;cases n;exact O⟩ kE.c.c.c.c.c rH
  |exact aG A ⟨V,I,λx g n=>by have:=bC d;omega⟩ kE.c.c.c.c.c rH
 intro x g
 obtain⟨l,a4⟩:∃l,l=x:=⟨_,rfl⟩
 rw[<-a4]at g⊢
 clear a4 x
 obtain⟨c5,a3,c0⟩:=g
 refine ay<|.seq ?_
 refine bF.cut (X:=Nat) (λw=>w<=j/\PQ (λx=> !bW c p x) ys a l w b p/\∀x,l<=w->ys[w]? =some x->(!bW c p x)=true) (λw=>[(0,v),(1,iN a),(4,.func (.func f) #[] caps.toArray),(11,iN l),(12,.int .i64 (w:Nat))]) (λ_=>[N]) ?_ ?_
 refine .block ?_
 refine .loop (X:=Nat) (λw=>w<=j/\PQ (λx=> !bW c p x) ys a l w b p) (λw=>[(0,v),(1,iN a),(4,.func (.func f) #[] caps.toArray),(11,iN l),(12,.int .i64 (w:Nat))]) (λ_=>[N]) (λw=>w) j ⟨adY _,a3⟩ kE.c.c.c.c.c rH ?_
 rintro B ⟨W,J⟩
 have b4:=a3.i0
 refine .seq<|.seq ?_
 refine .dY 13 mixed (by kernel_rfl) ?_
 conv=>arg 6;dsimp only[List.take]
 refine .mo rfl<|.mo rfl<|.q .leq<|.mo rfl ?_
 refine .split (t:=53) rfl (λe=>?_) (λe=>?_)
 have b6:l<=B:=by have:=cq e;omega
 obtain⟨H,M⟩:∃x,ys[B]? =some x:=⟨_,bE (by omega)⟩
 have c3:=a0 H (D.perm.mem_iff.1 (aV M))
 refine .gT e<|.mo rfl<|.gT e<|.mo rfl<|.gT e<|.mo rfl<|.gT e ?_
 refine .bH a r a7 (λd7=>?_)
 refine .gT e<|.q (.aP rfl)<|.gT e<|.mo rfl<|.gT e<|.mo rfl<|.gT e ?_
 refine .bH B r M (λd8=>?_)
 refine .gT e<|.q (.aP rfl)<|.nil<|.gT e ?_
 refine .fY (first:=[]) (captured:=caps) (vs:=[(λt:aA=>Value.agg t.enc.toArray) p,(λt:aA=>Value.agg t.enc.toArray) H]) (hf p H a8 c3 _ (λb o U=>.inl U)) (λu hu=>?_)
 subst hu
 refine .gT e<|.q .lss<|.q (.aZ e) ?_
 refine .zn ?_
 refine .cond rfl (λQ=>?_) λQ=>?_
 refine .kn<|.block<|.region<|.mo rfl ?_
 refine .ia (B-1) .sub ?_
 refine .ag rfl<|.nil<|bi ?_
 ·have b8:bW c p H=true:=Q
  exact aW (B-1) ⟨by omega,J.dec b6 M (by rw[b8];rfl)⟩ (by omega) kE.c.c.c.c.c rH
 refine .exit<|bz<|bG<|bB ?_
 first
  |exact aG B ⟨W,J,λx g n=>by have hh:bW c p H=false:=Q;rw[M]at n;cases n;rw[hh];rfl⟩ kE.c.c.c.c.c rH
  |exact aG B ⟨W,J,λx g n=>by have:=bC e;omega⟩ kE.c.c.c.c.c rH
 refine .gF e<|.gF e<|.gF e<|.gF e<|.gF e<|.gF e<|.gF e<|.gF e<|.gF e<|.nil<|.gF e<|.gF e<|.q (.aX e) ?_
 refine .zn<|.bQ<|.exit<|bz<|bG<|bB ?_
 first
  |exact aG B ⟨W,J,λx g n=>by have hh:bW c p H=false:=Q;rw[M]at n;cases n;rw[hh];rfl⟩ kE.c.c.c.c.c rH
  |exact aG B ⟨W,J,λx g n=>by have:=bC e;omega⟩ kE.c.c.c.c.c rH
 intro x g
 obtain⟨z,a5⟩:∃z,z=x:=⟨_,rfl⟩
 rw[<-a5]at g⊢
 clear a5 x
 obtain⟨c9,S,c1⟩:=g
 have b4:=S.i0
 have c7:=S.ij
 refine ay<|.seq<|.sr<|.mo rfl<|.mo rfl<|.q .gtr<|.zn ?_
 refine .cond rfl (λZ=>?_) λZ=>?_
 refine .exit (bz (o9 (bG (bB ?_))))
 refine ay<|.sr<|.mo rfl<|.az rfl ?_
 refine .ret (bu _ (.one (.tmp rfl)) rH ?_)
 ·have b3:z<l:=cF Z
  exact⟨_,rfl,ys,l,rfl,r,D,S.K4 so b3 (D.all (p:=λx=>bW c x p=false) b7)⟩
 have a6:l<=z:=by have:=bC Z;omega
 obtain⟨x,g⟩:∃x,ys[l]? =some x:=⟨_,bE (by omega)⟩
 obtain⟨y,F⟩:∃x,ys[z]? =some x:=⟨_,bE (by omega)⟩
 have b9:=S.sw a6 (by omega) g F (c0 x (by omega) g) (c1 y a6 F)
 refine .kn<|.seq<|.dg [13,15] mixed ?_
 refine .tO 0 rfl .move<|.tO 1 rfl .move<|.tK 2 rfl .move<|.tK 3 rfl .move<|.tO 4 rfl .move<|.tO 5 rfl .move ?_
 refine RA.bH 6 rfl (z) r F rfl rfl rfl (by kernel_rfl) (λd9=>?_)
 refine .tO 7 rfl (.aP rfl)<|.tO 8 rfl .move<|.tO 9 rfl .move ?_
 refine RA.bH 10 rfl (l) r g rfl rfl rfl (by kernel_rfl) (λe0=>?_)
 refine .tO 11 rfl (.aP rfl) ?_
 refine RA.bH 12 rfl (l) r g rfl rfl rfl (by kernel_rfl) (λe1=>?_)
 refine .sT 13 rfl ?_
 refine .eG (l) r g y (λa9 a1=>?_) (r.one _ (aV F))
 refine .nil (Next.mod rfl ?_)
 refine RA.bH 14 rfl (z) r F rfl rfl rfl (by kernel_rfl) (λe2=>?_)
 refine .sT 15 rfl ?_
 obtain⟨zz,a2⟩:∃u,(ys.set (l) y)[z]? =some u:=⟨_,bE (by rw[ad2];exact(ad1.1 F).1)⟩
 refine .eG (z) a1 a2 x (λY K=>?_) (r.one _ (aV g))
 rw[<-jr g F]at K
 refine .nil (Next.mod rfl ?_)
 refine RA.nil (by kernel_rfl) ?_
 refine ay<|.sr<|.mo rfl ?_
 refine .ia (l+1) .add ?_
 refine .az rfl<|.region<|.mo rfl ?_
 refine .ia (z-1) .sub ?_
 refine .ag rfl<|.nil<|bi ?_
 ·exact aW (l+1,z-1,dS ys l z,Y) ⟨K,D.step (by omega) (by omega) (by omega) (by omega) (by omega),b9.2⟩ (by simp only;omega) kE.c.c.c.c.c rH
theorem yX(v:Value)(xs:List aA)(T:aH)(a b m:Nat)(p:aA)(R:aw)(h:OS 132 7 aA.enc v xs T)(e0:a<b)(hm:a<=m/\m<b)(U:xs[m]? =some p)(S:b<=xs.length)(hl:xs.length<=1000000000)(hf:iO prog f caps R (λt:aA=>Value.agg t.enc.toArray) c ok)(b0:∀x∈xs,ok x)(so:SO (bW c)):
  Spec prog 181 [v,.int .i64 a,.int .i64 b,.int .i64 m,.func (.func f) #[] caps.toArray] R [T] λu H'=>∃T',H'=[T']/\∃ys mid z,u=.tuple [iN mid,.bool z].toArray/\OS 132 7 aA.enc v ys T'/\RP a b xs ys/\Part (bW c) ys a mid b p:=by
 have iv:=h.aq
 obtain⟨x0,Z⟩:∃x,xs[a]? =some x:=⟨_,bE (by omega)⟩
 have c3:=b0 p (aV U)
 refine Spec.body func181 rfl results181 ntmps181 rfl ?_
 refine .sr<|.ag rfl<|.ag rfl<|.zs<|.dg [13,15] mixed ?_
 refine .tO 0 rfl .move<|.tO 1 rfl .move<|.tK 2 rfl .move<|.tK 3 rfl .move<|.tO 4 rfl .move<|.tO 5 rfl .move ?_
 refine RA.bH 6 rfl (m) h U rfl rfl rfl (by kernel_rfl) (λk0=>?_)
 refine .tO 7 rfl (.aP rfl)<|.tO 8 rfl .move<|.tO 9 rfl .move ?_
 refine RA.bH 10 rfl (a) h Z rfl rfl rfl (by kernel_rfl) (λk1=>?_)
 refine .tO 11 rfl (.aP rfl) ?_
 refine RA.bH 12 rfl (a) h Z rfl rfl rfl (by kernel_rfl) (λk4=>?_)
 refine .sT 13 rfl ?_
 refine .eG (a) h Z p (λb7 J=>?_) (h.one _ (aV U))
 refine .nil (Next.mod rfl ?_)
 refine RA.bH 14 rfl (m) h U rfl rfl rfl (by kernel_rfl) (λk5=>?_)
 refine .sT 15 rfl ?_
 obtain⟨zz,K⟩:∃u,(xs.set (a) p)[m]? =some u:=⟨_,bE (by rw[ad2];exact(ad1.1 U).1)⟩
 refine .eG (m) J K x0 (λV E=>?_) (h.one _ (aV Z))
 rw[<-jr Z U]at E
 refine .nil (Next.mod rfl ?_)
 refine RA.nil (by kernel_rfl) ?_
 have a4:RP a b xs (dS xs a m):=(RP.refl xs).step (by omega) (by omega) (by omega) (by omega) (by omega)
 have I:(dS xs a m)[a]? =some p:=by
  rw[js (by omega) (by omega)]
  by_cases hk:a=m
  ·rw[adZ hk,Z, <-U, <-hk,Z]
  ·rw[ad0 hk,adZ rfl,U]
 obtain⟨D,d5⟩:∃D,D=dS xs a m:=⟨_,rfl⟩
 rw[<-d5]at E a4 I
 obtain⟨T0,d9⟩:∃T0,T0=V:=⟨_,rfl⟩
 rw[<-d9]at E⊢
 have h8:=a4.length
 have A:=E
 clear E
 have d8:PQ (λx=>bW c x p) D a (a+1) (b-1) b p:=.start e0 I
 clear d5
 refine ay<|.sr<|.mo rfl ?_
 refine .ia (a+1) .add ?_
 refine .mo rfl ?_
 refine .ia (b-1) .sub ?_
 refine .ag rfl<|.ag rfl<|.zs ?_
 refine bF.cut (X:=Nat) (λs=>PQ (λx=>bW c x p) D a s (b-1) b p/\∀x,s<=b-1->D[s]? =some x->bW c x p=false) (λs=>[(0,v),(1,iN a),(4,.func (.func f) #[] caps.toArray),(12,.int .i64 (s:Nat)),(13,.int .i64 ((b-1:Nat):Int))]) (λ_=>[T0]) ?_ ?_
 refine .block ?_
 refine .loop (X:=Nat) (λs=>PQ (λx=>bW c x p) D a s (b-1) b p) (λs=>[(0,v),(1,iN a),(4,.func (.func f) #[] caps.toArray),(12,.int .i64 (s:Nat)),(13,.int .i64 ((b-1:Nat):Int))]) (λ_=>[T0]) (λs=>b-s) (a+1) d8 kE.c.c.c.c.c rH ?_
 rintro L a6
 refine .seq<|.seq ?_
 refine .dY 13 mixed (by kernel_rfl) ?_
 conv=>arg 6;dsimp only[List.take]
 refine .mo rfl<|.mo rfl<|.q .leq<|.mo rfl ?_
 refine .split (t:=35) rfl (λn=>?_) (λn=>?_)
 have e4:L<=b-1:=by have:=cq n;omega
 obtain⟨x2,b2⟩:∃x,D[L]? =some x:=⟨_,bE (by omega)⟩
 have f6:=b0 x2 (a4.perm.mem_iff.1 (aV b2))
 refine .gT n<|.mo rfl<|.gT n<|.mo rfl<|.gT n<|.mo rfl<|.gT n ?_
 refine .bH L A b2 (λk6=>?_)
 refine .gT n<|.q (.aP rfl)<|.gT n<|.mo rfl<|.gT n<|.mo rfl<|.gT n ?_
 refine .bH a A I (λk7=>?_)
 refine .gT n<|.q (.aP rfl)<|.nil<|.gT n ?_
 refine .fY (first:=[]) (captured:=caps) (vs:=[(λt:aA=>Value.agg t.enc.toArray) x2,(λt:aA=>Value.agg t.enc.toArray) p]) (hf x2 p f6 c3 _ (λb o S=>.inl S)) (λu Y=>?_)
 subst Y
 refine .gT n<|.q .lss<|.q (.aZ n) ?_
 refine .zn ?_
 refine .cond rfl (λh1=>?_) λh1=>?_
 refine .kn<|.block<|.region<|.mo rfl ?_
 refine .ia (L+1) .add ?_
 refine .ag rfl<|.nil<|bi ?_
 ·exact aW (L+1) (a6.inc e4 b2 h1) (by omega) kE.c.c.c.c.c rH
 refine .exit<|bz<|bG<|bB ?_
 first
  |exact aG L ⟨a6,λx d e=>by rw[b2]at e;cases e;exact h1⟩ kE.c.c.c.c.c rH
  |exact aG L ⟨a6,λx d e=>by have:=bC n;omega⟩ kE.c.c.c.c.c rH
 refine .gF n<|.gF n<|.gF n<|.gF n<|.gF n<|.gF n<|.gF n<|.gF n<|.gF n<|.nil<|.gF n<|.gF n<|.q (.aX n) ?_
 refine .zn<|.bQ<|.exit<|bz<|bG<|bB ?_
 first
  |exact aG L ⟨a6,λx d e=>by rw[b2]at e;cases e;exact h1⟩ kE.c.c.c.c.c rH
  |exact aG L ⟨a6,λx d e=>by have:=bC n;omega⟩ kE.c.c.c.c.c rH
 intro x d
 obtain⟨B,c7⟩:∃B,B=x:=⟨_,rfl⟩
 rw[<-c7]at d⊢
 clear c7 x
 obtain⟨c5,f2⟩:=d
 refine ay<|.seq ?_
 refine bF.cut (X:=Nat) (λr=>r<=b-1/\PQ (λx=>bW c x p) D a B r b p/\∀x,B<=r->D[r]? =some x->bW c x p=true) (λr=>[(0,v),(1,iN a),(4,.func (.func f) #[] caps.toArray),(12,iN B),(13,.int .i64 (r:Nat))]) (λ_=>[T0]) ?_ ?_
 refine .block ?_
 refine .loop (X:=Nat) (λr=>r<=b-1/\PQ (λx=>bW c x p) D a B r b p) (λr=>[(0,v),(1,iN a),(4,.func (.func f) #[] caps.toArray),(12,iN B),(13,.int .i64 (r:Nat))]) (λ_=>[T0]) (λr=>r) (b-1) ⟨adY _,c5⟩ kE.c.c.c.c.c rH ?_
 rintro M ⟨c0,a7⟩
 have e2:=c5.i0
 refine .seq<|.seq ?_
 refine .dY 13 mixed (by kernel_rfl) ?_
 conv=>arg 6;dsimp only[List.take]
 refine .mo rfl<|.mo rfl<|.q .leq<|.mo rfl ?_
 refine .split (t:=53) rfl (λk=>?_) (λk=>?_)
 have e5:B<=M:=by have:=cq k;omega
 obtain⟨x4,b3⟩:∃x,D[M]? =some x:=⟨_,bE (by omega)⟩
 have f7:=b0 x4 (a4.perm.mem_iff.1 (aV b3))
 refine .gT k<|.mo rfl<|.gT k<|.mo rfl<|.gT k<|.mo rfl<|.gT k ?_
 refine .bH M A b3 (λk8=>?_)
 refine .gT k<|.q (.aP rfl)<|.gT k<|.mo rfl<|.gT k<|.mo rfl<|.gT k ?_
 refine .bH a A I (λk9=>?_)
 refine .gT k<|.q (.aP rfl)<|.nil<|.gT k ?_
 refine .fY (first:=[]) (captured:=caps) (vs:=[(λt:aA=>Value.agg t.enc.toArray) x4,(λt:aA=>Value.agg t.enc.toArray) p]) (hf x4 p f7 c3 _ (λb o S=>.inl S)) (λu Y=>?_)
 subst Y
 refine .gT k<|.q .lss<|.gT k<|.q .not<|.q (.aZ k) ?_
 refine .zn ?_
 refine .cond rfl (λh2=>?_) λh2=>?_
 refine .kn<|.block<|.region<|.mo rfl ?_
 refine .ia (M-1) .sub ?_
 refine .ag rfl<|.nil<|bi ?_
 ·have e8:bW c x4 p=false:=by
   have d6:(!bW c x4 p)=true:=h2
   simpa using d6
  exact aW (M-1) ⟨by omega,a7.dec e5 b3 e8⟩ (by omega) kE.c.c.c.c.c rH
 refine .exit<|bz<|bG<|bB ?_
 first
  |exact aG M ⟨c0,a7,λx d e=>by
    have W:(!bW c x4 p)=false:=h2
    rw[b3]at e;cases e
    simpa using W⟩ kE.c.c.c.c.c rH
  |exact aG M ⟨c0,a7,λx d e=>by have:=bC k;omega⟩ kE.c.c.c.c.c rH
 refine .gF k<|.gF k<|.gF k<|.gF k<|.gF k<|.gF k<|.gF k<|.gF k<|.gF k<|.nil<|.gF k<|.gF k<|.gF k<|.q (.aX k) ?_
 refine .zn<|.bQ<|.exit<|bz<|bG<|bB ?_
 first
  |exact aG M ⟨c0,a7,λx d e=>by
    have W:(!bW c x4 p)=false:=h2
    rw[b3]at e;cases e
    simpa using W⟩ kE.c.c.c.c.c rH
  |exact aG M ⟨c0,a7,λx d e=>by have:=bC k;omega⟩ kE.c.c.c.c.c rH
 intro x d
 obtain⟨w,c8⟩:∃w,w=x:=⟨_,rfl⟩
 rw[<-c8]at d⊢
 clear c8 x
 obtain⟨g9,b8,f3⟩:=d
 have e2:=b8.i0
 have g3:=b8.ij
 refine ay<|.seq<|.sr<|.mo rfl<|.mo rfl<|.q .gtr<|.zn ?_
 refine .cond rfl (λh3=>?_) λh3=>?_
 have e1:w<B:=cF h3
 obtain⟨y,G⟩:∃x,D[w]? =some x:=⟨_,bE (by omega)⟩
 refine .seq<|.dg [13,15] mixed ?_
 refine .tO 0 rfl .move<|.tO 1 rfl .move<|.tK 2 rfl .move<|.tK 3 rfl .move<|.tO 4 rfl .move<|.tO 5 rfl .move ?_
 refine RA.bH 6 rfl (a) A I rfl rfl rfl (by kernel_rfl) (λl0=>?_)
 refine .tO 7 rfl (.aP rfl)<|.tO 8 rfl .move<|.tO 9 rfl .move ?_
 refine RA.bH 10 rfl (w) A G rfl rfl rfl (by kernel_rfl) (λl1=>?_)
 refine .tO 11 rfl (.aP rfl) ?_
 refine RA.bH 12 rfl (w) A G rfl rfl rfl (by kernel_rfl) (λl2=>?_)
 refine .sT 13 rfl ?_
 refine .eG (w) A G p (λb7 J=>?_) (A.one _ (aV I))
 refine .nil (Next.mod rfl ?_)
 refine RA.bH 14 rfl (a) A I rfl rfl rfl (by kernel_rfl) (λl3=>?_)
 refine .sT 15 rfl ?_
 obtain⟨zz,K⟩:∃u,(D.set (w) p)[a]? =some u:=⟨_,bE (by rw[ad2];exact(ad1.1 I).1)⟩
 refine .eG (a) J K y (λV E=>?_) (A.one _ (aV G))
 rw[<-jr G I]at E
 refine .nil (Next.mod rfl ?_)
 refine RA.nil (by kernel_rfl) ?_
 refine ay<|.sr<|.mo rfl<|.ag rfl<|.az rfl ?_
 refine .ret (aI (bu _ (.two (.tmp rfl) (.tmp rfl)) rH ?_))
 ·exact⟨_,rfl,dS D w a,w,true,rfl,E,a4.step (by omega) (by omega) (by omega) (by omega) (by omega),b8.fin e1 (by omega)⟩
 have d1:B<=w:=by have:=bC h3;omega
 obtain⟨x,d⟩:∃x,D[B]? =some x:=⟨_,bE (by omega)⟩
 obtain⟨y,G⟩:∃x,D[w]? =some x:=⟨_,bE (by omega)⟩
 have f0:=b8.sw d1 (by omega) d G (f2 x (by omega) d) (f3 y d1 G)
 refine .kn<|.seq<|.dg [13,15] mixed ?_
 refine .tO 0 rfl .move<|.tO 1 rfl .move<|.tK 2 rfl .move<|.tK 3 rfl .move<|.tO 4 rfl .move<|.tO 5 rfl .move ?_
 refine RA.bH 6 rfl (w) A G rfl rfl rfl (by kernel_rfl) (λl4=>?_)
 refine .tO 7 rfl (.aP rfl)<|.tO 8 rfl .move<|.tO 9 rfl .move ?_
 refine RA.bH 10 rfl (B) A d rfl rfl rfl (by kernel_rfl) (λl5=>?_)
 refine .tO 11 rfl (.aP rfl) ?_
 refine RA.bH 12 rfl (B) A d rfl rfl rfl (by kernel_rfl) (λl6=>?_)
 refine .sT 13 rfl ?_
 refine .eG (B) A d y (λb7 J=>?_) (A.one _ (aV G))
 refine .nil (Next.mod rfl ?_)
 refine RA.bH 14 rfl (w) A G rfl rfl rfl (by kernel_rfl) (λi1=>?_)
 refine .sT 15 rfl ?_
 obtain⟨zz,K⟩:∃u,(D.set (B) y)[w]? =some u:=⟨_,bE (by rw[ad2];exact(ad1.1 G).1)⟩
 refine .eG (w) J K x (λV E=>?_) (A.one _ (aV d))
 rw[<-jr d G]at E
 refine .nil (Next.mod rfl ?_)
 refine RA.nil (by kernel_rfl) ?_
 refine ay<|.sr<|.mo rfl ?_
 refine .ia (B+1) .add ?_
 refine .ag rfl<|.z<|.mo rfl ?_
 refine .ia (w-1) .sub ?_
 refine .ag rfl<|.zs ?_
 refine bF.cut (X:=Nat×Nat×List aA×aH) (λy=>OS 132 7 aA.enc v y.2.2.1 y.2.2.2/\RP a b xs y.2.2.1/\PQ (λx=>bW c x p) y.2.2.1 a y.1 y.2.1 b p/\y.2.1<y.1) (λy=>[(0,v),(1,iN a),(4,.func (.func f) #[] caps.toArray),(12,iN y.1),(13,iN y.2.1)]) (λy=>[y.2.2.2]) ?_ ?_
 refine .block ?_
 refine .loop (X:=Nat×Nat×List aA×aH) (λy=>OS 132 7 aA.enc v y.2.2.1 y.2.2.2/\RP a b xs y.2.2.1/\PQ (λx=>bW c x p) y.2.2.1 a y.1 y.2.1 b p) (λy=>[(0,v),(1,iN a),(4,.func (.func f) #[] caps.toArray),(12,iN y.1),(13,iN y.2.1)]) (λy=>[y.2.2.2]) (λy=>y.2.1+1-y.1) (B+1,w-1,dS D B w,V) ⟨E,a4.step (by omega) (by omega) (by omega) (by omega) (by omega),f0.2⟩ kE.c.c.c.c.c rH ?_
 rintro⟨i,j,ys,T1⟩ ⟨F,a5,a2⟩
 simp only at F a5 a2⊢
 have h7:=a5.length
 have g0:=a2.i0
 have g2:=a2.ij
 have g7:=a2.jb
 have d4:=a2.at_
 refine .block<|.seq ?_
 refine bF.cut (X:=Nat) (λs=>i<=s/\PQ (λx=>bW c x p) ys a s j b p/\∀x,s<=j->ys[s]? =some x->bW c x p=false) (λs=>[(0,v),(1,iN a),(4,.func (.func f) #[] caps.toArray),(12,.int .i64 (s:Nat)),(13,iN j)]) (λ_=>[T1]) ?_ ?_
 refine .block ?_
 refine .loop (X:=Nat) (λs=>i<=s/\PQ (λx=>bW c x p) ys a s j b p) (λs=>[(0,v),(1,iN a),(4,.func (.func f) #[] caps.toArray),(12,.int .i64 (s:Nat)),(13,iN j)]) (λ_=>[T1]) (λs=>j+1-s) i ⟨adY _,a2⟩ kE.c.c.c.c.c rH ?_
 rintro N ⟨c1,a8⟩
 refine .seq<|.seq ?_
 refine .dY 13 mixed (by kernel_rfl) ?_
 conv=>arg 6;dsimp only[List.take]
 refine .mo rfl<|.mo rfl<|.q .leq<|.mo rfl ?_
 refine .split (t:=108) rfl (λl=>?_) (λl=>?_)
 have e6:N<=j:=by have:=cq l;omega
 obtain⟨x6,b4⟩:∃x,ys[N]? =some x:=⟨_,bE (by omega)⟩
 have f8:=b0 x6 (a5.perm.mem_iff.1 (aV b4))
 refine .gT l<|.mo rfl<|.gT l<|.mo rfl<|.gT l<|.mo rfl<|.gT l ?_
 refine .bH N F b4 (λi4=>?_)
 refine .gT l<|.q (.aP rfl)<|.gT l<|.mo rfl<|.gT l<|.mo rfl<|.gT l ?_
 refine .bH a F d4 (λi5=>?_)
 refine .gT l<|.q (.aP rfl)<|.nil<|.gT l ?_
 refine .fY (first:=[]) (captured:=caps) (vs:=[(λt:aA=>Value.agg t.enc.toArray) x6,(λt:aA=>Value.agg t.enc.toArray) p]) (hf x6 p f8 c3 _ (λb o S=>.inl S)) (λu Y=>?_)
 subst Y
 refine .gT l<|.q .lss<|.q (.aZ l) ?_
 refine .zn ?_
 refine .cond rfl (λh4=>?_) λh4=>?_
 refine .kn<|.block<|.region<|.mo rfl ?_
 refine .ia (N+1) .add ?_
 refine .ag rfl<|.nil<|bi ?_
 ·exact aW (N+1) ⟨by omega,a8.inc e6 b4 h4⟩ (by omega) kE.c.c.c.c.c rH
 refine .exit<|bz<|bG<|bB ?_
 first
  |exact aG N ⟨c1,a8,λx d e=>by rw[b4]at e;cases e;exact h4⟩ kE.c.c.c.c.c rH
  |exact aG N ⟨c1,a8,λx d e=>by have:=bC l;omega⟩ kE.c.c.c.c.c rH
 refine .gF l<|.gF l<|.gF l<|.gF l<|.gF l<|.gF l<|.gF l<|.gF l<|.gF l<|.nil<|.gF l<|.gF l<|.q (.aX l) ?_
 refine .zn<|.bQ<|.exit<|bz<|bG<|bB ?_
 first
  |exact aG N ⟨c1,a8,λx d e=>by rw[b4]at e;cases e;exact h4⟩ kE.c.c.c.c.c rH
  |exact aG N ⟨c1,a8,λx d e=>by have:=bC l;omega⟩ kE.c.c.c.c.c rH
 intro x d
 obtain⟨C,d0⟩:∃C,C=x:=⟨_,rfl⟩
 rw[<-d0]at d⊢
 clear d0 x
 obtain⟨g6,c6,f4⟩:=d
 refine ay<|.seq ?_
 refine bF.cut (X:=Nat) (λr=>r<=j/\PQ (λx=>bW c x p) ys a C r b p/\∀x,C<=r->ys[r]? =some x->bW c x p=true) (λr=>[(0,v),(1,iN a),(4,.func (.func f) #[] caps.toArray),(12,iN C),(13,.int .i64 (r:Nat))]) (λ_=>[T1]) ?_ ?_
 refine .block ?_
 refine .loop (X:=Nat) (λr=>r<=j/\PQ (λx=>bW c x p) ys a C r b p) (λr=>[(0,v),(1,iN a),(4,.func (.func f) #[] caps.toArray),(12,iN C),(13,.int .i64 (r:Nat))]) (λ_=>[T1]) (λr=>r) j ⟨adY _,c6⟩ kE.c.c.c.c.c rH ?_
 rintro O ⟨c2,a9⟩
 have e3:=c6.i0
 refine .seq<|.seq ?_
 refine .dY 13 mixed (by kernel_rfl) ?_
 conv=>arg 6;dsimp only[List.take]
 refine .mo rfl<|.mo rfl<|.q .leq<|.mo rfl ?_
 refine .split (t:=126) rfl (λg=>?_) (λg=>?_)
 have e7:C<=O:=by have:=cq g;omega
 obtain⟨x7,b5⟩:∃x,ys[O]? =some x:=⟨_,bE (by omega)⟩
 have f9:=b0 x7 (a5.perm.mem_iff.1 (aV b5))
 refine .gT g<|.mo rfl<|.gT g<|.mo rfl<|.gT g<|.mo rfl<|.gT g ?_
 refine .bH O F b5 (λi6=>?_)
 refine .gT g<|.q (.aP rfl)<|.gT g<|.mo rfl<|.gT g<|.mo rfl<|.gT g ?_
 refine .bH a F d4 (λi7=>?_)
 refine .gT g<|.q (.aP rfl)<|.nil<|.gT g ?_
 refine .fY (first:=[]) (captured:=caps) (vs:=[(λt:aA=>Value.agg t.enc.toArray) x7,(λt:aA=>Value.agg t.enc.toArray) p]) (hf x7 p f9 c3 _ (λb o S=>.inl S)) (λu Y=>?_)
 subst Y
 refine .gT g<|.q .lss<|.gT g<|.q .not<|.q (.aZ g) ?_
 refine .zn ?_
 refine .cond rfl (λh5=>?_) λh5=>?_
 refine .kn<|.block<|.region<|.mo rfl ?_
 refine .ia (O-1) .sub ?_
 refine .ag rfl<|.nil<|bi ?_
 ·have e9:bW c x7 p=false:=by
   have d7:(!bW c x7 p)=true:=h5
   simpa using d7
  exact aW (O-1) ⟨by omega,a9.dec e7 b5 e9⟩ (by omega) kE.c.c.c.c.c rH
 refine .exit<|bz<|bG<|bB ?_
 first
  |exact aG O ⟨c2,a9,λx d e=>by
    have W:(!bW c x7 p)=false:=h5
    rw[b5]at e;cases e
    simpa using W⟩ kE.c.c.c.c.c rH
  |exact aG O ⟨c2,a9,λx d e=>by have:=bC g;omega⟩ kE.c.c.c.c.c rH
 refine .gF g<|.gF g<|.gF g<|.gF g<|.gF g<|.gF g<|.gF g<|.gF g<|.gF g<|.nil<|.gF g<|.gF g<|.gF g<|.q (.aX g) ?_
 refine .zn<|.bQ<|.exit<|bz<|bG<|bB ?_
 first
  |exact aG O ⟨c2,a9,λx d e=>by
    have W:(!bW c x7 p)=false:=h5
    rw[b5]at e;cases e
    simpa using W⟩ kE.c.c.c.c.c rH
  |exact aG O ⟨c2,a9,λx d e=>by have:=bC g;omega⟩ kE.c.c.c.c.c rH
 intro x d
 obtain⟨H,d3⟩:∃H,H=x:=⟨_,rfl⟩
 rw[<-d3]at d⊢
 clear d3 x
 obtain⟨h0,b9,f5⟩:=d
 have e3:=b9.i0
 have g4:=b9.ij
 refine ay<|.seq<|.sr<|.mo rfl<|.mo rfl<|.q .gtr<|.zn ?_
 refine .cond rfl (λh6=>?_) λh6=>?_
 refine .exit (bz (o9 (bG (bB ?_))))
 exact aG (C,H,ys,T1) ⟨F,a5,b9,by have:=cq h6;simp only;omega⟩ kE.c.c.c.c.c rH
 have d2:C<=H:=by have:=bC h6;omega
 obtain⟨x8,a0⟩:∃x,ys[C]? =some x:=⟨_,bE (by omega)⟩
 obtain⟨y8,a1⟩:∃x,ys[H]? =some x:=⟨_,bE (by omega)⟩
 have f1:=b9.sw d2 (by omega) a0 a1 (f4 x8 (by omega) a0) (f5 y8 d2 a1)
 refine .kn<|.seq<|.dg [13,15] mixed ?_
 refine .tO 0 rfl .move<|.tO 1 rfl .move<|.tK 2 rfl .move<|.tK 3 rfl .move<|.tO 4 rfl .move<|.tO 5 rfl .move ?_
 refine RA.bH 6 rfl (H) F a1 rfl rfl rfl (by kernel_rfl) (λi8=>?_)
 refine .tO 7 rfl (.aP rfl)<|.tO 8 rfl .move<|.tO 9 rfl .move ?_
 refine RA.bH 10 rfl (C) F a0 rfl rfl rfl (by kernel_rfl) (λj0=>?_)
 refine .tO 11 rfl (.aP rfl) ?_
 refine RA.bH 12 rfl (C) F a0 rfl rfl rfl (by kernel_rfl) (λj1=>?_)
 refine .sT 13 rfl ?_
 refine .eG (C) F a0 y8 (λb7 J=>?_) (F.one _ (aV a1))
 refine .nil (Next.mod rfl ?_)
 refine RA.bH 14 rfl (H) F a1 rfl rfl rfl (by kernel_rfl) (λj4=>?_)
 refine .sT 15 rfl ?_
 obtain⟨zz,K⟩:∃u,(ys.set (C) y8)[H]? =some u:=⟨_,bE (by rw[ad2];exact(ad1.1 a1).1)⟩
 refine .eG (H) J K x8 (λV E=>?_) (F.one _ (aV a0))
 rw[<-jr a0 a1]at E
 refine .nil (Next.mod rfl ?_)
 refine RA.nil (by kernel_rfl) ?_
 refine ay<|.sr<|.mo rfl ?_
 refine .ia (C+1) .add ?_
 refine .az rfl<|.region<|.mo rfl ?_
 refine .ia (H-1) .sub ?_
 refine .ag rfl<|.nil<|bi ?_
 ·exact aW (C+1,H-1,dS ys C H,V) ⟨E,a5.step (by omega) (by omega) (by omega) (by omega) (by omega),f1.2⟩ (by simp only;omega) kE.c.c.c.c.c rH
 intro x d
 obtain⟨i9,j9,zs,T9⟩:=x
 obtain⟨Q,c4,a3,c9⟩:=d
 simp only at Q c4 a3 c9⊢
 have h9:=c4.length
 have g5:=a3.ij
 have g1:=a3.i0
 have g8:=a3.jb
 have b1:=a3.at_
 obtain⟨y9,b6⟩:∃x,zs[j9]? =some x:=⟨_,bE (by omega)⟩
 refine ay<|.seq<|.dg [13,15] mixed ?_
 refine .tO 0 rfl .move<|.tO 1 rfl .move<|.tK 2 rfl .move<|.tK 3 rfl .move<|.tO 4 rfl .move<|.tO 5 rfl .move ?_
 refine RA.bH 6 rfl (a) Q b1 rfl rfl rfl (by kernel_rfl) (λj5=>?_)
 refine .tO 7 rfl (.aP rfl)<|.tO 8 rfl .move<|.tO 9 rfl .move ?_
 refine RA.bH 10 rfl (j9) Q b6 rfl rfl rfl (by kernel_rfl) (λj6=>?_)
 refine .tO 11 rfl (.aP rfl) ?_
 refine RA.bH 12 rfl (j9) Q b6 rfl rfl rfl (by kernel_rfl) (λj7=>?_)
 refine .sT 13 rfl ?_
 refine .eG (j9) Q b6 p (λb7 J=>?_) (Q.one _ (aV b1))
 refine .nil (Next.mod rfl ?_)
 refine RA.bH 14 rfl (a) Q b1 rfl rfl rfl (by kernel_rfl) (λj8=>?_)
 refine .sT 15 rfl ?_
 obtain⟨zz,K⟩:∃u,(zs.set (j9) p)[a]? =some u:=⟨_,bE (by rw[ad2];exact(ad1.1 b1).1)⟩
 refine .eG (a) J K y9 (λV E=>?_) (Q.one _ (aV b6))
 rw[<-jr b6 b1]at E
 refine .nil (Next.mod rfl ?_)
 refine RA.nil (by kernel_rfl) ?_
 refine ay<|.sr<|.mo rfl<|.ag rfl<|.az rfl ?_
 refine .ret (bu _ (.two (.tmp rfl) (.tmp rfl)) rH ?_)
 ·exact⟨_,rfl,dS zs j9 a,j9,false,rfl,E,c4.step (by omega) (by omega) (by omega) (by omega) (by omega),a3.fin c9 (by omega)⟩
end
end STP
namespace STP
section
variable{c:aA->aA->Int}{ok:aA->Prop}{f:FuncId}{caps:List Value} [e:aT prog f]
def vh(c:aA->aA->Int)(ok:aA->Prop)(f:FuncId)(caps:List Value)(n:Nat):Prop:=∀(v:Value) (xs:List aA) (T:aH) (a b pQ:Nat) (R:aw),OS 132 7 aA.enc v xs T->a<=b->b<=xs.length->xs.length<=1000000000->pQ<=1000000000->iO prog f caps R (λt:aA=>Value.agg t.enc.toArray) c ok->(∀x∈xs,ok x)->LB (bW c) xs a b->b-a<n->
  Spec prog 141 [v,.int .i64 a,.int .i64 b,.int .i64 pQ,.func (.func f) #[] caps.toArray] R [T] λu H'=>∃T',H'=[T']/\u=.tuple #[]/\∃ys,OS 132 7 aA.enc v ys T'/\RP a b xs ys/\SR (bW c) ys a b
theorem NH(n:Nat)(ih:vh c ok f caps n)(D:SO (bW c))(v:Value)(xs:List aA)(T:aH)(H F c7:Nat)(R:aw)(h:OS 132 7 aA.enc v xs T)(d6:H<=F)(hb:F<=xs.length)(hl:xs.length<=1000000000)(e0:c7<=1000000000)(O:iO prog f caps R (λt:aA=>Value.agg t.enc.toArray) c ok)(e2:∀x∈xs,ok x)(d8:LB (bW c) xs H F)(hn:F-H<n+1):
  Spec prog 141 [v,.int .i64 H,.int .i64 F,.int .i64 c7,.func (.func f) #[] caps.toArray] R [T] λu H'=>∃T',H'=[T']/\u=.tuple #[]/\∃ys,OS 132 7 aA.enc v ys T'/\RP H F xs ys/\SR (bW c) ys H F:=by
 have iv:=h.aq
 refine Spec.body func141 rfl results141 ntmps141 rfl ?_
 refine .sr<|.ag rfl<|.z<|.az rfl<|.block ?_
 refine .loop (X:=Nat×Nat×Nat×Bool×Bool×List aA×aH) (λy=>(H<=y.1/\y.1<=y.2.1/\y.2.1<=F/\y.2.2.1<=1000000000)/\OS 132 7 aA.enc v y.2.2.2.2.2.1 y.2.2.2.2.2.2/\RP H F xs y.2.2.2.2.2.1/\OX (bW c) y.2.2.2.2.2.1 H F y.1 y.2.1) (λy=>[(0,v),(1,iN y.1),(2,iN y.2.1),(3,iN y.2.2.1),(4,.func (.func f) #[] caps.toArray),(10,.bool y.2.2.2.1),(11,.bool y.2.2.2.2.1)]) (λy=>[y.2.2.2.2.2.2]) (λy=>y.2.1-y.1) (H,F,c7,true,true,xs,T) ⟨⟨adY _,d6,adY _,e0⟩,h,.refl _,.start⟩ kE.c.c.c.c.c.c.c rH ?_
 rintro⟨a,b,l,wb,wp,ys,T1⟩ ⟨⟨e,c1,g,d7⟩,b1,U,Z⟩
 simp only at e c1 g d7 b1 U Z⊢
 have f0:=U.length
 have b8:∀x∈ys,ok x:=λx W=>e2 x (U.perm.mem_iff.1 W)
 have d1:=Z.lb (d8.rp U) e g
 refine .block<|.sr<|.mo rfl<|.mo rfl ?_
 refine .ia (b-a) .sub ?_
 refine .ag rfl<|.zs<|.sr<|.mo rfl<|.q .leq<|.zn ?_
 refine .cond rfl (λh1=>?_) λh1=>?_
 refine .sr<|.mo rfl<|.mo rfl<|.mo rfl<|.mo rfl ?_
 refine .cr (Lt v ys T1 a b _ b1 c1 (by omega) (by omega) O b8 D) (λu T2 k=>?_)
 obtain⟨rfl,N,I,B,c0⟩:=k
 refine .zn ?_
 refine .ret (aI (bf (cK (bf (bu _ .none rH ?_)))))
 ·first
   |exact⟨_,rfl,rfl,N,I,U.trans (B.mono e g (by omega)),(Z.rp B e g).n3 c0⟩
   |exact⟨_,rfl,rfl,ms,a2,U.trans ((C.trans Y).mono e g (by omega)),(Z.rp (C.trans Y) e g).n3 (c4 (by assumption))⟩
 have f4:12<b-a:=by have:=bC h1;omega
 refine .kn<|.seq<|.sr<|.mo rfl<|.q .bw<|.zn ?_
 refine .cond rfl (λh2=>?_) λh2=>?_
 refine .sr<|.mo rfl<|.mo rfl<|.mo rfl<|.mo rfl ?_
 refine .cr (Ln v ys T1 a b _ b1 c1 (by omega) (by omega) O b8 D) (λu T2 k=>?_)
 obtain⟨rfl,N,I,B,c0⟩:=k
 refine .zn ?_
 refine .ret (aI (bf (cK (bf (bu _ .none rH ?_)))))
 ·first
   |exact⟨_,rfl,rfl,N,I,U.trans (B.mono e g (by omega)),(Z.rp B e g).n3 c0⟩
   |exact⟨_,rfl,rfl,ms,a2,U.trans ((C.trans Y).mono e g (by omega)),(Z.rp (C.trans Y) e g).n3 (c4 (by assumption))⟩
 have e9:0<l:=by
  have e8:¬((l:Int)=0):=by simpa using h2
  omega
 refine .kn<|.seq ?_
 refine bF.cut (X:=Nat×List aA×aH) (λz=>z.1<=1000000000/\OS 132 7 aA.enc v z.2.1 z.2.2/\RP a b ys z.2.1) (λz=>[(0,v),(1,iN a),(2,iN b),(3,iN z.1),(4,.func (.func f) #[] caps.toArray),(10,.bool wb),(11,.bool wp),(12,.int .i64 ((b-a:Nat):Int))]) (λz=>[z.2.2]) ?_ ?_
 refine .sr<|.mo rfl<|.q .not<|.zn ?_
 refine .cond rfl (λh3=>?_) λh3=>?_
 refine .sr<|.mo rfl<|.mo rfl<|.mo rfl<|.mo rfl ?_
 refine .cr (Bc v ys T1 a b _ (.func (.func f) #[] caps.toArray) inferInstance b1 c1 (by omega) (by omega)) (λu T2 k=>?_)
 obtain⟨rfl,N,I,B⟩:=k
 refine .zn<|.region<|.mo rfl ?_
 refine .ia (l-1) .sub ?_
 refine .ag rfl<|.nil ?_
 ·first
   |exact aG (l-1,N,T2) ⟨by simp only;omega,I,B⟩ kE.c.c.c.c.c.c.c.c rH
   |exact aG (l,ys,T1) ⟨by simp only;omega,b1,.refl _⟩ kE.c.c.c.c.c.c.c.c rH
 refine .skip ?_
 ·first
   |exact aG (l-1,N,T2) ⟨by simp only;omega,I,B⟩ kE.c.c.c.c.c.c.c.c rH
   |exact aG (l,ys,T1) ⟨by simp only;omega,b1,.refl _⟩ kE.c.c.c.c.c.c.c.c rH
 intro y hy
 obtain⟨r,N,T2⟩:=y
 obtain⟨s,I,B⟩:=hy
 simp only at s I B⊢
 have f1:=B.length
 have e3:∀x∈N,ok x:=λx W=>b8 x (B.perm.mem_iff.1 W)
 refine ay<|.sr<|.mo rfl<|.mo rfl<|.mo rfl<|.mo rfl ?_
 refine .aR (choose_spec v N a b _ (I.rs λp hp=>.inr (by simpa using hp)) (by omega) (by omega) (by omega) (O.mono λb o hb=>.inl hb) e3) (λu k=>?_)
 obtain⟨pv,d0,rfl,d2,d3⟩:=k
 refine .mo rfl<|.q .extract<|.q .extract<|.ag rfl<|.ag rfl<|.zs ?_
 refine bF.cut (X:=Nat×Int×List aA×aH) (λz=>(a<=z.1/\z.1<b)/\OS 132 7 aA.enc v z.2.2.1 z.2.2.2/\RP a b ys z.2.2.1) (λz=>[(0,v),(1,iN a),(2,iN b),(3,iN r),(4,.func (.func f) #[] caps.toArray),(10,.bool wb),(11,.bool wp),(12,.int .i64 ((b-a:Nat):Int)),(13,iN z.1),(14,.int .i64 z.2.1)]) (λz=>[z.2.2.2]) ?_ ?_
 refine .sr<|.mo rfl<|.q .bw<|.zn ?_
 refine .cond rfl (λh4=>?_) λh4=>?_
 refine .sr<|.mo rfl<|.mo rfl<|.mo rfl<|.mo rfl ?_
 refine .cr (N9 v N T2 a b _ (.func (.func f) #[] caps.toArray) inferInstance I (by omega) (by omega) (by omega)) (λu T3 k=>?_)
 obtain⟨rfl,ws,c8,c9⟩:=k
 refine .z<|.mo rfl ?_
 refine .ia (b-1) .sub ?_
 refine .mo rfl<|.mo rfl ?_
 refine .ia (pv-a) .sub ?_
 refine .ia ((b-1)-(pv-a)) .sub ?_
 refine .az rfl<|.region<|.ag rfl<|.nil ?_
 ·first
   |exact aG ((b-1)-(pv-a),1,ws,T3) ⟨by simp only;omega,c8,B.trans c9⟩ kE.c.c.c.c.c.c.c.c.c.c rH
   |exact aG (pv,d0,N,T2) ⟨⟨d2,d3⟩,I,B⟩ kE.c.c.c.c.c.c.c.c.c.c rH
 refine .skip ?_
 ·first
   |exact aG ((b-1)-(pv-a),1,ws,T3) ⟨by simp only;omega,c8,B.trans c9⟩ kE.c.c.c.c.c.c.c.c.c.c rH
   |exact aG (pv,d0,N,T2) ⟨⟨d2,d3⟩,I,B⟩ kE.c.c.c.c.c.c.c.c.c.c rH
 intro y hy
 obtain⟨q,f5,us,T4⟩:=y
 obtain⟨⟨c2,c3⟩,b2,C⟩:=hy
 simp only at c2 c3 b2 C⊢
 have f2:=C.length
 have e4:∀x∈us,ok x:=λx W=>b8 x (C.perm.mem_iff.1 W)
 refine ay<|.seq ?_
 refine bF.cut (X:=List aA×aH) (λz=>OS 132 7 aA.enc v z.1 z.2/\RP a b ys z.1) (λz=>[(0,v),(1,iN a),(2,iN b),(3,iN r),(4,.func (.func f) #[] caps.toArray),(10,.bool wb),(11,.bool wp),(12,.int .i64 ((b-a:Nat):Int)),(13,iN q)]) (λz=>[z.2]) ?_ ?_
 refine .sr<|.mo rfl<|.mo rfl ?_
 refine .split (t:=69) rfl (λb5=>?_) (λb5=>?_)
 refine .gT b5<|.mo rfl<|.q (.aZ b5) ?_
 refine .mo rfl ?_
 refine .split (t:=72) rfl (λa1=>?_) (λa1=>?_)
 refine .gT a1<|.mo rfl<|.gT a1<|.q .bw<|.q (.aZ a1) ?_
 refine .zn ?_
 refine .cond rfl (λh5=>?_) λh5=>?_
 refine .sr<|.mo rfl<|.mo rfl<|.mo rfl<|.mo rfl ?_
 refine .cr (ND v us T4 a b _ b2 (by omega) (by omega) (by omega) O e4 D (d1.rp C)) (λu T5 k=>?_)
 obtain⟨ms,mb,rfl,a2,Y,c4⟩:=k
 refine .zn ?_
 refine .cond rfl (λh6=>?_) λh6=>?_
 refine .ret (gW (aI (bf (cK (bf (bu _ .none rH ?_))))))
 ·first
   |exact⟨_,rfl,rfl,N,I,U.trans (B.mono e g (by omega)),(Z.rp B e g).n3 c0⟩
   |exact⟨_,rfl,rfl,ms,a2,U.trans ((C.trans Y).mono e g (by omega)),(Z.rp (C.trans Y) e g).n3 (c4 (by assumption))⟩
 refine .skip ?_
 ·first
   |exact aG (ms,T5) ⟨a2,C.trans Y⟩ kE.c.c.c.c.c.c.c.c.c rH
   |exact aG (us,T4) ⟨b2,C⟩ kE.c.c.c.c.c.c.c.c.c rH
 refine .skip ?_
 ·first
   |exact aG (ms,T5) ⟨a2,C.trans Y⟩ kE.c.c.c.c.c.c.c.c.c rH
   |exact aG (us,T4) ⟨b2,C⟩ kE.c.c.c.c.c.c.c.c.c rH
 refine .gF a1<|.gF a1<|.q (.aX a1) ?_
 refine .zn<|.bQ<|.skip ?_
 ·first
   |exact aG (ms,T5) ⟨a2,C.trans Y⟩ kE.c.c.c.c.c.c.c.c.c rH
   |exact aG (us,T4) ⟨b2,C⟩ kE.c.c.c.c.c.c.c.c.c rH
 refine .gF b5<|.q (.aX b5) ?_
 refine .mo rfl<|.gX<|.gX<|.q .cb<|.zn<|.bQ<|.skip ?_
 ·first
   |exact aG (ms,T5) ⟨a2,C.trans Y⟩ kE.c.c.c.c.c.c.c.c.c rH
   |exact aG (us,T4) ⟨b2,C⟩ kE.c.c.c.c.c.c.c.c.c rH
 intro y hy
 obtain⟨a9,T6⟩:=y
 obtain⟨b3,b4⟩:=hy
 simp only at b3 b4⊢
 have f3:=b4.length
 have a8:∀x∈a9,ok x:=λx W=>b8 x (b4.perm.mem_iff.1 W)
 have a3:RP H F xs a9:=U.trans (b4.mono e g (by omega))
 have a5:=Z.rp b4 e g
 have c5:=d1.rp b4
 obtain⟨p,hp⟩:∃x,a9[q]? =some x:=⟨_,bE (by omega)⟩
 have e5:=a8 p (aV hp)
 refine ay<|.seq<|.seq ?_
 refine .dY 13 mixed (by kernel_rfl) ?_
 conv=>arg 6;dsimp only[List.take]
 refine .mo rfl<|.q .gtr<|.mo rfl ?_
 refine .split (t:=83) rfl (λi=>?_) (λi=>?_)
 have d5:0<a:=by have:=cq i;omega
 obtain⟨w,hw⟩:∃x,a9[a-1]? =some x:=⟨_,bE (by omega)⟩
 have e6:=a8 w (aV hw)
 refine .gT i<|.mo rfl<|.gT i<|.mo rfl<|.gT i<|.mo rfl<|.gT i ?_
 refine .ia (a-1) .sub ?_
 refine .gT i ?_
 refine .bH (a-1) b3 hw (λf6=>?_)
 refine .gT i<|.q (.aP rfl)<|.gT i<|.mo rfl<|.gT i<|.mo rfl<|.gT i ?_
 refine .bH q b3 hp (λf7=>?_)
 refine .gT i<|.q (.aP rfl)<|.nil<|.gT i ?_
 refine .fY (first:=[]) (captured:=caps) (vs:=[(λt:aA=>Value.agg t.enc.toArray) w,(λt:aA=>Value.agg t.enc.toArray) p]) (O w p e6 e5 _ (λb o hb=>.inl hb)) (λu k=>?_)
 subst k
 refine .gT i<|.q .lss<|.gT i<|.q .not<|.q (.aZ i) ?_
 refine .zn ?_
 refine .cond rfl (λh7=>?_) λh7=>?_
 have e1:bW c w p=false:=by
  have d4:(!bW c w p)=true:=h7
  simpa using d4
 refine .sr<|.mo rfl<|.mo rfl<|.mo rfl<|.mo rfl<|.mo rfl ?_
 refine .cr (NC v a9 T6 a b q p _ b3 (by omega) ⟨c2,c3⟩ hp (by omega) (by omega) O a8 D (c5.M7 D d5 hw e1)) (λu Q k=>?_)
 obtain⟨E,j,rfl,S,m,A⟩:=k
 have a7:=A.lo
 have a6:=A.hi
 refine .ag rfl<|.z<|.mo rfl<|.az rfl<|.exit<|bz<|bB ?_
 ·first
   |exact aW (j+1,b,r,_,_,M,G) ⟨⟨by simp only;omega,by simp only;omega,by simp only;omega,s⟩,J,K,L⟩ (by simp only;omega) (((((((kE.d rfl).d rfl).d rfl).d rfl).d rfl).d rfl).d rfl) rH
   |exact aW (a,j,r,_,_,M,G) ⟨⟨e,a7,by simp only;omega,s⟩,J,K,L⟩ (by simp only;omega) (((((((kE.d rfl).d rfl).d rfl).d rfl).d rfl).d rfl).d rfl) rH
   |exact aW (j,b,r,_,_,E,Q) ⟨⟨by simp only;omega,a6,g,s⟩,S,a3.trans (m.mono e g (by omega)),(a5.rp m e g).eqs D A⟩ (by simp only;omega) (((((((kE.d rfl).d rfl).d rfl).d rfl).d rfl).d rfl).d rfl) rH
 refine .kn<|.sr<|.mo rfl<|.mo rfl<|.mo rfl<|.mo rfl<|.mo rfl ?_
 refine .cr (yX v a9 T6 a b q p _ b3 (by omega) ⟨c2,c3⟩ hp (by omega) (by omega) O a8 D) (λu Q k=>?_)
 obtain⟨E,j,e7,rfl,S,m,A⟩:=k
 have a7:=A.lo
 have a6:=A.hi
 have d9:=m.length
 have b9:∀x∈E,ok x:=λx W=>a8 x (m.perm.mem_iff.1 W)
 have b7:=a5.rp m e g
 have b6:RP H F xs E:=a3.trans (m.mono e g (by omega))
 have c6:=c5.rp m
 refine .mo rfl<|.q .extract<|.q .extract<|.ag rfl<|.ag rfl<|.z<|.mo rfl<|.ag rfl<|.z<|.mo rfl<|.mo rfl ?_
 refine .ia (j-a) .sub ?_
 refine .mo rfl<|.mo rfl ?_
 refine .ia (b-j) .sub ?_
 refine .ag rfl<|.ag rfl<|.z<|.mo rfl ?_
 refine .q (.i64 (((b-a)/8:Nat):Int) .quo ⟨by rw[ad5 (by omega)];omega,by omega,by omega⟩) ?_
 refine .ag rfl<|.z<|.mo rfl<|.mo rfl<|.q .lss<|.zn ?_
 refine .cond rfl (λh8=>?_) λh8=>?_
 refine .sr<|.mo rfl<|.mo rfl<|.q .geq<|.ag rfl<|.z<|.mo rfl<|.mo rfl<|.mo rfl<|.mo rfl<|.mo rfl ?_
 refine .cr (ih v E Q a j r _ S (by omega) (by omega) (by omega) s O b9 (c6.less (by omega)) (by omega)) (λu G k=>?_)
 obtain⟨rfl,M,J,V,a4⟩:=k
 have L:=b7.left D A V a4 e g (by omega)
 have K:=b6.trans (V.mono e (by omega) (by omega))
 refine .zn<|.region<|.mo rfl ?_
 refine .ia (j+1) .add ?_
 refine .ag rfl<|.nil<|bi ?_
 ·first
   |exact aW (j+1,b,r,_,_,M,G) ⟨⟨by simp only;omega,by simp only;omega,by simp only;omega,s⟩,J,K,L⟩ (by simp only;omega) (((((((kE.d rfl).d rfl).d rfl).d rfl).d rfl).d rfl).d rfl) rH
   |exact aW (a,j,r,_,_,M,G) ⟨⟨e,a7,by simp only;omega,s⟩,J,K,L⟩ (by simp only;omega) (((((((kE.d rfl).d rfl).d rfl).d rfl).d rfl).d rfl).d rfl) rH
   |exact aW (j,b,r,_,_,E,Q) ⟨⟨by simp only;omega,a6,g,s⟩,S,a3.trans (m.mono e g (by omega)),(a5.rp m e g).eqs D A⟩ (by simp only;omega) (((((((kE.d rfl).d rfl).d rfl).d rfl).d rfl).d rfl).d rfl) rH
 refine .sr<|.mo rfl<|.mo rfl<|.q .geq<|.ag rfl<|.z<|.mo rfl<|.mo rfl ?_
 refine .ia (j+1) .add ?_
 refine .mo rfl<|.mo rfl<|.mo rfl ?_
 refine .cr (ih v E Q (j+1) b r _ S (by omega) (by omega) (by omega) s O b9 A.lb (by omega)) (λu G k=>?_)
 obtain⟨rfl,M,J,V,a4⟩:=k
 have L:=b7.right D A V a4 e g (by omega)
 have K:=b6.trans (V.mono (by omega) g (by omega))
 refine .zn<|.region<|.mo rfl<|.ag rfl<|.nil<|bi ?_
 ·first
   |exact aW (j+1,b,r,_,_,M,G) ⟨⟨by simp only;omega,by simp only;omega,by simp only;omega,s⟩,J,K,L⟩ (by simp only;omega) (((((((kE.d rfl).d rfl).d rfl).d rfl).d rfl).d rfl).d rfl) rH
   |exact aW (a,j,r,_,_,M,G) ⟨⟨e,a7,by simp only;omega,s⟩,J,K,L⟩ (by simp only;omega) (((((((kE.d rfl).d rfl).d rfl).d rfl).d rfl).d rfl).d rfl) rH
   |exact aW (j,b,r,_,_,E,Q) ⟨⟨by simp only;omega,a6,g,s⟩,S,a3.trans (m.mono e g (by omega)),(a5.rp m e g).eqs D A⟩ (by simp only;omega) (((((((kE.d rfl).d rfl).d rfl).d rfl).d rfl).d rfl).d rfl) rH
 refine .gF i<|.gF i<|.gF i<|.gF i<|.gF i<|.gF i<|.gF i<|.gF i<|.gF i<|.gF i<|.nil<|.gF i<|.gF i<|.gF i<|.q (.aX i) ?_
 refine .zn<|.bQ<|.kn<|.sr<|.mo rfl<|.mo rfl<|.mo rfl<|.mo rfl<|.mo rfl ?_
 refine .cr (yX v a9 T6 a b q p _ b3 (by omega) ⟨c2,c3⟩ hp (by omega) (by omega) O a8 D) (λu Q k=>?_)
 obtain⟨E,j,e7,rfl,S,m,A⟩:=k
 have a7:=A.lo
 have a6:=A.hi
 have d9:=m.length
 have b9:∀x∈E,ok x:=λx W=>a8 x (m.perm.mem_iff.1 W)
 have b7:=a5.rp m e g
 have b6:RP H F xs E:=a3.trans (m.mono e g (by omega))
 have c6:=c5.rp m
 refine .mo rfl<|.q .extract<|.q .extract<|.ag rfl<|.ag rfl<|.z<|.mo rfl<|.ag rfl<|.z<|.mo rfl<|.mo rfl ?_
 refine .ia (j-a) .sub ?_
 refine .mo rfl<|.mo rfl ?_
 refine .ia (b-j) .sub ?_
 refine .ag rfl<|.ag rfl<|.z<|.mo rfl ?_
 refine .q (.i64 (((b-a)/8:Nat):Int) .quo ⟨by rw[ad5 (by omega)];omega,by omega,by omega⟩) ?_
 refine .ag rfl<|.z<|.mo rfl<|.mo rfl<|.q .lss<|.zn ?_
 refine .cond rfl (λh8=>?_) λh8=>?_
 refine .sr<|.mo rfl<|.mo rfl<|.q .geq<|.ag rfl<|.z<|.mo rfl<|.mo rfl<|.mo rfl<|.mo rfl<|.mo rfl ?_
 refine .cr (ih v E Q a j r _ S (by omega) (by omega) (by omega) s O b9 (c6.less (by omega)) (by omega)) (λu G k=>?_)
 obtain⟨rfl,M,J,V,a4⟩:=k
 have L:=b7.left D A V a4 e g (by omega)
 have K:=b6.trans (V.mono e (by omega) (by omega))
 refine .zn<|.region<|.mo rfl ?_
 refine .ia (j+1) .add ?_
 refine .ag rfl<|.nil<|bi ?_
 ·first
   |exact aW (j+1,b,r,_,_,M,G) ⟨⟨by simp only;omega,by simp only;omega,by simp only;omega,s⟩,J,K,L⟩ (by simp only;omega) (((((((kE.d rfl).d rfl).d rfl).d rfl).d rfl).d rfl).d rfl) rH
   |exact aW (a,j,r,_,_,M,G) ⟨⟨e,a7,by simp only;omega,s⟩,J,K,L⟩ (by simp only;omega) (((((((kE.d rfl).d rfl).d rfl).d rfl).d rfl).d rfl).d rfl) rH
   |exact aW (j,b,r,_,_,E,Q) ⟨⟨by simp only;omega,a6,g,s⟩,S,a3.trans (m.mono e g (by omega)),(a5.rp m e g).eqs D A⟩ (by simp only;omega) (((((((kE.d rfl).d rfl).d rfl).d rfl).d rfl).d rfl).d rfl) rH
 refine .sr<|.mo rfl<|.mo rfl<|.q .geq<|.ag rfl<|.z<|.mo rfl<|.mo rfl ?_
 refine .ia (j+1) .add ?_
 refine .mo rfl<|.mo rfl<|.mo rfl ?_
 refine .cr (ih v E Q (j+1) b r _ S (by omega) (by omega) (by omega) s O b9 A.lb (by omega)) (λu G k=>?_)
 obtain⟨rfl,M,J,V,a4⟩:=k
 have L:=b7.right D A V a4 e g (by omega)
 have K:=b6.trans (V.mono (by omega) g (by omega))
 refine .zn<|.region<|.mo rfl<|.ag rfl<|.nil<|bi ?_
 ·first
   |exact aW (j+1,b,r,_,_,M,G) ⟨⟨by simp only;omega,by simp only;omega,by simp only;omega,s⟩,J,K,L⟩ (by simp only;omega) (((((((kE.d rfl).d rfl).d rfl).d rfl).d rfl).d rfl).d rfl) rH
   |exact aW (a,j,r,_,_,M,G) ⟨⟨e,a7,by simp only;omega,s⟩,J,K,L⟩ (by simp only;omega) (((((((kE.d rfl).d rfl).d rfl).d rfl).d rfl).d rfl).d rfl) rH
   |exact aW (j,b,r,_,_,E,Q) ⟨⟨by simp only;omega,a6,g,s⟩,S,a3.trans (m.mono e g (by omega)),(a5.rp m e g).eqs D A⟩ (by simp only;omega) (((((((kE.d rfl).d rfl).d rfl).d rfl).d rfl).d rfl).d rfl) rH
theorem NG(q:SO (bW c))(n:Nat):vh c ok f caps n:=by
 induction n with
 |zero=>exact λv e T a b d R _ _ _ _ _ _ _ _ r=>by omega
 |succ n ih=>exact λv e T a b d R g h i j k l m o p=>NH n ih q v e T a b d R g h i j k l m o p
end
end STP
namespace STP
section
variable{c:aA->aA->Int}{ok:aA->Prop}{f:FuncId}{caps:List Value} [e:aT prog f]
theorem zY(v:Value)(xs:List aA)(T:aH)(R:aw)(h:OS 132 7 aA.enc v xs T)(k:xs.length<=1000000000)(j:iO prog f caps R (λt:aA=>Value.agg t.enc.toArray) c ok)(l:∀x∈xs,ok x)(m:SO (bW c)):
  Spec prog 104 [v,.func (.func f) #[] caps.toArray] R [T] λu H'=>∃T',H'=[T']/\u=.tuple #[]/\∃ys,OS 132 7 aA.enc v ys T'/\ys.Perm xs/\SR (bW c) ys 0 ys.length:=by
 have r:=h.aq
 have i:Lib.bitLen xs.length<=1000000000:=by
  have p:=bitLen_le 64 xs.length
  have o:Lib.bitLen xs.length=Lib.bitLenAux 64 xs.length:=rfl
  omega
 refine Spec.body func104 rfl results104 ntmps104 rfl ?_
 refine .sr<|.mo rfl<|.q (.fD h) ?_
 refine .az rfl<|.region<|.mo rfl<|.mo rfl<|.mo rfl ?_
 refine .q (bo.cast (v':=.int .u64 ((xs.length:Nat):Int)) .gK (by rw[qm (by omega) (by omega)])) ?_
 refine .aR (yi xs.length (by omega) _) (λu a=>?_)
 subst a
 refine .mo rfl ?_
 refine .cr (NG m (xs.length+1) v xs T 0 xs.length (Lib.bitLen xs.length) _ h (Nat.zero_le _) (adY _) k i j l (λd=>absurd d (by omega)) (by omega)) (λu n a=>?_)
 obtain⟨rfl,ys,e,b,g⟩:=a
 refine .nil<|gg _ .none rH ?_
 ·exact⟨_,rfl,rfl,ys,e,b.perm,b.length▸g⟩
end
end STP
set_option linter.unusedSimpArgs false
def gP(a b:aA):Int:=if gj a b then-1 else if gj b a then 1 else 0
theorem rA:bW gP=bW kz:=by
 funext a b
 unfold bW gP
 by_cases c:gj a b=true
 ·rw[adZ c];unfold gj at c;rw[c];rfl
 ·rw[ad0 c]
  unfold gj at c
  have d:decide (kz a b<0)=false:=by simpa using c
  rw[d]
  split<;>rfl
theorem Nv(a b:aA)(R:aw):Spec prog 105 [.agg a.enc.toArray,.agg b.enc.toArray] R [] λv H'=>v=.int .i64 (gP a b)/\H'=[]:=by
 refine Spec.body func105 rfl results105 ntmps105 rfl ?_
 refine .sr ?_
 refine .cj rfl (λf=>?_)
 refine .cj rfl (λg=>?_)
 refine .ag rfl<|.zs<|.block<|.sr<|.q (.aP rfl)<|.q (.aP rfl) ?_
 refine .aR (Ai a b _) (λv e=>?_)
 subst e
 refine .az rfl ?_
 refine .cond rfl (λc=>?_) λc=>?_
 refine .sr<|.az rfl ?_
 refine .ret (bf (aI (aM rfl ?_)))
 ·exact⟨by unfold gP;rw[adZ c],rfl⟩
 refine .sr<|.q (.aP rfl)<|.q (.aP rfl) ?_
 refine .aR (Ai b a _) (λv e=>?_)
 subst e
 refine .az rfl ?_
 refine .cond rfl (λd=>?_) λd=>?_
 refine .sr<|.az rfl ?_
 refine .ret (bf (aI (aM rfl ?_)))
 ·exact⟨by unfold gP;rw[ad0 (by rw[c];simp),adZ d],rfl⟩
 refine .skip<|bi<|ay<|.sr<|.az rfl ?_
 refine .ret (aM rfl ?_)
 ·exact⟨by unfold gP;rw[ad0 (by rw[c];simp),ad0 (by rw[d];simp)],rfl⟩
abbrev m0(ys:List aA):Prop:=ys.Pairwise λp q=>bW kz q p=false
theorem yV(R:aw):iO prog 105 [] R (λt:aA=>Value.agg t.enc.toArray) gP (λ_=>True):=λx y _ _ a _=>Nv x y a
theorem yU:SO (bW gP):=by rw[rA];exact jY.so
theorem vU(v:Value)(F:List RB)(r:Int)(R:aw)(j:RS R 1 s8 v F)(s:∀p∈F,PC R (.pointer (some ⟨p.1,0,none⟩)) p.2.enc)(M:F.length<=5000):
  Spec prog 102 [v,.int .u64 r] R [] λu H'=>∃T,H'=[T]/\∃ys,OS 132 7 aA.enc u ys T/\ys.Perm ((F.filter λp=>p.2.there r).map (·.2.t))/\m0 ys:=by
 obtain⟨K,J,rfl⟩:=j.val
 refine Spec.fP (H':=[[]]) (by simp) ?_
 refine Spec.body func102 rfl results102 ntmps102 rfl ?_
 refine .sr<|.ag rfl<|.z<|.ag rfl<|.zs<|.sr<|.mo rfl<|.q (.bL j) ?_
 refine .mo rfl<|.zn<|.block ?_
 refine .loop (X:=Nat×Value×aH) (λy=>y.1<=F.length/\OS 132 7 aA.enc y.2.1 (((F.take y.1).filter λp=>p.2.there r).map (·.2.t)) y.2.2) (λy=>[(1,.int .u64 r),(5,y.2.1),(8,.slice K F.length J),(9,iN F.length),(10,iN y.1)]) (λy=>[y.2.2]) (λy=>F.length-y.1) (0,sZ,[]) ⟨Nat.zero_le _,OS.nil⟩ kE.c.c.c.c.c rH ?_
 rintro⟨i,l,g⟩ ⟨B,a⟩
 simp only at B a⊢
 have O:=a.aq
 have D:(((F.take i).filter λp=>p.2.there r).map (·.2.t)).length<=5000:=by
  rw[aec]
  exact ad9 (aea _ _) (by rw[List.length_take];omega)
 refine .sr<|.q .lss<|.zs ?_
 refine .cond rfl (λh=>?_) λh=>?_
 have e:i<F.length:=cF h
 obtain⟨⟨b,x⟩,k⟩:=cm e
 have S:PC R (pT b) x.enc:=s _ (aV k)
 have f:F.take (i+1)=F.take i++[(b,x)]:=by rw[aee,k];rfl
 refine .kn<|.seq<|.block<|.sr ?_
 refine .bI i j k (λQ=>?_)
 refine .lo rfl<|.ag rfl<|.z<|.mo rfl ?_
 refine .nc rfl<|.q (.aP rfl)<|.mo rfl ?_
 refine .aR (P6 x r _) (λv I=>?_)
 subst I
 refine .zn ?_
 refine .cond rfl (λd=>?_) λd=>?_
 refine .region<|.mo rfl<|.mo rfl<|.nc rfl<|.fa rfl<|.q (.loadT rfl) ?_
 refine .ez (λL=>?_)
 refine .append a (RS.lits (xs:=[x.t]) rfl (by simp[aA.enc]) (by simp[aA.enc,aq])) (by simp only[List.length_singleton];omega) (λw m o=>?_)
 refine .ag rfl<|.nil<|bi<|ay<|.region ?_
 refine .ia (i+1) .add ?_
 refine .mo rfl<|.nil ?_
 ·first
   |exact aW (i+1,w,m) ⟨e,by simp only;rw[f,ad4,ad6,ad3,adZ d];exact o⟩ (by simp only;omega) kE.c.c.c.c.c (aQ [1])
   |exact aW (i+1,l,g) ⟨e,by simp only;rw[f,ad4,ad6,ad3,ad0 (by rw[d];simp)];simpa using a⟩ (by simp only;omega) kE.c.c.c.c.c rH
 refine .skip<|bi<|ay<|.region ?_
 refine .ia (i+1) .add ?_
 refine .mo rfl<|.nil ?_
 ·first
   |exact aW (i+1,w,m) ⟨e,by simp only;rw[f,ad4,ad6,ad3,adZ d];exact o⟩ (by simp only;omega) kE.c.c.c.c.c (aQ [1])
   |exact aW (i+1,l,g) ⟨e,by simp only;rw[f,ad4,ad6,ad3,ad0 (by rw[d];simp)];simpa using a⟩ (by simp only;omega) kE.c.c.c.c.c rH
 have C:i=F.length:=by have:=bC h;omega
 subst C
 rw[aed]at a D
 refine .exit<|bz<|bG<|bB<|ay<|.sr<|.mo rfl ?_
 refine .cr (STP.zY (caps:=[]) l _ g _ a (by omega) (yV _) (λp s=>trivial) yU) (λu A H=>?_)
 obtain⟨rfl,ys,n,E,G⟩:=H
 have N:=n.aq
 refine .z<|.mo rfl<|.az rfl ?_
 refine .ret (bu _ (.one (.tmp rfl)) (.one [0] _) ?_)
 ·exact⟨A,by simp[take],ys,n,E,by have:=G.ordered;rw[rA]at this;exact this⟩
theorem xm{α:Type} [DecidableEq α]{k:α}:∀{l:List α},l.Nodup->k∈l->l.Perm (k::l.filter λk'=>decide (k'≠k))
 |[],_,h=>by cases h
 |x::l,hn,h=>by
  have b:=List.nodup_cons.1 hn
  by_cases a:x=k
  ·subst a
   have:l.filter (λk'=>decide (k'≠x))=l:=List.filter_eq_self.2 λy f=>by
    have:y≠x:=λe=>b.1 (e▸f)
    simp[this]
   rw[ad3]
   simp only[ne_eq,not_true_eq_false,decide_false,Bool.false_eq_true,if_false]
   have c:l.filter (λk'=> !decide (k'=x))=l:=by simpa using this
   simp only[decide_not,c]
   exact .refl _
  ·have d:k∈l:=by
    rcases List.mem_cons.1 h with e|h
    ·exact absurd e.symm a
    ·exact h
   have:=(xm b.2 d).cons x
   rw[ad3,adZ (by simp[a])]
   exact this.trans (List.Perm.swap k x _)
theorem xn{α:Type}{a b c:α->Bool}:∀L:List α,(∀x∈L,c x=(a x||b x)/\¬(a x=true/\b x=true))->(L.filter c).Perm (L.filter a++L.filter b)
 |[],_=>by simp
 |x::L,h=>by
  obtain⟨e,f⟩:=h x (by simp)
  have d:=xn L λy g=>h y (by simp[g])
  rw[ad3,ad3,ad3,e]
  cases ha:a x<;>cases hb:b x
  ·simpa using d
  ·simpa using(d.cons x).trans List.perm_middle.symm
  ·simpa using d.cons x
  ·exact absurd ⟨ha,hb⟩ f
def zp(S:dd)(f:aA)(r:Int)(ys:List aA):Prop:=ys.Perm (if scan S r then sm S f r else [])/\m0 ys
theorem N0{R:aw}{g:Nat}{S:dd}{ps:List RB}{vf vr:Value}{F:List (bc×(Value×aH))}{Mr:List (Sub×(Value×aH))}(h:SV R g S ps vf vr F Mr)(hl:S.rows.length<=4096)(f:aA)(r:Int):
  Spec prog 54 [pT g,.agg f.enc.toArray,.int .u64 r] R [] λu H'=>∃T,H'=[T]/\∃w ys,u=.tuple [w,.int .i64 (if scan S r then 0 else 12)].toArray/\OS 132 7 aA.enc w ys T/\zp S f r ys:=by
 have pc:=h.pc
 have c5:=h.of
 have c6:=h.or
 have a4:ps.length<=4096:=by rw[<-h.eq,aec]at hl;exact hl
 refine Spec.fP (H':=[[],[]]) (by simp) ?_
 refine Spec.body func54 rfl results54 ntmps54 rfl ?_
 refine .sr ?_
 refine .cj rfl (λs=>?_)
 refine .ag rfl<|.ag rfl<|.zs<|.block<|.sr<|.mo rfl ?_
 refine .aR (h.mono λb o i=>.inl i).ok (λv n=>?_)
 subst n
 refine .q .not<|.az rfl<|.bQ<|.sr<|.mo rfl<|.mo rfl ?_
 refine .aR ((h.mono λb o i=>.inl i).can r) (λv n=>?_)
 subst n
 refine .q .not<|.az rfl ?_
 refine .cond rfl (λH=>?_) λH=>?_
 refine .sr<|.ag rfl<|.az rfl ?_
 refine .ret (bf (aI (bu _ (.two (.tmp rfl) (.tmp rfl)) ((aQ [1])) ?_)))
 ·have m:scan S r=false:=by simpa using H
  exact⟨[],by simp[take],_,[],by rw[m];rfl,OS.nil,by rw[m];exact .refl _,List.Pairwise.nil⟩
 have m:scan S r=true:=by simpa using H
 refine .skip<|bi<|ay<|.sr<|.ag rfl<|.zs<|.sr<|.mo rfl<|.nc rfl<|.fa rfl<|.lo rfl ?_
 refine .range h.mf (λ_ _=>.inl) rfl (λO a7 b0=>?_)
 refine .zn<|.block ?_
 refine .loop (X:=List aA×List bc×Value×aH×aH) (λy=>y.2.1.Nodup/\y.1.Perm ((ps.filter λp=>(p.2.there r&&iU f p.2.t)&&decide (p.2.t.dc∉y.2.1)).map (·.2.t))/\OS 132 7 aA.enc y.2.2.1 y.1 y.2.2.2.1/\It R (λk:bc=>.agg k.enc.toArray) (λp:Value×aH=>p.1) vf F O y.2.1 y.2.2.2.2) (λy=>[(2,.int .u64 r),(4,pT s),(8,y.2.2.1),(26,O)]) (λy=>[bl s f.enc 67,y.2.2.2.1,y.2.2.2.2]) (λy=>y.2.1.length) ([],F.map (·.1),sZ,[],a7) ⟨h.nf,by
  rw[List.filter_eq_nil_iff.2 λp B=>by simp[h.af p B]];exact .refl _,OS.nil,b0⟩ kE.c.c.c.c ((aQ [1,1,0])) ?_
 rintro⟨E,U,vo,Z,Ti⟩ ⟨M,C,A,a2⟩
 simp only at M C A a2⊢
 have io:=A.aq
 have c3:E.length<=4096:=by
  rw[C.length_eq,aec]
  exact ad9 (aea _ _) a4
 refine .sr ?_
 refine .MR a2 (λ_ _=>.inl) rfl (λb rest Y hf ht=>?_)
 refine .q .extract<|.zs ?_
 refine .cond rfl (λI=>?_) λI=>?_
 obtain⟨k,⟨v0,T0⟩,hk,b2,a3⟩:=ht I
 obtain⟨pf,cf,L,b6⟩:=h.lf k
 rw[b2]at L
 simp only[Option.map_some,Option.getD_some]at L
 subst L
 have a9:=xm M hk
 have hF:RS R 1 s8 (.slice pf (ids (λx=>x.t.dc) k ps).length cf) (kH (λx=>x.t.dc) k ps):=RS.of_map (enc:=jP) (f:=λp:RB=>p.1) b6
 have a8:(kH (λx=>x.t.dc) k ps).length<=4096:=ad9 (aea _ _) a4
 refine .kn<|.block<|.sr ?_
 refine .q (.entry a3 (λ_ _=>.inl) rfl) ?_
 refine .q .extract<|.ag rfl<|.z<|.mo rfl<|.mo rfl ?_
 refine .dq (vU _ (kH (λx=>x.t.dc) k ps) r _ hF.rx (λp B=>(h.pr p (List.mem_filter.1 B).1).mono λb o i=>.inl i) (by omega)) (λu T1 N=>?_)
 obtain⟨ys,K,a6,_⟩:=N
 have iu:=K.aq
 have c2:ys.length<=4096:=by
  rw[a6.length_eq,aec]
  exact ad9 (aea _ _) a8
 refine .q (.fD K) ?_
 refine .mo rfl<|.zn<|.block ?_
 refine .loop (X:=Nat×Value×aH) (λy=>y.1<=ys.length/\OS 132 7 aA.enc y.2.1 (E++(ys.take y.1).filter λt=>iU f t) y.2.2) (λy=>[(2,.int .u64 r),(4,pT s),(8,y.2.1),(26,O),(33,u),(34,iN ys.length),(35,iN y.1)]) (λy=>[T1,bl s f.enc 67,y.2.2,Y]) (λy=>ys.length-y.1) (0,vo,Z) ⟨Nat.zero_le _,by simpa using A⟩ kE.c.c.c.c.c.c.c rH ?_
 rintro⟨j,V,G⟩ ⟨hj,d⟩
 simp only at hj d⊢
 have c4:=d.aq
 have c1:((ys.take j).filter λt=>iU f t).length<=4096:=ad9 (aea _ _) (by rw[List.length_take];omega)
 refine .sr<|.q .lss<|.zs ?_
 refine .cond rfl (λJ=>?_) λJ=>?_
 have l:j<ys.length:=cF J
 obtain⟨t,a5⟩:=cm l
 have D:ys.take (j+1)=ys.take j++[t]:=by rw[aee,a5];rfl
 refine .kn<|.seq<|.block<|.sr ?_
 refine .bH j K a5 (λc7=>?_)
 refine .q (.aP rfl) ?_
 refine .bV (λb9=>?_)
 refine .bN rfl rfl<|.z<|.q (.aP rfl)<|.q (.aP rfl) ?_
 refine .aR (Qa f t _) (λv n=>?_)
 subst n
 refine .zn ?_
 refine .cond rfl (λe=>?_) λe=>?_
 refine .region<|.mo rfl<|.q (.aP rfl) ?_
 refine .ez (λc0=>?_)
 refine .append d (RS.lits (xs:=[t]) rfl (by simp[aA.enc]) (by simp[aA.enc,aq])) (by simp;omega) (λv5 W a1=>?_)
 refine .ag rfl<|.nil<|bi<|ay<|.region ?_
 refine .ia (j+1) .add ?_
 refine .mo rfl<|.nil ?_
 ·first
   |exact aW (j+1,v5,W) ⟨l,by simp only;rw[D,ad4,ad3,adZ e, <-List.append_assoc];exact a1⟩ (by simp only;omega) kE.c.c.c.c.c.c.c (aQ [2,2,2,2])
   |exact aW (j+1,V,G) ⟨l,by simp only;rw[D,ad4,ad3,ad0 (by rw[e];simp)];simpa using d⟩ (by simp only;omega) kE.c.c.c.c.c.c.c (aQ [1,1,1,1])
 refine .skip<|bi<|ay<|.region ?_
 refine .ia (j+1) .add ?_
 refine .mo rfl<|.nil ?_
 ·first
   |exact aW (j+1,v5,W) ⟨l,by simp only;rw[D,ad4,ad3,adZ e, <-List.append_assoc];exact a1⟩ (by simp only;omega) kE.c.c.c.c.c.c.c (aQ [2,2,2,2])
   |exact aW (j+1,V,G) ⟨l,by simp only;rw[D,ad4,ad3,ad0 (by rw[e];simp)];simpa using d⟩ (by simp only;omega) kE.c.c.c.c.c.c.c (aQ [1,1,1,1])
 have b1:j=ys.length:=by have:=bC J;omega
 subst b1
 rw[aed]at d
 refine .exit<|bz<|bG<|bB<|bi ?_
 ·refine aW (E++ys.filter (λt=>iU f t),U.filter λQ=>decide (Q≠k),V,G,Y) ⟨M.sublist List.filter_sublist,?_,d,a3.it⟩ ?_ kE.c.c.c.c (aQ [1,1,1])
  ·simp only
   have h9:=xn (a:=λp:RB=>(p.2.there r&&iU f p.2.t)&&decide (p.2.t.dc∉U)) (b:=λp:RB=>decide (p.2.t.dc=k)&&(p.2.there r&&iU f p.2.t)) (c:=λp:RB=>(p.2.there r&&iU f p.2.t)&&decide (p.2.t.dc∉U.filter λQ=>decide (Q≠k))) ps λp _=>by
    by_cases e1:p.2.t.dc=k
    ·rw[e1];simp[hk]
    ·simp[e1]
   refine List.Perm.trans ?_ (h9.map _).symm
   rw[ad6]
   refine C.append ?_
   refine(a6.filter _).trans (.of_eq ?_)
   rw[List.filter_map,List.filter_filter]
   unfold kH
   rw[List.filter_filter]
   congr 1
   refine List.filter_congr λp _=>?_
   simp only[Function.comp]
   cases decide (p.2.t.dc=k)<;>cases p.2.there r<;>cases iU f p.2.t<;>rfl
  ·have:=a9.length_eq
   simp only[List.length_cons]at this
   simp only;omega
 have b8:=hf I
 subst b8
 have b3:E.Perm (sm S f r):=by
  refine C.trans (.of_eq ?_)
  unfold sm
  rw[<-h.eq,List.filter_map,List.map_map]
  congr 1
  refine List.filter_congr λp _=>by simp
 refine .exit<|bz<|bG<|bB<|ay<|.sr<|.mo rfl ?_
 refine .cr (STP.zY (caps:=[]) vo _ Z _ A (by omega) (yV _) (λp B=>trivial) yU) (λu T3 N=>?_)
 obtain⟨rfl,ys,a0,b5,b7⟩:=N
 have i5:=a0.aq
 refine .z<|.mo rfl<|.ag rfl<|.az rfl ?_
 refine .ret (bu _ (.two (.tmp rfl) (.tmp rfl)) ((aQ [1])) ?_)
 ·exact⟨T3,by simp[take,bK],_,ys,by rw[m];rfl,a0,by rw[m];exact b5.trans b3,by have:=b7.ordered;rw[rA]at this;exact this⟩
abbrev strict(ys:List aA):Prop:=ys.Pairwise λp q=>gj p q=true
theorem P8{a b:aA}:bW kz a b=gj a b:=rfl
theorem Aj{a b:aA}(h:a≠b):gj a b=true\/gj b a=true:=by
 unfold gj
 have d:=jY.sw b a
 have c:kz a b≠0:=λe=>h (An e)
 rcases Int.lt_or_lt_of_ne c with h4|h4
 ·exact .inl (decide_eq_true h4)
 ·exact .inr (decide_eq_true (by omega))
theorem uV{a b:aA}(h:gj a b=true):gj b a=false:=by
 unfold gj at *
 have c:=jY.sw b a
 have h:=cq h
 exact decide_eq_false (by omega)
theorem sA(a:aA):gj a a=false:=by
 unfold gj
 have:=jY.refl a
 exact decide_eq_false (by omega)
theorem strict.order{ys:List aA}(h:strict ys):m0 ys:=h.imp λ{p q} a=>uV a
theorem yS{xs ys:List aA}(a:ys.Perm xs)(b:m0 xs)(c:m0 ys):ys=xs:=BD jY (λ_ _=>An) a b c
theorem O8{S:dd}{r:Int}:scan S r=true↔S.dM<=r/\r<=S.head:=by unfold scan;simp
structure vq(S:dd)(cs:List cD)(i:Nat)(W:List aA):Prop where
 pm:W.Perm (sm ⟨(cs.take i).foldl (eY (S.head+1)) S.rows,S.head+1,S.dM⟩ ⟨⟨#[]⟩,⟨#[]⟩,⟨#[]⟩,⟨#[]⟩,⟨#[]⟩,⟨#[]⟩,⟨#[]⟩⟩ (S.head+1))
 st:strict W
theorem vq.done{S:dd}(d:gn S){bx no:List aA}{cs:List cD}(e:fU S bx no cs=0){W Z:List aA}(h:vq S cs cs.length W)(a:zp (hY S bx no cs) (⟨⟨#[]⟩,⟨#[]⟩,⟨#[]⟩,⟨#[]⟩,⟨#[]⟩,⟨#[]⟩,⟨#[]⟩⟩:aA) (S.head+1) Z):Z=W:=by
 have g:hY S bx no cs=⟨cs.foldl (eY (S.head+1)) S.rows,S.head+1,S.dM⟩:=by unfold hY;rw[adZ e]
 rw[g]at a
 have f:scan ⟨cs.foldl (eY (S.head+1)) S.rows,S.head+1,S.dM⟩ (S.head+1)=true:=O8.2 ⟨by have:=d.h1;simp only;omega,Int.le_refl _⟩
 have b:=a.1
 rw[adZ f]at b
 have c:=h.pm
 rw[aed]at c
 exact yS (b.trans c.symm) h.st.order a.2
theorem rP{a b:aA}:gP a b<0↔kz a b<0:=by
 have h:=congrFun (congrFun rA a) b
 unfold bW at h
 exact decide_eq_decide.1 h
theorem pZ(a b:aA):0<gP a b↔gP b a<0:=by
 unfold gP
 have c:= @uV b a
 cases ha:gj a b<;>cases hb:gj b a<;>simp_all
theorem yT:fV gP where
 sw x y:=by rw[pZ]
 tr x y z h1 h2:=by
  have d:¬gP y x<0:=λe=>by have:=(pZ x y).2 e;omega
  have a:¬gP z y<0:=λe=>by have:=(pZ y z).2 e;omega
  rw[rP]at d a
  have f:=jY.sw y x
  have g:=jY.sw x y
  have b:=jY.sw y z
  have c:=jY.sw z y
  have h:=jY.tr x y z (by omega) (by omega)
  have i:=jY.sw z x
  have j:¬gP z x<0:=by rw[rP];omega
  have:=pZ x z
  omega
 tl x y z h1 h2:=by
  have a:¬gP z y<0:=λe=>by have:=(pZ y z).2 e;omega
  rw[rP]at a h1⊢
  have b:=jY.sw y z
  have c:=jY.sw z y
  exact jY.tl x y z h1 (by omega)
theorem Nu{a b:aA}(h:gP a b=0):a=b:=by
 unfold gP at h
 split at h
 ·omega
 ·split at h
  ·omega
  ·rename_i d e
   exact Classical.byContradiction λc=>by rcases Aj c with h3|h3<;>contradiction
def rW(a b:bA):Int:=ey [gP a.t b.t,ki a.fr b.fr]
theorem zo:fV rW:=(yT.map bA.t).cons ((xG.map bA.fr).cons .nil)
def eA(a b:bA):Bool:=gj a.t b.t||decide (a.t=b.t)&&decide (a.fr<b.fr)
theorem tR(a b:bA):bW rW a b=eA a b:=by
 unfold bW rW eA
 rw[m7,m7]
 rw[Bool.eq_iff_iff]
 simp only[ad7,Bool.or_eq_true,ad8]
 by_cases h:a.t=b.t
 ·rw[adZ (by rw[h];exact yT.refl _)]
  rw[h,sA]
  unfold ki ey
  simp
  split
  ·split<;>omega
  ·split
   ·split<;>omega
   ·split<;>omega
 ·rw[ad0 λe=>h (Nu e),rP]
  unfold gj
  simp[h]
abbrev Oy(ys:List bA):Prop:=ys.Pairwise λp q=>bW rW q p=false
abbrev r7(ys:List bA):Prop:=ys.Pairwise λp q=>eA p q=true
theorem Oq{a b:bA}(h:eA a b=true):eA b a=false:=by
 rw[<-tR]at *
 unfold bW at *
 have c:=zo.sw b a
 have h:=cq h
 exact decide_eq_false (by omega)
theorem r7.order{ys:List bA}(h:r7 ys):Oy ys:=h.imp λ{p q} a=>by rw[tR];exact Oq a
theorem gn.two{S:dd}(c:gn S){ys:List bA}(d:ys.Perm S.rows):ys.Pairwise λx y=>x.t=y.t->(x.to≠0/\x.to<=y.fr)\/(y.to≠0/\y.to<=x.fr):=by
 have h:S.rows.Pairwise λx y=>x.t=y.t->(x.to≠0/\x.to<=y.fr)\/(y.to≠0/\y.to<=x.fr):=c.pw.imp λ{x y} b a=>.inl (b a)
 exact d.symm.pairwise h λ{x y} b a=>(b a.symm).symm
structure fM(S:dd)(L:List bA):Prop where
 pm:L.Perm S.rows
 st:r7 L
theorem A3{α:Type}{p:α->Bool}{L M:List α}(h:L.Perm M):L.any p=M.any p:=by
 rw[Bool.eq_iff_iff,List.any_eq_true,List.any_eq_true]
 exact exists_congr λx=>and_congr_left λ_=>h.mem_iff
theorem z8{L M:List bA}(h:L.Perm M)(t:aA):dw L t=dw M t:=A3 h
theorem Pq{L M:List bA}(h:L.Perm M)(head:Int)(bx no:List aA)(cs:List cD):eZ L head bx no cs=eZ M head bx no cs:=by
 unfold eZ
 simp only[z8 h,h.length_eq]
theorem fM.new:fM ⟨[],0,0⟩ []:=⟨.refl _,List.Pairwise.nil⟩
theorem fM.pw{S:dd}(b:gn S){L:List bA}(h:fM S L):L.Pairwise λx y=>x.t=y.t->x.to≠0/\x.to<=y.fr:=by
 refine((b.two h.pm).and h.st).imp_of_mem λ{x y} i f e c=>?_
 obtain⟨d,a⟩:=e
 obtain⟨_,_,_,g⟩:=b.ok y (h.pm.mem_iff.1 f)
 unfold eA at a
 rw[c,sA]at a
 simp only[Bool.false_or,ad8,ad7]at a
 have:=d c
 omega
theorem wx{t:aA}{r:Int}{x:bA}:(bA.close t r x).t=x.t/\(bA.close t r x).fr=x.fr:=by unfold bA.close;split<;>exact⟨rfl,rfl⟩
theorem Ot{a b c d:bA}(e:c.t=a.t/\c.fr=a.fr)(f:d.t=b.t/\d.fr=b.fr):eA c d=eA a b:=by unfold eA;rw[e.1,e.2,f.1,f.2]
theorem Ou(x y z:bA)(a:eA x y=true)(b:eA y z=true):eA x z=true:=by
 rw[<-tR]at *
 unfold bW at *
 exact decide_eq_true (zo.t2 x y z (by have:=cq a;omega) (cq b))
def nT(r:Int)(L:List bA)(c:cD):List bA:=if c.put then gN eA ⟨c.t,r,0⟩ L else L.map (bA.close c.t r)
theorem fM.next{S:dd}(B:gn S){cs:List cD}(f:od S cs){i:Nat}{c:cD}(o:cs[i]? =some c){L:List bA}(h:fM ⟨(cs.take i).foldl (eY (S.head+1)) S.rows,S.head+1,S.dM⟩ L):
  fM ⟨(cs.take (i+1)).foldl (eY (S.head+1)) S.rows,S.head+1,S.dM⟩ (nT (S.head+1) L c)/\(c.put=false->∃(j:Nat) (x:bA),L[j]? =some x/\x.eF c.t=true/\(∀k y,k<j->L[k]? =some y->y.eF c.t=false)/\nT (S.head+1) L c=L.set j ⟨x.t,x.fr,S.head+1⟩):=by
 have p:=B.fold (f.take i)
 have m:cs.take (i+1)=cs.take i++[c]:=by rw[aee,o];rfl
 have E:c.t∉(cs.take i).map (·.t):=by
  have u:=(f.take (i+1)).nd
  rw[m,ad6,List.nodup_append]at u
  intro D
  exact u.2.2 _ D _ (by simp) rfl
 have z:dw L c.t=dw S.rows c.t:=(z8 h.pm _).trans (uR _ _ E)
 have s:c∈cs:=aV o
 have A:(cs.take (i+1)).foldl (eY (S.head+1)) S.rows=eY (S.head+1) ((cs.take i).foldl (eY (S.head+1)) S.rows) c:=by rw[m,List.foldl_append];rfl
 rw[A]
 cases hp:c.put with
 |true=>
  refine⟨?_,by simp⟩
  unfold nT eY
  rw[adZ hp,adZ hp]
  refine⟨qZ.trans ((h.pm.cons _).trans (List.perm_append_singleton _ _).symm),xD Ou h.st λy g=>?_⟩
  have a:=f.qH c s hp
  rw[<-z]at a
  have n:=uQ.1 a y g
  obtain⟨_,_,_,b⟩:=p.ok y (h.pm.mem_iff.1 g)
  simp only at b
  unfold eA
  by_cases e:c.t=y.t
  ·have:=n e.symm
   right
   simp only[Bool.or_eq_true,ad8,ad7]
   exact .inr ⟨e.symm,by omega⟩
  ·rcases Aj e with h5|h5
   ·left;simp[h5]
   ·right;simp[h5]
 |false=>
  have v:nT (S.head+1) L c=L.map (bA.close c.t (S.head+1)):=by unfold nT;rw[ad0 (by simp[hp])]
  refine⟨?_,λ_=>?_⟩
  ·rw[v]
   unfold eY
   rw[ad0 (by simp[hp])]
   refine⟨h.pm.map _,?_⟩
   rw[r7,List.pairwise_map]
   exact h.st.imp λ{x y} F=>by rw[Ot wx wx];exact F
  ·have a:=f.there c s hp
   rw[<-z]at a
   have n:(L.find? (bA.eF c.t)).isSome:=by
    rw[List.find?_isSome]
    unfold dw at a
    simpa using a
   obtain⟨j,l⟩:∃j,L.findIdx (bA.eF c.t)=j:=⟨_,rfl⟩
   have d:j<L.length:=by
    rw[<-l,List.findIdx_lt_length]
    unfold dw at a
    simpa using a
   have r:(L[j]'d).eF c.t=true:=by
    subst l
    exact List.findIdx_getElem (w:=d)
   have q:L[j]? =some (L[j]'d):=bE d
   refine⟨j,L[j]'d,q,r,λk y C g=>?_,?_⟩
   ·obtain⟨G,rfl⟩:=ad1.1 g
    exact List.not_of_lt_findIdx (by rw[l];exact C)
   ·rw[v,wv (h.pw p) q r]
theorem fM.write{S:dd}{bx no:List aA}{cs:List cD}(a:fU S bx no cs=0){L:List bA}(h:fM ⟨(cs.take cs.length).foldl (eY (S.head+1)) S.rows,S.head+1,S.dM⟩ L):fM (hY S bx no cs) L:=by
 unfold hY
 rw[adZ a]
 rwa [aed]at h
theorem fM.ordered{S:dd}{L:List bA}(h:fM S L)(q:bA->Bool):m0 ((L.filter q).map (·.t)):=by
 rw[m0,List.pairwise_map]
 refine(h.st.sublist List.filter_sublist).imp λ{x y} a=>?_
 rw[P8]
 unfold eA at a
 simp only[Bool.or_eq_true,ad8,ad7]at a
 rcases a with h1|h1
 ·exact uV h1
 ·rw[h1.1];exact sA _
theorem fM.at_{S:dd}{L:List bA}(h:fM S L){q:bA->Bool}{ys:List aA}(a:ys.Perm ((S.rows.filter q).map (·.t)))(ho:m0 ys):ys=(L.filter q).map (·.t):=yS (a.trans ((h.pm.filter _).map _).symm) (h.ordered _) ho
theorem pM{s:ByteArray}(h:isWord s=true):s.size<=32:=by
 unfold isWord at h
 simp only[ad8,ad7]at h
 omega
theorem tx{s:ByteArray}(h:fg s=true):s.size<=32:=by
 unfold fg at h
 simp only[ad8,ad7]at h
 omega
end Go.Proofs.YtenilfmlfldogaaGreatDoor
