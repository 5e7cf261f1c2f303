/- What the law 'SolveRounds' uses. No condition. -/
import Derived.Test.YtdljmchhecoakaaGreatKSolveRoundsB
import Derived.Test.YtdljmchhecoakaaGreatKSolveRoundsF
import Derived.Test.YtdljmchhecoakaaGreatKSolveRoundsH
import Derived.Test.YtdljmchhecoakaaGreatKSolveRoundsJ
namespace Go.Proofs.YtdljmchhecoakaaGreat
set_option linter.defProp false
def adI:=@Nat.le_refl
def adJ:=@List.length_set
def adK:=@List.getElem?_eq_some_iff
def adL:=@if_pos
def adM:=@if_neg
def adN:=@Int.tdiv_eq_ediv_of_nonneg
def adO:=@List.filter_cons
def adP:=@List.length_drop
def adQ:=@Nat.le_trans
def adR:=@List.length_filter_le
def adS:=@Nat.lt_or_ge
def adT:=@List.length_map
def adU:=@List.filter_append
def adV:=@List.take_length
def adW:=@decide_eq_true_eq
def adX:=@Bool.and_eq_true
open Tryz
set_option linter.unusedVariables false
set_option maxRecDepth 4000
theorem vH:∀(f x:Nat),x<2^f->x≠0->2^Lib.bitLenAux f x<=2*x/\x<2^Lib.bitLenAux f x
 |0,x,h,h0=>by simp at h;omega
 |f+1,x,h,h0=>by
  unfold Lib.bitLenAux
  rw[adM h0]
  by_cases a:x/2=0
  ·have:x=1:=by omega
   subst this
   have:Lib.bitLenAux f (1/2)=0:=by cases f<;>simp[Lib.bitLenAux]
   rw[this];omega
  ·have b:=vH f (x/2) (by rw[Nat.pow_succ]at h;omega) a
   rw[Nat.add_comm,Nat.pow_succ]
   omega
theorem bitLen_le:∀(f x:Nat),Lib.bitLenAux f x<=f
 |0,x=>by simp[Lib.bitLenAux]
 |f+1,x=>by
  unfold Lib.bitLenAux
  split
  ·omega
  ·have:=bitLen_le f (x/2);omega
theorem tm(n:Nat)(h:n<2^63)(R:aw):Spec prog 167 [.int .u64 n] R [] λv H'=>v=.int .i64 (Lib.bitLen n:Nat)/\H'=[]:=by
 have:=Spec.rA (λw=>A3 (n:Int) w (by omega) (by omega)) R
 simpa using this
theorem yq(n:Nat)(b:n≠0)(h:n<=1000000000)(R:aw):Spec prog 251 [.int .i64 n] R [] λv H'=>(∃m:Nat,v=.int .u64 m/\n<m/\m<=2*n)/\H'=[]:=by
 have a:=vH 64 n (by omega) b
 have g:=bitLen_le 64 n
 refine Spec.body func251 rfl results251 ntmps251 rfl<|.sr<|.ag rfl<|.z<|.mo rfl<|.q (bd.cast (v':=.int .u64 (n:Nat)) .m4 (by rw[nS (by omega) (by omega)]))<|.bj (tm n (by omega) _) (λv d=>?_)
 subst d
 refine .q (bd.cast (v':=.int .u64 ((2^Lib.bitLen n:Nat):Int)) (.ux) (by
  have e:min ((Lib.bitLen n:Nat):Int).toNat IntKind.u64.bits=Lib.bitLen n:=by
   unfold Lib.bitLen;simp[IntKind.bits];omega
  rw[e,Int.one_mul,nS]
  ·congr 1
  ·exact Int.le_of_lt (Int.pow_pos (by omega))
  ·have f:(2^Lib.bitLen n:Nat)<=2*n:=a.1
   have c:((2:Int)^Lib.bitLen n)=((2^Lib.bitLen n:Nat):Int):=by push_cast;rfl
   rw[c];omega)) ?_
 refine .az rfl<|.ret (aY rfl ?_)
 ·exact⟨⟨2^Lib.bitLen n,rfl,a.2,a.1⟩,rfl⟩
theorem zh(b:Nat)(z:Int)(R:aw):Spec prog 252 [pT b] R [bl b [.int .u64 z] 385] λv H'=>∃T',H'=[T']/\∃z',v=.int .u64 z'/\T'=(bl b [.int .u64 z'] 385):=by
 refine Spec.body func252 rfl results252 ntmps252 rfl<|.sr<|.ag rfl<|.zs<|.dd 9 mixed (by kernel_rfl) ?_
 conv=>arg 6;dsimp only[List.take]
 refine .mo rfl<|.nc rfl<|.lo rfl<|.mo rfl<|.nc rfl<|.lo rfl<|.q .ux<|.q .uN<|.nc rfl<|.nil<|.du rfl rfl<|.zs<|.dd 9 mixed (by kernel_rfl) ?_
 conv=>arg 6;dsimp only[List.take]
 refine .mo rfl<|.nc rfl<|.lo rfl<|.mo rfl<|.nc rfl<|.lo rfl<|.q .M7<|.q .uN<|.nc rfl<|.nil<|.du rfl rfl<|.zs<|.dd 9 mixed (by kernel_rfl) ?_
 conv=>arg 6;dsimp only[List.take]
 refine .mo rfl<|.nc rfl<|.lo rfl<|.mo rfl<|.nc rfl<|.lo rfl<|.q .ux<|.q .uN<|.nc rfl<|.nil<|.du rfl rfl<|.z<|.mo rfl<|.nc rfl<|.lo rfl<|.az rfl<|.ret (bm _ (.one (.tmp rfl)) rH ?_)
 ·exact⟨_,rfl,_,rfl,rfl⟩
namespace STP
section
variable{c:ax->ax->Int}{ok:ax->Prop}{f:FuncId}{caps:List Value} [e:aP prog f]
theorem tg(v:Value)(xs:List ax)(T:ap)(a b:Nat)(R:aw)(h:OS 119 7 ax.enc v xs T)(a2:a<=b)(H:b<=xs.length)(hl:xs.length<=1000000000)(N:gN prog f caps R (λt:ax=>Value.agg t.enc.toArray) c ok)(I:∀x∈xs,ok x)(D:SO (aS c)):
  Spec prog 233 [v,.int .i64 a,.int .i64 b,.func (.func f) #[] caps.toArray] R [T] λu H'=>∃T',H'=[T']/\u=.tuple #[]/\∃ys,OS 119 7 ax.enc v ys T'/\RP a b xs ys/\SR (aS c) ys a b:=by
 have iv:=h.aC
 refine Spec.body func233 rfl results233 ntmps233 rfl<|.sr<|.mo rfl<|.ia (a+1) .add<|.az rfl<|.block<|.loop (X:=Nat×List ax×ap) (λy=>(a+1<=y.1/\(y.1<=b\/y.1=a+1))/\OS 119 7 ax.enc v y.2.1 y.2.2/\RP a b xs y.2.1/\SR (aS c) y.2.1 a y.1) (λy=>[(0,v),(1,iN a),(2,iN b),(3,.func (.func f) #[] caps.toArray),(8,iN y.1)]) (λy=>[y.2.2]) (λy=>b-y.1) (a+1,xs,T) ⟨⟨by simp only;omega,.inr rfl⟩,h,.refl _,λi j n p F=>by simp only at F;omega⟩ kE.c.c.c.c.c rH ?_
 rintro⟨i,ys,L⟩ ⟨⟨O,Q⟩,B,z,C⟩
 simp only at O Q B z C⊢
 have a5:=z.length
 refine .seq<|.sr<|.mo rfl<|.mo rfl<|.q .lss<|.zn<|.cond rfl (λn=>?_) λn=>?_
 have a4:i<b:=by simp at n;omega
 refine .kn<|.seq<|.block<|.sr<|.mo rfl<|.az rfl<|.block<|.loop (X:=Nat×List ax×ap) (λy=>(a<=y.1/\y.1<=i)/\OS 119 7 ax.enc v y.2.1 y.2.2/\RP a b xs y.2.1/\ke (aS c) y.2.1 a y.1 (i+1)) (λy=>[(0,v),(1,iN a),(2,iN b),(3,.func (.func f) #[] caps.toArray),(8,iN i),(9,iN y.1)]) (λy=>[y.2.2]) (λy=>y.1) (i,ys,L) ⟨⟨by simp only;omega,adI _⟩,B,z,C.ins⟩ kE.c.c.c.c.c.c rH ?_
 rintro⟨j,r,E⟩ ⟨⟨S,U⟩,e,m,s⟩
 simp only at S U e m s⊢
 have a6:=m.length
 refine .seq<|.seq<|.dd 14 mixed (by kernel_rfl) ?_
 conv=>arg 6;dsimp only[List.take]
 refine .mo rfl<|.mo rfl<|.q .gtr<|.mo rfl<|.split (t:=21) rfl (λd=>?_) (λd=>?_)
 have G:a<j:=by have:=bV d;omega
 obtain⟨x,g⟩:∃x,r[j]? =some x:=⟨_,aQ (by omega)⟩
 obtain⟨y,l⟩:∃x,r[j-1]? =some x:=⟨_,aQ (by omega)⟩
 have Z:=I x (m.perm.mem_iff.1 (aX g))
 have a0:=I y (m.perm.mem_iff.1 (aX l))
 refine .gT d<|.mo rfl<|.gT d<|.mo rfl<|.gT d<|.mo rfl<|.gT d ?_
 refine .aI j e g (λa7=>?_)
 refine .gT d<|.q (.aU rfl)<|.gT d<|.mo rfl<|.gT d<|.mo rfl<|.gT d<|.ia (j-1) .sub<|.gT d ?_
 refine .aI (j-1) e l (λa8=>?_)
 refine .gT d<|.q (.aU rfl)<|.nil<|.gT d<|.fw (first:=[]) (captured:=caps) (vs:=[(λt:ax=>Value.agg t.enc.toArray) x,(λt:ax=>Value.agg t.enc.toArray) y]) (N x y Z a0 _ (λb o H=>.inl H)) (λu A=>?_)
 subst A
 refine .gT d<|.q .lss<|.q (.bx d)<|.zn<|.cond rfl (λp=>?_) λp=>?_
 refine .kn<|.seq<|.block<|.cG [15,17] mixed<|.tO 0 rfl .move<|.tO 1 rfl .move<|.tK 2 rfl .move<|.tK 3 rfl .move<|.take 4 rfl (.i64 ((j-1:Nat):Int) .sub ⟨by omega,by omega,by omega⟩) (by kernel_rfl)<|.tO 5 rfl .move<|.tO 6 rfl .move<|.eQ 7 rfl (.i64 ((j-1:Nat):Int) .sub ⟨by omega,by omega,by omega⟩) (by kernel_rfl) ?_
 refine RA.aI 8 rfl (j-1) e l rfl rfl rfl (by kernel_rfl) (λa9=>?_)
 refine .tO 9 rfl (.aU rfl)<|.tO 10 rfl .move<|.tO 11 rfl .move ?_
 refine RA.aI 12 rfl (j) e g rfl rfl rfl (by kernel_rfl) (λb0=>?_)
 refine .tO 13 rfl (.aU rfl) ?_
 refine RA.aI 14 rfl (j) e g rfl rfl rfl (by kernel_rfl) (λb1=>?_)
 refine .sT 15 rfl<|.ei (j) e g y (λa1 W=>?_) (e.one _ (aX l))
 refine .nil (Next.mod rfl ?_)
 refine RA.aI 16 rfl (j-1) e l rfl rfl rfl (by kernel_rfl) (λb2=>?_)
 refine .sT 17 rfl ?_
 obtain⟨zz,Y⟩:∃u,(r.set (j) y)[j-1]? =some u:=⟨_,aQ (by rw[adJ];exact(adK.1 l).1)⟩
 refine .ei (j-1) W Y x (λM J=>?_) (e.one _ (aX g))
 rw[<-ej g l]at J
 refine .nil<|Next.mod rfl<|RA.nil (by kernel_rfl)<|bg<|aB<|.region<|.mo rfl<|.ia (j-1) .sub<|.ag rfl<|.nil ?_
 ·have V:aS c x y=true:=p
  exact bu (j-1,cy r j (j-1),M) ⟨⟨by simp only;omega,by simp only;omega⟩,J,m.step (by omega) (by omega) (by omega) (by omega) (by omega),s.step D (by omega) (by omega) G g l V⟩ (by simp only;omega) kE.c.c.c.c.c.c rH
 refine .exit<|br<|bz<|bw<|bg<|aB<|.region<|.mo rfl<|.ia (i+1) .add<|.ag rfl<|.nil ?_
 ·refine bu (i+1,r,E) ⟨⟨by simp only;omega,.inl (by simp only;omega)⟩,e,m,s.done D (by omega) (by omega) ?_⟩ (by simp only;omega) kE.c.c.c.c.c rH
  exact .inr ⟨G,λu w A K=>by
   rw[l]at A;rw[g]at K;cases A;cases K;exact p⟩
 refine .gF d<|.gF d<|.gF d<|.gF d<|.gF d<|.gF d<|.gF d<|.gF d<|.gF d<|.gF d<|.nil<|.gF d<|.gF d<|.q (.bs d)<|.zn<|.di<|.exit<|br<|bz<|bw<|bg<|aB<|.region<|.mo rfl<|.ia (i+1) .add<|.ag rfl<|.nil ?_
 ·refine bu (i+1,r,E) ⟨⟨by simp only;omega,.inl (by simp only;omega)⟩,e,m,s.done D (by omega) (by omega) ?_⟩ (by simp only;omega) kE.c.c.c.c.c rH
  exact .inl (by have:=bK d;omega)
 refine .exit<|br<|bz<|bw<|fg _ .none rH ?_
 ·have a3:b<=i:=by simp at n;omega
  exact⟨_,rfl,rfl,ys,B,z,λj k n p F=>C j k n p (by omega)⟩
theorem p3(v:Value)(xs:List ax)(T:ap)(lo k d:Nat)(R:aw)(h:OS 119 7 ax.enc v xs T)(b0:lo<=k)(S:d+k<=xs.length)(hl:xs.length<=1000000000)(hf:gN prog f caps R (λt:ax=>Value.agg t.enc.toArray) c ok)(a2:∀x∈xs,ok x)(I:SO (aS c)):
    Spec prog 257 [v,.int .i64 lo,.int .i64 k,.int .i64 d,.func (.func f) #[] caps.toArray] R [T] λu H'=>∃T',H'=[T']/\u=.tuple #[]/\∃ys,OS 119 7 ax.enc v ys T'/\RP d (d+k) xs ys/\
      (jn (λx y=>aS c y x) (xs.drop d) k lo lo->iF (λx y=>aS c y x) (ys.drop d) k lo):=by
  have iv:=h.aC
  have a7:=I.rev
  refine Spec.body func257 rfl results257 ntmps257 rfl<|.sr<|.mo rfl<|.az rfl<|.block<|.loop (X:=Nat×List ax×ap) (λy=>(lo<=y.1/\y.1<=k)/\OS 119 7 ax.enc v y.2.1 y.2.2/\RP d (d+k) xs y.2.1/\(jn (λx y=>aS c y x) (xs.drop d) k lo lo->jn (λx y=>aS c y x) (y.2.1.drop d) k lo y.1)) (λy=>[(0,v),(2,iN k),(3,iN d),(4,.func (.func f) #[] caps.toArray),(10,iN y.1)]) (λy=>[y.2.2]) (λy=>k-y.1) (lo,xs,T) ⟨⟨adI _,b0⟩,h,.refl _,λh=>h⟩ kE.c.c.c.c.c rH ?_
  rintro⟨r,ys,T1⟩ ⟨⟨a4,b2⟩,l,C,Q⟩
  simp only at a4 b2 l C Q⊢
  have c0:=C.length
  have b9:(ys.drop d).length=ys.length-d:=adP
  refine .block<|.sr<|.mo rfl<|.ia (2*r) .mul<|.ia (2*r+1) .add<|.ag rfl<|.zs<|.sr<|.mo rfl<|.mo rfl<|.q .geq<|.zn<|.cond rfl (λM=>?_) λM=>?_
  have b7:k<=2*r+1:=by have:=bV M;omega
  refine .exit (br (iJ (bz (bw ?_))))
  refine fg _ .none rH ?_
  ·refine⟨_,rfl,rfl,ys,l,C,λO=>(Q O).stop λa E G m u w g hw=>?_⟩
   (simp only[bH]at m;omega)
  have L:2*r+1<k:=by have:=bK M;omega
  obtain⟨K,B⟩:∃y,ys[d+r]? =some y:=⟨_,aQ (by omega)⟩
  obtain⟨p,n⟩:∃y,ys[d+(2*r+1)]? =some y:=⟨_,aQ (by omega)⟩
  have b5:=a2 K (C.perm.mem_iff.1 (aX B))
  have H:=a2 p (C.perm.mem_iff.1 (aX n))
  refine .kn<|.seq ?_
  refine bq.cut (X:=Nat×ax) (λz=>0<z.1/\z.1<k/\bH z.1=r/\ys[d+z.1]? =some z.2/\ok z.2/\∀a u,0<a->a<k->bH a=r->ys[d+a]? =some u->aS c z.2 u=false) (λz=>[(0,v),(2,iN k),(3,iN d),(4,.func (.func f) #[] caps.toArray),(10,iN r),(11,iN z.1)]) (λz=>[T1]) ?_ ?_
  refine .seq<|.dd 19 mixed (by kernel_rfl) ?_
  conv=>arg 6;dsimp only[List.take]
  refine .mo rfl<|.ia (2*r+2) .add<|.mo rfl<|.q .lss<|.mo rfl<|.split (t:=23) rfl (λe=>?_) (λe=>?_)
  have Z:2*r+2<k:=by have:=bV e;omega
  obtain⟨J,A⟩:∃y,ys[d+(2*r+2)]? =some y:=⟨_,aQ (by omega)⟩
  have U:=a2 J (C.perm.mem_iff.1 (aX A))
  refine .gT e<|.mo rfl<|.gT e<|.mo rfl<|.gT e<|.mo rfl<|.gT e<|.mo rfl<|.gT e<|.ia (d+(2*r+1)) .add<|.gT e ?_
  refine .aI (d+(2*r+1)) l n (λc1=>?_)
  refine .gT e<|.q (.aU rfl)<|.gT e<|.mo rfl<|.gT e<|.mo rfl<|.gT e<|.mo rfl<|.gT e<|.ia (d+(2*r+1)) .add<|.gT e<|.ia (d+(2*r+2)) .add<|.gT e ?_
  refine .aI (d+(2*r+2)) l A (λc2=>?_)
  refine .gT e<|.q (.aU rfl)<|.nil<|.gT e<|.fw (first:=[]) (captured:=caps) (vs:=[(λt:ax=>Value.agg t.enc.toArray) p,(λt:ax=>Value.agg t.enc.toArray) J]) (hf p J H U _ (λb o S=>.inl S)) (λu g=>?_)
  subst g
  refine .gT e<|.q .lss<|.q (.bx e)<|.zn<|.cond rfl (λF=>?_) λF=>?_
  have a1:∀a u,0<a->a<k->bH a=r->ys[d+a]? =some u->aS c J u=false:=λa u E G m g=>by
    have:a=2*r+1\/a=2*r+2:=by simp only[bH]at m;omega
    rcases this with rfl|rfl
    ·rw[n]at g;cases g;exact I.mi F
    ·rw[A]at g;cases g;exact I.gp _
  refine .region<|.mo rfl<|.ia (2*r+2) .add<|.ag rfl<|.nil ?_
  ·first
      |exact aL (2*r+2,J) ⟨by simp only;omega,Z,by simp only[bH];omega,A,U,a1⟩ kE.c.c.c.c.c.c rH
      |exact aL (2*r+1,p) ⟨by simp only;omega,L,by simp only[bH];omega,n,H,s⟩ kE.c.c.c.c.c.c rH
      |(have s:∀a u,0<a->a<k->bH a=r->ys[d+a]? =some u->aS c p u=false:=λa u E G m g=>by
           have:a=2*r+1\/a=2*r+2:=by simp only[bH]at m;omega
           rcases this with rfl|rfl
           ·rw[n]at g;cases g;exact I.gp _
           ·rw[A]at g;cases g;exact F
        exact aL (2*r+1,p) ⟨by simp only;omega,L,by simp only[bH];omega,n,H,s⟩ kE.c.c.c.c.c.c rH)
  refine .skip ?_
  ·first
      |exact aL (2*r+2,J) ⟨by simp only;omega,Z,by simp only[bH];omega,A,U,a1⟩ kE.c.c.c.c.c.c rH
      |exact aL (2*r+1,p) ⟨by simp only;omega,L,by simp only[bH];omega,n,H,s⟩ kE.c.c.c.c.c.c rH
      |(have s:∀a u,0<a->a<k->bH a=r->ys[d+a]? =some u->aS c p u=false:=λa u E G m g=>by
           have:a=2*r+1\/a=2*r+2:=by simp only[bH]at m;omega
           rcases this with rfl|rfl
           ·rw[n]at g;cases g;exact I.gp _
           ·rw[A]at g;cases g;exact F
        exact aL (2*r+1,p) ⟨by simp only;omega,L,by simp only[bH];omega,n,H,s⟩ kE.c.c.c.c.c.c rH)
  have s:∀a u,0<a->a<k->bH a=r->ys[d+a]? =some u->aS c p u=false:=λa u E G m g=>by
    have:a=2*r+1:=by have:=bK e;simp only[bH]at m;omega
    subst this
    rw[n]at g;cases g;exact I.gp _
  refine .gF e<|.gF e<|.gF e<|.gF e<|.gF e<|.gF e<|.gF e<|.gF e<|.gF e<|.gF e<|.gF e<|.gF e<|.gF e<|.gF e<|.nil<|.gF e<|.gF e<|.q (.bs e)<|.zn<|.di<|.skip ?_
  ·first
      |exact aL (2*r+2,J) ⟨by simp only;omega,Z,by simp only[bH];omega,A,U,a1⟩ kE.c.c.c.c.c.c rH
      |exact aL (2*r+1,p) ⟨by simp only;omega,L,by simp only[bH];omega,n,H,s⟩ kE.c.c.c.c.c.c rH
      |(have s:∀a u,0<a->a<k->bH a=r->ys[d+a]? =some u->aS c p u=false:=λa u E G m g=>by
           have:a=2*r+1\/a=2*r+2:=by simp only[bH]at m;omega
           rcases this with rfl|rfl
           ·rw[n]at g;cases g;exact I.gp _
           ·rw[A]at g;cases g;exact F
        exact aL (2*r+1,p) ⟨by simp only;omega,L,by simp only[bH];omega,n,H,s⟩ kE.c.c.c.c.c.c rH)
  intro y hy
  obtain⟨j,x⟩:=y
  obtain⟨W,a3,Y,D,a6,a0⟩:=hy
  simp only at W a3 Y D a6 a0⊢
  have b8:r<j:=Y▸eX W
  refine aB<|.seq<|.seq<|.dd 13 mixed (by kernel_rfl) ?_
  conv=>arg 6;dsimp only[List.take]
  refine .mo rfl<|.mo rfl<|.mo rfl<|.mo rfl<|.ia (d+r) .add ?_
  refine .aI (d+r) l B (λc3=>?_)
  refine .q (.aU rfl)<|.mo rfl<|.mo rfl<|.mo rfl<|.ia (d+j) .add ?_
  refine .aI (d+j) l D (λc4=>?_)
  refine .q (.aU rfl)<|.nil<|.fw (first:=[]) (captured:=caps) (vs:=[(λt:ax=>Value.agg t.enc.toArray) K,(λt:ax=>Value.agg t.enc.toArray) x]) (hf K x b5 a6 _ (λb o S=>.inl S)) (λu g=>?_)
  subst g
  refine .q .lss<|.q .not<|.zn<|.cond rfl (λN=>?_) λN=>?_
  refine .ret (ba (bF (dm (bF (bm _ .none rH ?_)))))
  ·refine⟨_,rfl,rfl,ys,l,C,λO=>(Q O).stop λa E G m u w g hw=>?_⟩
   (rw[ig]at g hw
    rw[B]at g;cases g
    have V:(!aS c K x)=true:=N
    exact a7.jx _ _ _ (a0 a w E G m hw) (by simpa using V))
  refine .kn<|.seq<|.cG [21,23] mixed<|.tO 0 rfl .move<|.tO 1 rfl .move<|.tO 2 rfl .move<|.eQ 3 rfl (.i64 ((d+r:Nat):Int) .add ⟨by omega,by omega,by omega⟩) (by kernel_rfl)<|.tK 4 rfl .move<|.tK 5 rfl .move<|.tK 6 rfl .move<|.take 7 rfl (.i64 ((d+j:Nat):Int) .add ⟨by omega,by omega,by omega⟩) (by kernel_rfl)<|.tO 8 rfl .move<|.tO 9 rfl .move<|.tO 10 rfl .move<|.eQ 11 rfl (.i64 ((d+j:Nat):Int) .add ⟨by omega,by omega,by omega⟩) (by kernel_rfl) ?_
  refine RA.aI 12 rfl (d+j) l D rfl rfl rfl (by kernel_rfl) (λc5=>?_)
  refine .tO 13 rfl (.aU rfl)<|.tO 14 rfl .move<|.tO 15 rfl .move<|.tO 16 rfl .move<|.eQ 17 rfl (.i64 ((d+r:Nat):Int) .add ⟨by omega,by omega,by omega⟩) (by kernel_rfl) ?_
  refine RA.aI 18 rfl (d+r) l B rfl rfl rfl (by kernel_rfl) (λc6=>?_)
  refine .tO 19 rfl (.aU rfl) ?_
  refine RA.aI 20 rfl (d+r) l B rfl rfl rfl (by kernel_rfl) (λc7=>?_)
  refine .sT 21 rfl<|.ei (d+r) l B x (λb6 b3=>?_) (l.one _ (aX D))
  refine .nil (Next.mod rfl ?_)
  refine RA.aI 22 rfl (d+j) l D rfl rfl rfl (by kernel_rfl) (λc8=>?_)
  refine .sT 23 rfl ?_
  obtain⟨zz,b4⟩:∃u,(ys.set (d+r) x)[d+j]? =some u:=⟨_,aQ (by rw[adJ];exact(adK.1 D).1)⟩
  refine .ei (d+j) b3 b4 K (λa8 a5=>?_) (l.one _ (aX B))
  rw[<-ej B D]at a5
  refine .nil<|Next.mod rfl<|RA.nil (by kernel_rfl)<|aB<|.region<|.mo rfl<|.ag rfl<|.nil<|bg ?_
  ·have b1:aS c K x=true:=by
      have V:(!aS c K x)=false:=N
      simpa using V
   have a9:=qH (xs:=ys) (f:=d) (i:=r) (j:=j) (by omega) (by omega)
   exact bu (j,cy ys (d+r) (d+j),a8) ⟨⟨by simp only;omega,by simp only;omega⟩,a5,C.step (by omega) (by omega) (by omega) (by omega) (by omega),λO=>by
     simp only
     rw[a9]
     exact(Q O).step a7 a4 W a3 (by omega) Y (by rw[ig];exact D) (by rw[ig];exact B) b1 λa z M F N h4=>a0 a z M F N (by rw[<-ig];exact h4)⟩ (by simp only;omega) kE.c.c.c.c.c rH
end
end STP
namespace STP
section
variable{c:ax->ax->Int}{ok:ax->Prop}{f:FuncId}{caps:List Value} [e:aP prog f]
theorem tc(v:Value)(xs:List ax)(T:ap)(a b:Nat)(R:aw)(h:OS 119 7 ax.enc v xs T)(a8:a<=b)(hb:b<=xs.length)(hl:xs.length<=1000000000)(M:gN prog f caps R (λt:ax=>Value.agg t.enc.toArray) c ok)(N:∀x∈xs,ok x)(G:SO (aS c)):
  Spec prog 234 [v,.int .i64 a,.int .i64 b,.func (.func f) #[] caps.toArray] R [T] λu H'=>∃T',H'=[T']/\u=.tuple #[]/\∃ys,OS 119 7 ax.enc v ys T'/\RP a b xs ys/\SR (aS c) ys a b:=by
 have a6:=G.rev
 obtain⟨n,hn⟩:∃n,b=a+n:=⟨b-a,by omega⟩
 subst hn
 refine Spec.body func234 rfl results234 ntmps234 rfl<|.sr<|.mo rfl<|.ag rfl<|.z<|.ag rfl<|.z<|.mo rfl<|.mo rfl<|.ia (n) .sub<|.ag rfl<|.zs<|.sr<|.mo rfl<|.q (.i64 ((n:Int)-1) .sub ⟨rfl,by omega,by omega⟩)<|.q (.i64 (((n-1)/2:Nat):Int) .quo ⟨uE,by omega,by omega⟩)<|.az rfl<|.block<|.loop (X:=Nat×Int×List ax×ap) (λy=>(y.2.1=(y.1:Int)-1/\y.1<=n+1)/\OS 119 7 ax.enc v y.2.2.1 y.2.2.2/\RP a (a+n) xs y.2.2.1/\iF (λx y=>aS c y x) (y.2.2.1.drop a) n y.1) (λy=>[(0,v),(3,.func (.func f) #[] caps.toArray),(8,iN a),(9,.int .i64 ((0:Nat):Int)),(10,iN n),(11,.int .i64 y.2.1)]) (λy=>[y.2.2.2]) (λy=>y.1) ((n-1)/2+1,(((n-1)/2:Nat):Int),xs,T) ⟨⟨by simp only;omega,by simp only;omega⟩,h,.refl _,λk V hk hp=>by simp only[bH]at hp;omega⟩ kE.c.c.c.c.c.c rH ?_
 rintro⟨m,z,ys,H⟩ ⟨⟨hz,hm⟩,C,r,B⟩
 simp only at hz hm C r B⊢
 have a9:=r.length
 refine .seq<|.sr<|.mo rfl<|.q .geq<|.zn<|.cond rfl (λo=>?_) λo=>?_
 have a3:0<=z:=bV o
 obtain⟨k,rfl⟩:∃k,m=k+1:=⟨m-1,by omega⟩
 obtain rfl:z=(k:Int):=by omega
 refine .kn<|.seq<|.block<|.region<|.mo rfl<|.mo rfl<|.mo rfl<|.mo rfl<|.mo rfl<|.bQ (p3 (c:=c) (ok:=ok) v ys H k n a _ C (by omega) (by omega) (by omega) M (λx e=>N x (r.perm.mem_iff.1 e)) G) (λu I F=>?_)
 obtain⟨rfl,g,d,l,p⟩:=F
 refine .nil<|bg<|aB<|.region<|.mo rfl<|.q (.i64 ((k:Int)-1) .sub ⟨rfl,by omega,by omega⟩)<|.ag rfl<|.nil ?_
 ·exact bu (k,(k:Int)-1,g,I) ⟨⟨rfl,by simp only;omega⟩,d,r.trans l,p B.hole⟩ (by simp only;omega) kE.c.c.c.c.c.c rH
 have E:m=0:=by have:=bK o;omega
 subst E
 refine .exit<|br<|bz<|bw<|aB<|.sr<|.mo rfl<|.q (.i64 ((n:Int)-1) .sub ⟨rfl,by omega,by omega⟩)<|.az rfl<|.block<|.loop (X:=Nat×Int×List ax×ap) (λy=>(y.2.1=(y.1:Int)-1/\y.1<=n)/\OS 119 7 ax.enc v y.2.2.1 y.2.2.2/\RP a (a+n) xs y.2.2.1/\iF (λx y=>aS c y x) (y.2.2.1.drop a) y.1 0/\OX (aS c) y.2.2.1 a (a+n) a (a+y.1)) (λy=>[(0,v),(3,.func (.func f) #[] caps.toArray),(8,iN a),(9,.int .i64 ((0:Nat):Int)),(10,iN n),(12,.int .i64 y.2.1)]) (λy=>[y.2.2.2]) (λy=>y.1) (n,(n:Int)-1,ys,H) ⟨⟨rfl,adI _⟩,C,r,B,OX.start⟩ kE.c.c.c.c.c.c rH ?_
 rintro⟨m,Q,g,I⟩ ⟨⟨a4,a1⟩,d,l,p,D⟩
 simp only at a4 a1 d l p D⊢
 have b0:=l.length
 refine .seq<|.sr<|.mo rfl<|.q .geq<|.zn<|.cond rfl (λA=>?_) λA=>?_
 have a3:0<=Q:=bV A
 obtain⟨k,rfl⟩:∃k,m=k+1:=⟨m-1,by omega⟩
 obtain rfl:Q=(k:Int):=by omega
 obtain⟨x,e⟩:∃x,g[a]? =some x:=⟨_,aQ (by omega)⟩
 obtain⟨y,s⟩:∃x,g[a+k]? =some x:=⟨_,aQ (by omega)⟩
 refine .kn<|.seq<|.block<|.seq<|.cG [17,19] mixed<|.tO 0 rfl .move<|.tO 1 rfl .move<|.tK 2 rfl .move<|.tK 3 rfl .move<|.tK 4 rfl .move<|.take 5 rfl (.i64 ((a+k:Nat):Int) .add ⟨by omega,by omega,by omega⟩) (by kernel_rfl)<|.tO 6 rfl .move<|.tO 7 rfl .move<|.tO 8 rfl .move<|.eQ 9 rfl (.i64 ((a+k:Nat):Int) .add ⟨by omega,by omega,by omega⟩) (by kernel_rfl) ?_
 refine RA.aI 10 rfl (a+k) d s rfl rfl rfl (by kernel_rfl) (λb1=>?_)
 refine .tO 11 rfl (.aU rfl)<|.tO 12 rfl .move<|.tO 13 rfl .move ?_
 refine RA.aI 14 rfl (a) d e rfl rfl rfl (by kernel_rfl) (λb2=>?_)
 refine .tO 15 rfl (.aU rfl) ?_
 refine RA.aI 16 rfl (a) d e rfl rfl rfl (by kernel_rfl) (λb3=>?_)
 refine .sT 17 rfl<|.ei (a) d e y (λa7 a2=>?_) (d.one _ (aX s))
 refine .nil (Next.mod rfl ?_)
 refine RA.aI 18 rfl (a+k) d s rfl rfl rfl (by kernel_rfl) (λb4=>?_)
 refine .sT 19 rfl ?_
 obtain⟨zz,a5⟩:∃u,(g.set (a) y)[a+k]? =some u:=⟨_,aQ (by rw[adJ];exact(adK.1 s).1)⟩
 refine .ei (a+k) a2 a5 x (λU O=>?_) (d.one _ (aX e))
 rw[<-ej e s]at O
 refine .nil<|Next.mod rfl<|RA.nil (by kernel_rfl)<|aB<|.region<|.mo rfl<|.mo rfl<|.mo rfl<|.mo rfl<|.mo rfl ?_
 have L:=qH (xs:=g) (f:=a) (i:=0) (j:=k) (by omega) (by omega)
 have J:=l.step (i:=a) (j:=a+k) (by omega) (by omega) (by omega) (by omega) (by omega)
 have a0:=OX.last (m:=a+k) (x:=x) D (by omega) (by omega) (by omega) e (λj w o W hw=>iF.top a6 p (by rw[adP];omega) (x:=x) (by rw[ig];exact e) (j-a) w (by omega) (by rw[ig,show a+(j-a)=j by omega];exact hw))
 refine .bQ (p3 (c:=c) (ok:=ok) v (cy g a (a+k)) U 0 k a _ O (by omega) (by rw[li];omega) (by rw[li];omega) M (λx e=>N x (J.perm.mem_iff.1 e)) G) (λu S F=>?_)
 obtain⟨rfl,ws,Z,K,Y⟩:=F
 refine .nil<|bg<|aB<|.region<|.mo rfl<|.q (.i64 ((k:Int)-1) .sub ⟨rfl,by omega,by omega⟩)<|.ag rfl<|.nil ?_
 ·exact bu (k,(k:Int)-1,ws,S) ⟨⟨rfl,by simp only;omega⟩,Z,J.trans (K.mono (adI a) (by omega) (by rw[li];omega)),Y (p.xz λj V hj=>by
   rw[Nat.add_zero]at L
   rw[L,fq (by rw[adP];omega) (by rw[adP];omega),adM (by omega),adM (by omega)]),a0.rp K (adI _) (by omega)⟩ (by simp only;omega) kE.c.c.c.c.c.c rH
 refine .exit<|br<|bz<|bw<|fg _ .none rH ?_
 ·have E:m=0:=by have:=bK A;omega
  subst E
  exact⟨_,rfl,rfl,g,d,l,D.mN λi j o A W=>by omega⟩
theorem ud(v:Value)(xs:List ax)(T:ap)(a b:Nat)(R:aw)(k:Value)(D:One k)(h:OS 119 7 ax.enc v xs T)(B:a<b)(C:b<=xs.length)(E:xs.length<=1000000000):
  Spec prog 237 [v,.int .i64 a,.int .i64 b,k] R [T] λu H'=>∃T',H'=[T']/\u=.tuple #[]/\∃ys,OS 119 7 ax.enc v ys T'/\RP a b xs ys:=by
 refine Spec.body func237 rfl results237 ntmps237 rfl<|.sr<|.mo rfl<|.ag rfl<|.z<|.mo rfl<|.ia (b-1) .sub<|.az rfl<|.block<|.loop (X:=Nat×Nat×List ax×ap) (λy=>(a<=y.1/\y.1<=y.2.1+1/\y.2.1<b)/\OS 119 7 ax.enc v y.2.2.1 y.2.2.2/\RP a b xs y.2.2.1) (λy=>[(0,v),(8,iN y.1),(9,iN y.2.1)]) (λy=>[y.2.2.2]) (λy=>b-y.1) (a,b-1,xs,T) ⟨⟨adI _,by simp only;omega,by simp only;omega⟩,h,.refl _⟩ kE.c.c.c rH ?_
 rintro⟨i,j,ys,w⟩ ⟨⟨o,p,r⟩,d,g⟩
 simp only at o p r d g⊢
 have F:=g.length
 refine .seq<|.sr<|.mo rfl<|.mo rfl<|.q .lss<|.zn<|.cond rfl (λl=>?_) λl=>?_
 have G:i<j:=cV l
 obtain⟨x,e⟩:∃x,ys[i]? =some x:=⟨_,aQ (by omega)⟩
 obtain⟨y,f⟩:∃x,ys[j]? =some x:=⟨_,aQ (by omega)⟩
 refine .kn<|.block<|.seq<|.cG [13,15] mixed<|.tO 0 rfl .move<|.tO 1 rfl .move<|.tK 2 rfl .move<|.tK 3 rfl .move<|.tO 4 rfl .move<|.tO 5 rfl .move ?_
 refine RA.aI 6 rfl (j) d f rfl rfl rfl (by kernel_rfl) (λH=>?_)
 refine .tO 7 rfl (.aU rfl)<|.tO 8 rfl .move<|.tO 9 rfl .move ?_
 refine RA.aI 10 rfl (i) d e rfl rfl rfl (by kernel_rfl) (λI=>?_)
 refine .tO 11 rfl (.aU rfl) ?_
 refine RA.aI 12 rfl (i) d e rfl rfl rfl (by kernel_rfl) (λJ=>?_)
 refine .sT 13 rfl<|.ei (i) d e y (λA s=>?_) (d.one _ (aX f))
 refine .nil (Next.mod rfl ?_)
 refine RA.aI 14 rfl (j) d f rfl rfl rfl (by kernel_rfl) (λK=>?_)
 refine .sT 15 rfl ?_
 obtain⟨L,t⟩:∃u,(ys.set (i) y)[j]? =some u:=⟨_,aQ (by rw[adJ];exact(adK.1 f).1)⟩
 refine .ei (j) s t x (λn m=>?_) (d.one _ (aX e))
 rw[<-ej e f]at m
 refine .nil<|Next.mod rfl<|RA.nil (by kernel_rfl)<|aB<|.sr<|.mo rfl<|.ia (i+1) .add<|.az rfl<|.region<|.mo rfl<|.ia (j-1) .sub<|.ag rfl<|.nil<|bg ?_
 ·exact bu (i+1,j-1,cy ys i j,n) ⟨⟨by simp only;omega,by simp only;omega,by simp only;omega⟩,m,g.step (by omega) (by omega) (by omega) (by omega) (by omega)⟩ (by simp only;omega) kE.c.c.c rH
 refine .exit<|br<|bz<|bw<|fg _ .none rH ?_
 ·exact⟨_,rfl,rfl,ys,d,g⟩
theorem sD(v:Value)(xs:List ax)(T:ap)(a b:Nat)(R:aw)(s:Value)(V:One s)(h:OS 119 7 ax.enc v xs T)(S:a<=b)(U:b<=xs.length)(Y:xs.length<=1000000000):
  Spec prog 235 [v,.int .i64 a,.int .i64 b,s] R [T] λu H'=>∃T',H'=[T']/\u=.tuple #[]/\∃ys,OS 119 7 ax.enc v ys T'/\RP a b xs ys:=by
 have iv:=h.aC
 obtain⟨n,J⟩:∃n,b=a+n:=⟨b-a,by omega⟩
 subst J
 refine Spec.body func235 rfl results235 ntmps235 rfl<|.sr<|.mo rfl<|.mo rfl<|.ia (n) .sub<|.ag rfl<|.z<|.mo rfl<|.q .geq<|.zn<|.cond rfl (λt=>?_) λt=>?_
 have a2:8<=n:=by have:=bV t;omega
 obtain⟨q,D⟩:∃q,q=n/4:=⟨_,rfl⟩
 refine .sr<|.mo rfl<|.q .m4 ?_
 refine .nZ (λe=>?_)
 refine .du rfl rfl<|.z<|.mo rfl<|.bj (yq n (by omega) (by omega) _) (λu r=>?_)
 obtain⟨j,rfl,a0,a1⟩:=r
 refine .ag rfl<|.z<|.mo rfl<|.mo rfl<|.q (.i64 ((q:Nat):Int) .quo ⟨by rw[D,adN (by omega)];omega,by omega,by omega⟩)<|.ia (q*2) .mul<|.ia (a+q*2) .add<|.ia (a+q*2-1) .sub<|.az rfl<|.block<|.loop (X:=Nat×Int×List ax×ap) (λy=>(a+q*2-1<=y.1/\y.1<=a+q*2+2)/\OS 119 7 ax.enc v y.2.2.1 y.2.2.2/\RP a (a+n) xs y.2.2.1) (λy=>[(0,v),(1,iN a),(8,iN n),(9,pT e),(10,.int .u64 (j:Nat)),(11,iN y.1)]) (λy=>[bl e [.int .u64 y.2.1] 385,y.2.2.2]) (λy=>a+q*2+2-y.1) (a+q*2-1,_,xs,T) ⟨⟨adI _,by simp only;omega⟩,h,.refl _⟩ kE.c.c.c.c.c.c rH ?_
 rintro⟨i,z,ys,F⟩ ⟨⟨H,I⟩,d,k⟩
 simp only at H I d k⊢
 have Z:=k.length
 refine .seq<|.sr<|.mo rfl<|.mo rfl<|.mo rfl<|.q (.i64 ((q:Nat):Int) .quo ⟨by rw[D,adN (by omega)];omega,by omega,by omega⟩)<|.ia (q*2) .mul<|.ia (a+q*2) .add<|.ia (a+q*2+1) .add<|.q .leq<|.zn<|.cond rfl (λA=>?_) λA=>?_
 have W:i<=a+q*2+1:=by have:=bV A;omega
 refine .kn<|.seq<|.block<|.sr<|.bQ (zh e z _) (λu O r=>?_)
 obtain⟨l,rfl,rfl⟩:=r
 refine .mo rfl<|.q (bd.cast (v':=.int .u64 ((j-1:Nat):Int)) .sub (by rw[nS (by omega) (by omega)];congr 1;omega)) ?_
 have B:=vA (z:=l) (q:=((j-1:Nat):Int)) (by omega) (by omega)
 obtain⟨o,C⟩:∃o:Nat,IntKind.u64.wrap (BitVec.ofInt IntKind.u64.bits l&&&BitVec.ofInt IntKind.u64.bits ((j-1:Nat):Int)).toNat=(o:Int):=⟨_,(Int.toNat_of_nonneg B.1).symm⟩
 refine .q (bd.cast (v':=.int .u64 ((o:Nat):Int)) .vz (by rw[C])) ?_
 rw[C]at B
 refine .q (bd.cast (v':=.int .i64 ((o:Nat):Int)) .m4 (by rw[Ar (by omega) (by omega)]))<|.ag rfl<|.zs ?_
 refine bq.cut (X:=Nat) (λp=>p<n) (λp=>[(0,v),(1,iN a),(8,iN n),(9,pT e),(10,.int .u64 (j:Nat)),(11,iN i),(12,iN p)]) (λ_=>[bl e [.int .u64 l] 385,F]) ?_ ?_
 refine .sr<|.mo rfl<|.mo rfl<|.q .geq<|.zn<|.cond rfl (λm=>?_) λm=>?_
 have K:n<=o:=by have:=bV m;omega
 refine .region<|.mo rfl<|.mo rfl<|.ia (o-n) .sub<|.ag rfl<|.nil ?_
 ·exact aL (o-n) (by omega) kE.c.c.c.c.c.c.c rH
 have K:o<n:=by have:=bK m;omega
 refine .skip ?_
 ·exact aL o (by omega) kE.c.c.c.c.c.c.c rH
 intro y M
 have a3:y<n:=M
 obtain⟨p,rfl⟩:∃p,p=y:=⟨_,rfl⟩
 obtain⟨x,g⟩:∃x,ys[i]? =some x:=⟨_,aQ (by omega)⟩
 obtain⟨w,f⟩:∃x,ys[a+p]? =some x:=⟨_,aQ (by omega)⟩
 refine aB<|.cG [17,19] mixed<|.tO 0 rfl .move<|.tO 1 rfl .move<|.tK 2 rfl .move<|.tK 3 rfl .move<|.tK 4 rfl .move<|.take 5 rfl (.i64 ((a+p:Nat):Int) .add ⟨by omega,by omega,by omega⟩) (by kernel_rfl)<|.tO 6 rfl .move<|.tO 7 rfl .move<|.tO 8 rfl .move<|.eQ 9 rfl (.i64 ((a+p:Nat):Int) .add ⟨by omega,by omega,by omega⟩) (by kernel_rfl) ?_
 refine RA.aI 10 rfl (a+p) d f rfl rfl rfl (by kernel_rfl) (λa4=>?_)
 refine .tO 11 rfl (.aU rfl)<|.tO 12 rfl .move<|.tO 13 rfl .move ?_
 refine RA.aI 14 rfl (i) d g rfl rfl rfl (by kernel_rfl) (λa5=>?_)
 refine .tO 15 rfl (.aU rfl) ?_
 refine RA.aI 16 rfl (i) d g rfl rfl rfl (by kernel_rfl) (λa6=>?_)
 refine .sT 17 rfl<|.ei (i) d g w (λQ L=>?_) (d.one _ (aX f))
 refine .nil (Next.mod rfl ?_)
 refine RA.aI 18 rfl (a+p) d f rfl rfl rfl (by kernel_rfl) (λa7=>?_)
 refine .sT 19 rfl ?_
 obtain⟨zz,N⟩:∃u,(ys.set (i) w)[a+p]? =some u:=⟨_,aQ (by rw[adJ];exact(adK.1 f).1)⟩
 refine .ei (a+p) L N x (λG E=>?_) (d.one _ (aX g))
 rw[<-ej g f]at E
 refine .nil<|Next.mod rfl<|RA.nil (by kernel_rfl)<|bg<|aB<|.region<|.mo rfl<|.ia (i+1) .add<|.ag rfl<|.nil ?_
 ·exact bu (i+1,l,cy ys i (a+p),G) ⟨⟨by simp only;omega,by simp only;omega⟩,E,k.step (by omega) (by omega) (by omega) (by omega) (by omega)⟩ (by simp only;omega) kE.c.c.c.c.c.c rH
 refine .exit<|br<|bz<|bw<|fg _ .none (aT [1]) ?_
 ·exact⟨_,rfl,rfl,ys,d,k⟩
 refine .skip<|fg _ .none rH ?_
 ·exact⟨_,rfl,rfl,xs,h,.refl _⟩
end
end STP
namespace STP
section
variable{c:ax->ax->Int}{ok:ax->Prop}{f:FuncId}{caps:List Value} [e:aP prog f]
theorem tN(v:Value)(xs:List ax)(T:ap)(a b:Nat)(R:aw)(h:OS 119 7 ax.enc v xs T)(b5:a<b)(O:b<=xs.length)(hl:xs.length<=1000000000)(hf:gN prog f caps R (λt:ax=>Value.agg t.enc.toArray) c ok)(Q:∀x∈xs,ok x)(so:SO (aS c))(c4:LB (aS c) xs a b):
  Spec prog 238 [v,.int .i64 a,.int .i64 b,.func (.func f) #[] caps.toArray] R [T] λu H'=>∃T',H'=[T']/\∃ys m,u=.bool m/\OS 119 7 ax.enc v ys T'/\RP a b xs ys/\(m=true->SR (aS c) ys a b):=by
 refine Spec.body func238 rfl results238 ntmps238 rfl ?_
 refine .sr<|.ag rfl<|.z<|.mo rfl ?_
 refine .ia (a+1) .add ?_
 refine .ag rfl<|.zs<|.sr<|.az rfl<|.block ?_
 refine .loop (X:=Nat×Nat×List ax×ap) (λy=>(y.1<=5/\a+1<=y.2.1/\y.2.1<=b)/\OS 119 7 ax.enc v y.2.2.1 y.2.2.2/\RP a b xs y.2.2.1/\SR (aS c) y.2.2.1 a y.2.1) (λy=>[(0,v),(1,iN a),(2,iN b),(3,.func (.func f) #[] caps.toArray),(9,iN y.2.1),(10,iN y.1)]) (λy=>[y.2.2.2]) (λy=>5-y.1) (0,a+1,xs,T) ⟨⟨by omega,adI _,b5⟩,h,.refl _,λi j Z h2 N=>by simp only at N;omega⟩ kE.c.c.c.c.c.c rH ?_
 rintro⟨n,i,ys,T1⟩ ⟨⟨hn,H,I⟩,r,K,D⟩
 simp only at hn H I r K D⊢
 have c8:=K.length
 refine .seq<|.sr<|.mo rfl<|.q .lss<|.zn ?_
 refine .cond rfl (λZ=>?_) λZ=>?_
 have d1:n<5:=cV Z
 refine .kn<|.seq<|.block<|.seq ?_
 refine bq.cut (X:=Nat) (λi=>(a+1<=i/\i<=b)/\SR (aS c) ys a i) (λi=>[(0,v),(1,iN a),(2,iN b),(3,.func (.func f) #[] caps.toArray),(9,iN i),(10,iN n)]) (λ_=>[T1]) ?_ ?_
 refine .block ?_
 refine .loop (X:=Nat) (λi=>(a+1<=i/\i<=b)/\SR (aS c) ys a i) (λi=>[(0,v),(1,iN a),(2,iN b),(3,.func (.func f) #[] caps.toArray),(9,iN i),(10,iN n)]) (λ_=>[T1]) (λi=>b-i) i ⟨⟨H,I⟩,D⟩ kE.c.c.c.c.c.c rH ?_
 clear H I D
 rintro i ⟨⟨H,I⟩,D⟩
 refine .seq<|.seq ?_
 refine .dd 14 mixed (by kernel_rfl) ?_
 conv=>arg 6;dsimp only[List.take]
 refine .mo rfl<|.mo rfl<|.q .lss<|.mo rfl ?_
 refine .split (t:=22) rfl (λe=>?_) (λe=>?_)
 have c3:i<b:=by have:=bV e;omega
 obtain⟨x,E⟩:∃x,ys[i]? =some x:=⟨_,aQ (by omega)⟩
 obtain⟨y,A⟩:∃x,ys[i-1]? =some x:=⟨_,aQ (by omega)⟩
 have c6:=Q x (K.perm.mem_iff.1 (aX E))
 have c7:=Q y (K.perm.mem_iff.1 (aX A))
 refine .gT e<|.mo rfl<|.gT e<|.mo rfl<|.gT e<|.mo rfl<|.gT e ?_
 refine .aI i r E (λe1=>?_)
 refine .gT e<|.q (.aU rfl)<|.gT e<|.mo rfl<|.gT e<|.mo rfl<|.gT e ?_
 refine .ia (i-1) .sub ?_
 refine .gT e ?_
 refine .aI (i-1) r A (λe2=>?_)
 refine .gT e<|.q (.aU rfl)<|.nil<|.gT e ?_
 refine .fw (first:=[]) (captured:=caps) (vs:=[(λt:ax=>Value.agg t.enc.toArray) x,(λt:ax=>Value.agg t.enc.toArray) y]) (hf x y c6 c7 _ (λb o O=>.inl O)) (λu F=>?_)
 subst F
 refine .gT e<|.q .lss<|.gT e<|.q .not<|.q (.bx e) ?_
 refine .zn ?_
 refine .cond rfl (λh2=>?_) λh2=>?_
 refine .kn<|.block<|.region<|.mo rfl ?_
 refine .ia (i+1) .add ?_
 refine .ag rfl<|.nil<|bg ?_
 ·have c5:aS c x y=false:=by
   have b8:(!aS c x y)=true:=h2
   simpa using b8
  exact bu (i+1) ⟨⟨by omega,by omega⟩,D.snoc so (by omega) (by omega) λu w F W=>by
   rw[A]at F;rw[E]at W;cases F;cases W;exact c5⟩ (by omega) kE.c.c.c.c.c.c rH
 refine .exit<|br<|bz<|bw ?_
 exact aL i ⟨⟨H,I⟩,D⟩ kE.c.c.c.c.c.c rH
 refine .gF e<|.gF e<|.gF e<|.gF e<|.gF e<|.gF e<|.gF e<|.gF e<|.gF e<|.gF e<|.nil<|.gF e<|.gF e<|.gF e<|.q (.bs e) ?_
 refine .zn<|.di<|.exit<|br<|bz<|bw ?_
 exact aL i ⟨⟨H,I⟩,D⟩ kE.c.c.c.c.c.c rH
 intro x E
 obtain⟨d,b6⟩:∃d,d=x:=⟨_,rfl⟩
 rw[<-b6]at E⊢
 clear b6 x H I D
 obtain⟨⟨H,I⟩,D⟩:=E
 refine aB<|.seq<|.sr<|.mo rfl<|.mo rfl<|.q .cr<|.zn ?_
 refine .cond rfl (λN=>?_) λN=>?_
 refine .sr<|.az rfl ?_
 refine .ret (ba (bF (ba (dm (bF (ba (bm _ (.one (.tmp rfl)) rH ?_)))))))
 ·have c2:d=b:=by
   have b9:((d:Int)=b):=by simpa using N
   omega
  exact⟨_,rfl,ys,true,rfl,r,K,λ_=>c2▸D⟩
 have c3:d<b:=by
  have b9:¬((d:Int)=b):=by simpa using N
  omega
 obtain⟨x,E⟩:∃x,ys[d]? =some x:=⟨_,aQ (by omega)⟩
 obtain⟨y,A⟩:∃x,ys[d-1]? =some x:=⟨_,aQ (by omega)⟩
 refine .kn<|.seq<|.sr<|.mo rfl<|.mo rfl ?_
 refine .ia (b-a) .sub ?_
 refine .q .lss<|.zn ?_
 refine .cond rfl (λh4=>?_) λh4=>?_
 refine .sr<|.az rfl ?_
 refine .ret (ba (bF (ba (dm (bF (ba (bm _ (.one (.tmp rfl)) rH ?_)))))))
 ·exact⟨_,rfl,ys,false,rfl,r,K,λh=>by cases h⟩
 refine .kn<|.seq<|.cG [15,17] mixed ?_
 refine .tO 0 rfl .move<|.tO 1 rfl .move<|.tK 2 rfl .move<|.tK 3 rfl .move ?_
 refine .take 4 rfl (.i64 ((d-1:Nat):Int) .sub ⟨by omega,by omega,by omega⟩) (by kernel_rfl) ?_
 refine .tO 5 rfl .move<|.tO 6 rfl .move ?_
 refine .eQ 7 rfl (.i64 ((d-1:Nat):Int) .sub ⟨by omega,by omega,by omega⟩) (by kernel_rfl) ?_
 refine RA.aI 8 rfl (d-1) r A rfl rfl rfl (by kernel_rfl) (λe3=>?_)
 refine .tO 9 rfl (.aU rfl)<|.tO 10 rfl .move<|.tO 11 rfl .move ?_
 refine RA.aI 12 rfl (d) r E rfl rfl rfl (by kernel_rfl) (λe4=>?_)
 refine .tO 13 rfl (.aU rfl) ?_
 refine RA.aI 14 rfl (d) r E rfl rfl rfl (by kernel_rfl) (λe5=>?_)
 refine .sT 15 rfl ?_
 refine .ei (d) r E y (λb0 V=>?_) (r.one _ (aX A))
 refine .nil (Next.mod rfl ?_)
 refine RA.aI 16 rfl (d-1) r A rfl rfl rfl (by kernel_rfl) (λe6=>?_)
 refine .sT 17 rfl ?_
 obtain⟨zz,Y⟩:∃u,(ys.set (d) y)[d-1]? =some u:=⟨_,aQ (by rw[adJ];exact(adK.1 A).1)⟩
 refine .ei (d-1) V Y x (λM J=>?_) (r.one _ (aX E))
 rw[<-ej E A]at J
 refine .nil (Next.mod rfl ?_)
 refine RA.nil (by kernel_rfl) ?_
 have b2:=K.step (i:=d) (j:=d-1) (by omega) (by omega) (by omega) (by omega) (by omega)
 have c0:=D.z9 (by omega)
 clear D
 refine aB<|.seq ?_
 refine bq.cut (X:=List ax×ap) (λz=>OS 119 7 ax.enc v z.1 z.2/\RP a b xs z.1/\SR (aS c) z.1 a d) (λ_=>[(0,v),(1,iN a),(2,iN b),(3,.func (.func f) #[] caps.toArray),(9,iN d),(10,iN n)]) (λz=>[z.2]) ?_ ?_
 refine .sr<|.mo rfl<|.mo rfl ?_
 refine .ia (d-a) .sub ?_
 refine .q .geq<|.zn ?_
 refine .cond rfl (λh5=>?_) λh5=>?_
 refine .sr<|.mo rfl ?_
 refine .ia (d-1) .sub ?_
 refine .az rfl<|.block ?_
 refine .loop (X:=Nat×List ax×ap) (λz=>(a<=z.1/\z.1<=d-1)/\OS 119 7 ax.enc v z.2.1 z.2.2/\RP a b xs z.2.1/\ke (aS c) z.2.1 a z.1 d) (λz=>[(0,v),(1,iN a),(2,iN b),(3,.func (.func f) #[] caps.toArray),(9,iN d),(10,iN n),(11,iN z.1)]) (λz=>[z.2.2]) (λz=>z.1) (d-1,cy ys d (d-1),M) ⟨⟨by simp only;omega,adI _⟩,J,b2,c0⟩ kE.c.c.c.c.c.c.c rH ?_
 rintro⟨q,G,U⟩ ⟨⟨a6,a7⟩,l,C,a0⟩
 simp only at a6 a7 l C a0⊢
 have c9:=C.length
 refine .seq<|.sr<|.mo rfl<|.q .geq<|.zn ?_
 refine .cond rfl (λh6=>?_) λh6=>?_
 have d2:1<=q:=by have:=bV h6;omega
 obtain⟨s,g⟩:∃x,G[q]? =some x:=⟨_,aQ (by omega)⟩
 obtain⟨t,k⟩:∃x,G[q-1]? =some x:=⟨_,aQ (by omega)⟩
 have a8:=Q s (C.perm.mem_iff.1 (aX g))
 have a9:=Q t (C.perm.mem_iff.1 (aX k))
 refine .kn<|.seq<|.block<|.seq<|.seq ?_
 refine .dd 10 mixed (by kernel_rfl) ?_
 conv=>arg 6;dsimp only[List.take]
 refine .mo rfl<|.mo rfl<|.mo rfl ?_
 refine .aI q l g (λe7=>?_)
 refine .q (.aU rfl)<|.mo rfl<|.mo rfl ?_
 refine .ia (q-1) .sub ?_
 refine .aI (q-1) l k (λe8=>?_)
 refine .q (.aU rfl)<|.nil ?_
 refine .fw (first:=[]) (captured:=caps) (vs:=[(λt:ax=>Value.agg t.enc.toArray) s,(λt:ax=>Value.agg t.enc.toArray) t]) (hf s t a8 a9 _ (λb o O=>.inl O)) (λu F=>?_)
 subst F
 refine .q .lss<|.q .not<|.zn ?_
 refine .cond rfl (λh7=>?_) λh7=>?_
 have a4:SR (aS c) G a d:=a0.done so (by omega) (by omega) (by
  have a2:(!aS c s t)=true:=h7
  rcases adS a q with hh|hh
  ·exact .inr ⟨hh,λu w F W=>by rw[k]at F;rw[g]at W;cases F;cases W;simpa using a2⟩
  ·exact .inl (by omega))
 refine .exit (br (iJ (br (bz (bw ?_)))))
 ·exact aL (G,U) ⟨l,C,a4⟩ kE.c.c.c.c.c.c rH
 have a5:aS c s t=true:=by
  have a2:(!aS c s t)=false:=h7
  simpa using a2
 have c1:a<q:=by
  rcases adS a q with hh|hh
  ·exact hh
  ·have ea:q=a:=by omega
   subst ea
   have:=(c4.rp C) (by omega) q (adI _) b5 t s k g
   rw[this]at a5;cases a5
 refine .kn<|.cG [15,17] mixed ?_
 refine .tO 0 rfl .move<|.tO 1 rfl .move<|.tK 2 rfl .move<|.tK 3 rfl .move ?_
 refine .take 4 rfl (.i64 ((q-1:Nat):Int) .sub ⟨by omega,by omega,by omega⟩) (by kernel_rfl) ?_
 refine .tO 5 rfl .move<|.tO 6 rfl .move ?_
 refine .eQ 7 rfl (.i64 ((q-1:Nat):Int) .sub ⟨by omega,by omega,by omega⟩) (by kernel_rfl) ?_
 refine RA.aI 8 rfl (q-1) l k rfl rfl rfl (by kernel_rfl) (λe9=>?_)
 refine .tO 9 rfl (.aU rfl)<|.tO 10 rfl .move<|.tO 11 rfl .move ?_
 refine RA.aI 12 rfl (q) l g rfl rfl rfl (by kernel_rfl) (λf0=>?_)
 refine .tO 13 rfl (.aU rfl) ?_
 refine RA.aI 14 rfl (q) l g rfl rfl rfl (by kernel_rfl) (λf1=>?_)
 refine .sT 15 rfl ?_
 refine .ei (q) l g t (λb0 V=>?_) (l.one _ (aX k))
 refine .nil (Next.mod rfl ?_)
 refine RA.aI 16 rfl (q-1) l k rfl rfl rfl (by kernel_rfl) (λd4=>?_)
 refine .sT 17 rfl ?_
 obtain⟨zz,Y⟩:∃u,(G.set (q) t)[q-1]? =some u:=⟨_,aQ (by rw[adJ];exact(adK.1 k).1)⟩
 refine .ei (q-1) V Y s (λM J=>?_) (l.one _ (aX g))
 rw[<-ej g k]at J
 refine .nil (Next.mod rfl ?_)
 refine RA.nil (by kernel_rfl) ?_
 refine bg<|aB<|.region<|.mo rfl ?_
 refine .ia (q-1) .sub ?_
 refine .ag rfl<|.nil ?_
 ·exact bu (q-1,cy G q (q-1),M) ⟨⟨by simp only;omega,by simp only;omega⟩,J,C.step (by omega) (by omega) (by omega) (by omega) (by omega),a0.step so (by omega) (by omega) c1 g k a5⟩ (by simp only;omega) kE.c.c.c.c.c.c.c rH
 have a4:SR (aS c) G a d:=a0.done so (by omega) (by omega) (.inl (by have:=bK h6;omega))
 refine .exit<|br<|bz<|bw ?_
 ·exact aL (G,U) ⟨l,C,a4⟩ kE.c.c.c.c.c.c rH
 refine .skip ?_
 ·exact aL (cy ys d (d-1),M) ⟨J,b2,λp q Z h2 N=>by have:=bK h5;omega⟩ kE.c.c.c.c.c.c rH
 intro y A
 obtain⟨G,U⟩:=y
 obtain⟨l,C,a3⟩:=A
 simp only at l C a3⊢
 refine aB ?_
 refine bq.cut (X:=List ax×ap) (λz=>OS 119 7 ax.enc v z.1 z.2/\RP a b xs z.1/\SR (aS c) z.1 a d) (λ_=>[(0,v),(1,iN a),(2,iN b),(3,.func (.func f) #[] caps.toArray),(9,iN d),(10,iN n)]) (λz=>[z.2]) ?_ ?_
 refine .sr<|.mo rfl<|.mo rfl ?_
 refine .ia (b-d) .sub ?_
 refine .q .geq<|.zn ?_
 refine .cond rfl (λh8=>?_) λh8=>?_
 refine .sr<|.mo rfl ?_
 refine .ia (d+1) .add ?_
 refine .az rfl<|.block ?_
 refine .loop (X:=Nat×List ax×ap) (λz=>(d+1<=z.1/\z.1<=b)/\OS 119 7 ax.enc v z.2.1 z.2.2/\RP a b xs z.2.1/\SR (aS c) z.2.1 a d) (λz=>[(0,v),(1,iN a),(2,iN b),(3,.func (.func f) #[] caps.toArray),(9,iN d),(10,iN n),(12,iN z.1)]) (λz=>[z.2.2]) (λz=>b-z.1) (d+1,G,U) ⟨⟨adI _,by simp only;omega⟩,l,C,a3⟩ kE.c.c.c.c.c.c.c rH ?_
 rintro⟨q,S,T4⟩ ⟨⟨a6,a7⟩,B,L,a1⟩
 simp only at a6 a7 B L a1⊢
 have d0:=L.length
 refine .seq<|.sr<|.mo rfl<|.mo rfl<|.q .lss<|.zn ?_
 refine .cond rfl (λh9=>?_) λh9=>?_
 have d3:q<b:=cV h9
 obtain⟨s,g⟩:∃x,S[q]? =some x:=⟨_,aQ (by omega)⟩
 obtain⟨t,k⟩:∃x,S[q-1]? =some x:=⟨_,aQ (by omega)⟩
 have a8:=Q s (L.perm.mem_iff.1 (aX g))
 have a9:=Q t (L.perm.mem_iff.1 (aX k))
 refine .kn<|.seq<|.block<|.seq<|.seq ?_
 refine .dd 10 mixed (by kernel_rfl) ?_
 conv=>arg 6;dsimp only[List.take]
 refine .mo rfl<|.mo rfl<|.mo rfl ?_
 refine .aI q B g (λd5=>?_)
 refine .q (.aU rfl)<|.mo rfl<|.mo rfl ?_
 refine .ia (q-1) .sub ?_
 refine .aI (q-1) B k (λd6=>?_)
 refine .q (.aU rfl)<|.nil ?_
 refine .fw (first:=[]) (captured:=caps) (vs:=[(λt:ax=>Value.agg t.enc.toArray) s,(λt:ax=>Value.agg t.enc.toArray) t]) (hf s t a8 a9 _ (λb o O=>.inl O)) (λu F=>?_)
 subst F
 refine .q .lss<|.q .not<|.zn ?_
 refine .cond rfl (λb7=>?_) λb7=>?_
 refine .exit (br (iJ (br (bz (bw ?_)))))
 ·exact aL (S,T4) ⟨B,L,a1⟩ kE.c.c.c.c.c.c rH
 refine .kn<|.cG [15,17] mixed ?_
 refine .tO 0 rfl .move<|.tO 1 rfl .move<|.tK 2 rfl .move<|.tK 3 rfl .move ?_
 refine .take 4 rfl (.i64 ((q-1:Nat):Int) .sub ⟨by omega,by omega,by omega⟩) (by kernel_rfl) ?_
 refine .tO 5 rfl .move<|.tO 6 rfl .move ?_
 refine .eQ 7 rfl (.i64 ((q-1:Nat):Int) .sub ⟨by omega,by omega,by omega⟩) (by kernel_rfl) ?_
 refine RA.aI 8 rfl (q-1) B k rfl rfl rfl (by kernel_rfl) (λd7=>?_)
 refine .tO 9 rfl (.aU rfl)<|.tO 10 rfl .move<|.tO 11 rfl .move ?_
 refine RA.aI 12 rfl (q) B g rfl rfl rfl (by kernel_rfl) (λd8=>?_)
 refine .tO 13 rfl (.aU rfl) ?_
 refine RA.aI 14 rfl (q) B g rfl rfl rfl (by kernel_rfl) (λd9=>?_)
 refine .sT 15 rfl ?_
 refine .ei (q) B g t (λb0 V=>?_) (B.one _ (aX k))
 refine .nil (Next.mod rfl ?_)
 refine RA.aI 16 rfl (q-1) B k rfl rfl rfl (by kernel_rfl) (λe0=>?_)
 refine .sT 17 rfl ?_
 obtain⟨zz,Y⟩:∃u,(S.set (q) t)[q-1]? =some u:=⟨_,aQ (by rw[adJ];exact(adK.1 k).1)⟩
 refine .ei (q-1) V Y s (λM J=>?_) (B.one _ (aX g))
 rw[<-ej g k]at J
 refine .nil (Next.mod rfl ?_)
 refine RA.nil (by kernel_rfl) ?_
 refine bg<|aB<|.region<|.mo rfl ?_
 refine .ia (q+1) .add ?_
 refine .ag rfl<|.nil ?_
 ·exact bu (q+1,cy S q (q-1),M) ⟨⟨by simp only;omega,by simp only;omega⟩,J,L.step (by omega) (by omega) (by omega) (by omega) (by omega),a1.Aa (by omega) (by omega) (by omega) (by omega)⟩ (by simp only;omega) kE.c.c.c.c.c.c.c rH
 refine .exit<|br<|bz<|bw ?_
 ·exact aL (S,T4) ⟨B,L,a1⟩ kE.c.c.c.c.c.c rH
 refine .skip ?_
 ·exact aL (G,U) ⟨l,C,a3⟩ kE.c.c.c.c.c.c rH
 intro y A
 obtain⟨us,T5⟩:=y
 obtain⟨b1,b3,b4⟩:=A
 simp only at b1 b3 b4⊢
 refine bg<|aB<|.region<|.mo rfl ?_
 refine .ia (n+1) .add ?_
 refine .ag rfl<|.nil ?_
 ·exact bu (n+1,d,us,T5) ⟨⟨by simp only;omega,H,I⟩,b1,b3,b4⟩ (by simp only;omega) kE.c.c.c.c.c.c rH
 refine .exit<|br<|bz<|bw<|aB<|.sr<|.az rfl ?_
 refine .ret (bm _ (.one (.tmp rfl)) rH ?_)
 ·exact⟨_,rfl,ys,false,rfl,r,K,λh=>by cases h⟩
end
end STP
namespace STP
section
variable{c:ax->ax->Int}{ok:ax->Prop}{f:FuncId}{caps:List Value} [e:aP prog f]
theorem nv(v:Value)(xs:List ax)(a b lo d g:Nat)(s:Int)(R:aw)(h:RS R 7 ax.enc v xs)(i:lo<=a/\a<d)(e:lo<=b/\b<d)(B:d<=xs.length)(n:gN prog f caps R (λt:ax=>Value.agg t.enc.toArray) c ok)(j:∀x∈xs,ok x):
  Spec prog 270 [v,.int .i64 a,.int .i64 b,pT g,.func (.func f) #[] caps.toArray] R [bl g [.int .i64 s] 3] λu H'=>∃T',H'=[T']/\∃(s':Int) (p q:Nat),u=.tuple [.int .i64 p,.int .i64 q].toArray/\T'=(bl g [.int .i64 s'] 3)/\(lo<=p/\p<d)/\(lo<=q/\q<d):=by
 obtain⟨x,k⟩:∃x,xs[b]? =some x:=⟨_,aQ (by omega)⟩
 obtain⟨y,l⟩:∃x,xs[a]? =some x:=⟨_,aQ (by omega)⟩
 have w:=j x (aX k)
 have A:=j y (aX l)
 refine Spec.body func270 rfl results270 ntmps270 rfl<|.sr<|.ag rfl<|.ag rfl<|.zs<|.seq<|.dd 9 mixed (by kernel_rfl) ?_
 conv=>arg 6;dsimp only[List.take]
 refine .mo rfl<|.mo rfl<|.mo rfl ?_
 refine .bZ b h k (λC=>?_)
 refine .q (.aU rfl)<|.mo rfl<|.mo rfl ?_
 refine .bZ a h l (λD=>?_)
 refine .q (.aU rfl)<|.nil<|.fw (first:=[]) (captured:=caps) (vs:=[(λt:ax=>Value.agg t.enc.toArray) x,(λt:ax=>Value.agg t.enc.toArray) y]) (n x y w A _ (λb o e=>.inl e)) (λu r=>?_)
 subst r
 refine .q .lss<|.zn<|.cond rfl (λm=>?_) λm=>?_
 refine .sr<|.mo rfl<|.nc rfl<|.lo rfl<|.q .add<|.nc rfl<|.du rfl rfl<|.z<|.mo rfl<|.mo rfl<|.ag rfl<|.az rfl<|.ret (ba (bm _ (.two (.tmp rfl) (.tmp rfl)) rH ?_))
 ·exact⟨_,rfl,_,b,a,rfl,rfl,e,i⟩
 refine .kn<|.sr<|.mo rfl<|.mo rfl<|.ag rfl<|.az rfl<|.ret (bm _ (.two (.tmp rfl) (.tmp rfl)) rH ?_)
 ·exact⟨_,rfl,_,a,b,rfl,rfl,i,e⟩
theorem pB(v:Value)(xs:List ax)(a b d lo e g:Nat)(s:Int)(R:aw)(h:RS R 7 ax.enc v xs)(m:lo<=a/\a<e)(n:lo<=b/\b<e)(o:lo<=d/\d<e)(k:e<=xs.length)(j:gN prog f caps R (λt:ax=>Value.agg t.enc.toArray) c ok)(l:∀x∈xs,ok x):
  Spec prog 259 [v,.int .i64 a,.int .i64 b,.int .i64 d,pT g,.func (.func f) #[] caps.toArray] R [bl g [.int .i64 s] 3] λu H'=>∃T',H'=[T']/\∃(s':Int) (p:Nat),u=.int .i64 p/\T'=(bl g [.int .i64 s'] 3)/\(lo<=p/\p<e):=by
 refine Spec.body func259 rfl results259 ntmps259 rfl<|.sr<|.ag rfl<|.z<|.mo rfl<|.mo rfl<|.mo rfl<|.mo rfl<|.mo rfl<|.bQ (nv v xs a b lo e g s _ h m n k j l) (λu I i=>?_)
 obtain⟨F,B,D,rfl,rfl,r,y⟩:=i
 refine .mo rfl<|.q .extract<|.q .extract<|.ag rfl<|.ag rfl<|.z<|.mo rfl<|.mo rfl<|.mo rfl<|.mo rfl<|.mo rfl<|.bQ (nv v xs D d lo e g F _ h y o k j l) (λu J i=>?_)
 obtain⟨G,C,O,rfl,rfl,w,M⟩:=i
 refine .mo rfl<|.q .extract<|.q .extract<|.ag rfl<|.ag rfl<|.z<|.mo rfl<|.mo rfl<|.mo rfl<|.mo rfl<|.mo rfl<|.bQ (nv v xs B C lo e g G _ h r w k j l) (λu K i=>?_)
 obtain⟨H,N,E,rfl,rfl,L,A⟩:=i
 refine .mo rfl<|.q .extract<|.q .extract<|.ag rfl<|.ag rfl<|.z<|.mo rfl<|.az rfl<|.ret (bm _ (.one (.tmp rfl)) rH ?_)
 ·exact⟨_,rfl,H,E,rfl,rfl,A⟩
theorem np(v:Value)(xs:List ax)(a lo d b:Nat)(s:Int)(R:aw)(h:RS R 7 ax.enc v xs)(o:lo+1<=a/\a+1<d)(g:d<=xs.length)(q:xs.length<=1000000000)(e:gN prog f caps R (λt:ax=>Value.agg t.enc.toArray) c ok)(i:∀x∈xs,ok x):
  Spec prog 258 [v,.int .i64 a,pT b,.func (.func f) #[] caps.toArray] R [bl b [.int .i64 s] 3] λu H'=>∃T',H'=[T']/\∃(s':Int) (p:Nat),u=.int .i64 p/\T'=(bl b [.int .i64 s'] 3)/\(lo<=p/\p<d):=by
 refine Spec.body func258 rfl results258 ntmps258 rfl<|.sr<|.ag rfl<|.z<|.mo rfl<|.mo rfl<|.ia (a-1) .sub<|.mo rfl<|.mo rfl<|.ia (a+1) .add<|.mo rfl<|.mo rfl<|.bQ (pB v xs (a-1) a (a+1) lo d b s _ h (by omega) (by omega) (by omega) g e i) (λu n k=>?_)
 obtain⟨m,l,rfl,rfl,j⟩:=k
 refine .az rfl<|.ret (bm _ (.one (.tmp rfl)) rH ?_)
 ·exact⟨_,rfl,m,l,rfl,rfl,j⟩
theorem choose_spec(v:Value)(xs:List ax)(a b:Nat)(R:aw)(h:RS R 7 ax.enc v xs)(Y:a<b)(l:b<=xs.length)(w:xs.length<=1000000000)(m:gN prog f caps R (λt:ax=>Value.agg t.enc.toArray) c ok)(o:∀x∈xs,ok x):
  Spec prog 236 [v,.int .i64 a,.int .i64 b,.func (.func f) #[] caps.toArray] R [] λu H'=>(∃(p:Nat) (t:Int),u=.tuple [.int .i64 p,.int .i64 t].toArray/\a<=p/\p<b)/\H'=[]:=by
 have iv:=h.aC
 obtain⟨n,I⟩:∃n,b=a+n:=⟨b-a,by omega⟩
 subst I
 obtain⟨q,A⟩:∃q,q=n/4:=⟨_,rfl⟩
 refine Spec.body func236 rfl results236 ntmps236 rfl<|.sr<|.ag rfl<|.ag rfl<|.z<|.mo rfl<|.mo rfl<|.ia (n) .sub<|.ag rfl<|.z ?_
 refine .nZ (λe=>?_)
 refine .z<|.mo rfl<|.mo rfl<|.q (.i64 ((q:Nat):Int) .quo ⟨by rw[A,adN (by omega)];omega,by omega,by omega⟩)<|.ia (q) .mul<|.ia (a+q) .add<|.ag rfl<|.z<|.mo rfl<|.mo rfl<|.q (.i64 ((q:Nat):Int) .quo ⟨by rw[A,adN (by omega)];omega,by omega,by omega⟩)<|.ia (q*2) .mul<|.ia (a+q*2) .add<|.ag rfl<|.z<|.mo rfl<|.mo rfl<|.q (.i64 ((q:Nat):Int) .quo ⟨by rw[A,adN (by omega)];omega,by omega,by omega⟩)<|.ia (q*3) .mul<|.ia (a+q*3) .add<|.ag rfl<|.zs ?_
 refine bq.cut (X:=Nat×Int) (λz=>a<=z.1/\z.1<a+n) (λz=>[(11,pT e),(13,iN z.1)]) (λz=>[bl e [.int .i64 z.2] 3]) ?_ ?_
 refine .sr<|.mo rfl<|.q .geq<|.zn<|.cond rfl (λB=>?_) λB=>?_
 have a0:8<=n:=by have:=bV B;omega
 refine .seq ?_
 refine bq.cut (X:=Nat×Nat×Nat×Int) (λz=>(a<=z.1/\z.1<a+n)/\(a<=z.2.1/\z.2.1<a+n)/\(a<=z.2.2.1/\z.2.2.1<a+n)) (λz=>[(0,v),(3,.func (.func f) #[] caps.toArray),(11,pT e),(12,iN z.1),(13,iN z.2.1),(14,iN z.2.2.1)]) (λz=>[bl e [.int .i64 z.2.2.2] 3]) ?_ ?_
 refine .sr<|.mo rfl<|.q .geq<|.zn<|.cond rfl (λC=>?_) λC=>?_
 have Z:50<=n:=by have:=bV C;omega
 refine .sr<|.mo rfl<|.mo rfl<|.mo rfl<|.bQ (np v xs (a+q) a (a+n) e 0 _ h (by omega) l w m o) (λu r g=>?_)
 obtain⟨T,N,rfl,rfl,J⟩:=g
 refine .ag rfl<|.z<|.mo rfl<|.mo rfl<|.mo rfl<|.bQ (np v xs (a+q*2) a (a+n) e T _ h (by omega) l w m o) (λu r g=>?_)
 obtain⟨U,O,rfl,rfl,K⟩:=g
 refine .az rfl<|.region<|.mo rfl<|.mo rfl<|.mo rfl<|.bQ (np v xs (a+q*3) a (a+n) e U _ h (by omega) l w m o) (λu r g=>?_)
 obtain⟨V,Q,rfl,rfl,L⟩:=g
 refine .ag rfl<|.nil ?_
 ·exact aL (N,O,Q,V) ⟨J,K,L⟩ kE.c.c.c.c.c.c rH
 refine .skip ?_
 ·exact aL (a+q,a+q*2,a+q*3,0) ⟨by simp only;omega,by simp only;omega,by simp only;omega⟩ kE.c.c.c.c.c.c rH
 intro y d
 obtain⟨i,j,k,s⟩:=y
 obtain⟨D,E,F⟩:=d
 simp only at D E F⊢
 refine aB<|.region<|.mo rfl<|.mo rfl<|.mo rfl<|.mo rfl<|.mo rfl<|.bQ (pB v xs i j k a (a+n) e s _ h D E F l m o) (λu r g=>?_)
 obtain⟨W,S,rfl,rfl,M⟩:=g
 refine .ag rfl<|.nil ?_
 ·exact aL (S,W) M kE.c.c rH
 refine .skip ?_
 ·exact aL (a+q*2,0) (by simp only;omega) kE.c.c rH
 intro y d
 obtain⟨p,s⟩:=y
 simp only at d⊢
 refine aB<|.sr<|.lo rfl<|.zn<|.block<|.sr<|.q .cr<|.az rfl<|.cond rfl (λG=>?_) λG=>?_
 refine .sr<|.mo rfl<|.ag rfl<|.az rfl<|.ret (bF (bm _ (.two (.tmp rfl) (.tmp rfl)) (.none _) ?_))
 ·exact⟨⟨p,_,rfl,d.1,d.2⟩,rfl⟩
 refine .sr<|.q .cr<|.az rfl<|.cond rfl (λH=>?_) λH=>?_
 refine .sr<|.mo rfl<|.ag rfl<|.az rfl<|.ret (bF (bm _ (.two (.tmp rfl) (.tmp rfl)) (.none _) ?_))
 ·exact⟨⟨p,_,rfl,d.1,d.2⟩,rfl⟩
 refine .sr<|.mo rfl<|.ag rfl<|.az rfl<|.ret (bF (bm _ (.two (.tmp rfl) (.tmp rfl)) (.none _) ?_))
 ·exact⟨⟨p,_,rfl,d.1,d.2⟩,rfl⟩
end
end STP
namespace STP
section
variable{c:ax->ax->Int}{ok:ax->Prop}{f:FuncId}{caps:List Value} [e:aP prog f]
theorem tL(v:Value)(xs:List ax)(T:ap)(a b m:Nat)(p:ax)(R:aw)(h:OS 119 7 ax.enc v xs T)(b2:a<b)(hm:a<=m/\m<b)(z:xs[m]? =some p)(L:b<=xs.length)(hl:xs.length<=1000000000)(hf:gN prog f caps R (λt:ax=>Value.agg t.enc.toArray) c ok)(Z:∀x∈xs,ok x)(so:SO (aS c))
  (b8:∀(k:Nat) (x:ax),a<=k->k<b->xs[k]? =some x->aS c x p=false):
  Spec prog 239 [v,.int .i64 a,.int .i64 b,.int .i64 m,.func (.func f) #[] caps.toArray] R [T] λu H'=>∃T',H'=[T']/\∃ys mid,u=iN mid/\OS 119 7 ax.enc v ys T'/\RP a b xs ys/\qn (aS c) ys a mid b p:=by
 have iv:=h.aC
 obtain⟨x0,B⟩:∃x,xs[a]? =some x:=⟨_,aQ (by omega)⟩
 have a9:=Z p (aX z)
 refine Spec.body func239 rfl results239 ntmps239 rfl<|.sr<|.ag rfl<|.zs<|.cG [13,15] mixed<|.tO 0 rfl .move<|.tO 1 rfl .move<|.tK 2 rfl .move<|.tK 3 rfl .move<|.tO 4 rfl .move<|.tO 5 rfl .move ?_
 refine RA.aI 6 rfl (m) h z rfl rfl rfl (by kernel_rfl) (λd2=>?_)
 refine .tO 7 rfl (.aU rfl)<|.tO 8 rfl .move<|.tO 9 rfl .move ?_
 refine RA.aI 10 rfl (a) h B rfl rfl rfl (by kernel_rfl) (λd3=>?_)
 refine .tO 11 rfl (.aU rfl) ?_
 refine RA.aI 12 rfl (a) h B rfl rfl rfl (by kernel_rfl) (λd4=>?_)
 refine .sT 13 rfl<|.ei (a) h B p (λb0 a0=>?_) (h.one _ (aX z))
 refine .nil (Next.mod rfl ?_)
 refine RA.aI 14 rfl (m) h z rfl rfl rfl (by kernel_rfl) (λd5=>?_)
 refine .sT 15 rfl ?_
 obtain⟨zz,a1⟩:∃u,(xs.set (a) p)[m]? =some u:=⟨_,aQ (by rw[adJ];exact(adK.1 z).1)⟩
 refine .ei (m) a0 a1 x0 (λO H=>?_) (h.one _ (aX B))
 rw[<-ej B z]at H
 refine .nil<|Next.mod rfl<|RA.nil (by kernel_rfl) ?_
 have b1:RP a b xs (cy xs a m):=(RP.refl xs).step (by omega) (by omega) (by omega) (by omega) (by omega)
 have b3:(cy xs a m)[a]? =some p:=by
  rw[fq (by omega) (by omega)]
  by_cases Y:a=m
  ·rw[adL Y,B, <-z, <-Y,B]
  ·rw[adM Y,adL rfl,z]
 refine aB<|.sr<|.mo rfl<|.ia (a+1) .add<|.mo rfl<|.ia (b-1) .sub<|.ag rfl<|.ag rfl<|.zs<|.block<|.loop (X:=Nat×Nat×List ax×ap) (λy=>OS 119 7 ax.enc v y.2.2.1 y.2.2.2/\RP a b xs y.2.2.1/\PQ (λx=> !aS c p x) y.2.2.1 a y.1 y.2.1 b p) (λy=>[(0,v),(1,iN a),(4,.func (.func f) #[] caps.toArray),(11,iN y.1),(12,iN y.2.1)]) (λy=>[y.2.2.2]) (λy=>y.2.1+1-y.1) (a+1,b-1,cy xs a m,O) ⟨H,b1,.start b2 b3⟩ kE.c.c.c.c.c rH ?_
 rintro⟨i,j,ys,J⟩ ⟨n,A,G⟩
 simp only at n A G⊢
 have d1:=A.length
 have c5:=G.i0
 have c7:=G.ij
 have c9:=G.jb
 have a8:=G.at_
 refine .block<|.seq ?_
 refine bq.cut (X:=Nat) (λr=>i<=r/\PQ (λx=> !aS c p x) ys a r j b p/\∀x,r<=j->ys[r]? =some x->(!aS c p x)=false) (λr=>[(0,v),(1,iN a),(4,.func (.func f) #[] caps.toArray),(11,.int .i64 (r:Nat)),(12,iN j)]) (λ_=>[J]) ?_ ?_
 refine .block<|.loop (X:=Nat) (λr=>i<=r/\PQ (λx=> !aS c p x) ys a r j b p) (λr=>[(0,v),(1,iN a),(4,.func (.func f) #[] caps.toArray),(11,.int .i64 (r:Nat)),(12,iN j)]) (λ_=>[J]) (λr=>j+1-r) i ⟨adI _,G⟩ kE.c.c.c.c.c rH ?_
 rintro E ⟨a3,V⟩
 refine .seq<|.seq<|.dd 13 mixed (by kernel_rfl) ?_
 conv=>arg 6;dsimp only[List.take]
 refine .mo rfl<|.mo rfl<|.q .leq<|.mo rfl<|.split (t:=34) rfl (λd=>?_) (λd=>?_)
 have b6:E<=j:=by have:=bV d;omega
 obtain⟨x2,M⟩:∃x,ys[E]? =some x:=⟨_,aQ (by omega)⟩
 have c3:=Z x2 (A.perm.mem_iff.1 (aX M))
 refine .gT d<|.mo rfl<|.gT d<|.mo rfl<|.gT d<|.mo rfl<|.gT d ?_
 refine .aI a n a8 (λd6=>?_)
 refine .gT d<|.q (.aU rfl)<|.gT d<|.mo rfl<|.gT d<|.mo rfl<|.gT d ?_
 refine .aI E n M (λd7=>?_)
 refine .gT d<|.q (.aU rfl)<|.nil<|.gT d<|.fw (first:=[]) (captured:=caps) (vs:=[(λt:ax=>Value.agg t.enc.toArray) p,(λt:ax=>Value.agg t.enc.toArray) x2]) (hf p x2 a9 c3 _ (λb o L=>.inl L)) (λu hu=>?_)
 subst hu
 refine .gT d<|.q .lss<|.gT d<|.q .not<|.q (.bx d)<|.zn<|.cond rfl (λQ=>?_) λQ=>?_
 refine .kn<|.block<|.region<|.mo rfl<|.ia (E+1) .add<|.ag rfl<|.nil<|bg ?_
 ·exact bu (E+1) ⟨by omega,V.inc b6 M Q⟩ (by omega) kE.c.c.c.c.c rH
 refine .exit<|br<|bz<|bw ?_
 exact aL E ⟨a3,V,λx l C=>by rw[M]at C;cases C;exact Q⟩ kE.c.c.c.c.c rH
 refine .gF d<|.gF d<|.gF d<|.gF d<|.gF d<|.gF d<|.gF d<|.gF d<|.gF d<|.nil<|.gF d<|.gF d<|.gF d<|.q (.bs d)<|.zn<|.di<|.exit<|br<|bz<|bw ?_
 exact aL E ⟨a3,V,λx l C=>by have:=bK d;omega⟩ kE.c.c.c.c.c rH
 intro x l
 obtain⟨g,a4⟩:∃g,g=x:=⟨_,rfl⟩
 rw[<-a4]at l⊢
 clear a4 x
 obtain⟨c6,a2,c1⟩:=l
 refine aB<|.seq ?_
 refine bq.cut (X:=Nat) (λs=>s<=j/\PQ (λx=> !aS c p x) ys a g s b p/\∀x,g<=s->ys[s]? =some x->(!aS c p x)=true) (λs=>[(0,v),(1,iN a),(4,.func (.func f) #[] caps.toArray),(11,iN g),(12,.int .i64 (s:Nat))]) (λ_=>[J]) ?_ ?_
 refine .block<|.loop (X:=Nat) (λs=>s<=j/\PQ (λx=> !aS c p x) ys a g s b p) (λs=>[(0,v),(1,iN a),(4,.func (.func f) #[] caps.toArray),(11,iN g),(12,.int .i64 (s:Nat))]) (λ_=>[J]) (λs=>s) j ⟨adI _,a2⟩ kE.c.c.c.c.c rH ?_
 rintro F ⟨a5,W⟩
 have b5:=a2.i0
 refine .seq<|.seq<|.dd 13 mixed (by kernel_rfl) ?_
 conv=>arg 6;dsimp only[List.take]
 refine .mo rfl<|.mo rfl<|.q .leq<|.mo rfl<|.split (t:=53) rfl (λe=>?_) (λe=>?_)
 have b7:g<=F:=by have:=bV e;omega
 obtain⟨I,N⟩:∃x,ys[F]? =some x:=⟨_,aQ (by omega)⟩
 have c4:=Z I (A.perm.mem_iff.1 (aX N))
 refine .gT e<|.mo rfl<|.gT e<|.mo rfl<|.gT e<|.mo rfl<|.gT e ?_
 refine .aI a n a8 (λd8=>?_)
 refine .gT e<|.q (.aU rfl)<|.gT e<|.mo rfl<|.gT e<|.mo rfl<|.gT e ?_
 refine .aI F n N (λd9=>?_)
 refine .gT e<|.q (.aU rfl)<|.nil<|.gT e<|.fw (first:=[]) (captured:=caps) (vs:=[(λt:ax=>Value.agg t.enc.toArray) p,(λt:ax=>Value.agg t.enc.toArray) I]) (hf p I a9 c4 _ (λb o L=>.inl L)) (λu hu=>?_)
 subst hu
 refine .gT e<|.q .lss<|.q (.bx e)<|.zn<|.cond rfl (λS=>?_) λS=>?_
 refine .kn<|.block<|.region<|.mo rfl<|.ia (F-1) .sub<|.ag rfl<|.nil<|bg ?_
 ·have b9:aS c p I=true:=S
  exact bu (F-1) ⟨by omega,W.dec b7 N (by rw[b9];rfl)⟩ (by omega) kE.c.c.c.c.c rH
 refine .exit<|br<|bz<|bw ?_
 exact aL F ⟨a5,W,λx l C=>by have hh:aS c p I=false:=S;rw[N]at C;cases C;rw[hh];rfl⟩ kE.c.c.c.c.c rH
 refine .gF e<|.gF e<|.gF e<|.gF e<|.gF e<|.gF e<|.gF e<|.gF e<|.gF e<|.nil<|.gF e<|.gF e<|.q (.bs e)<|.zn<|.di<|.exit<|br<|bz<|bw ?_
 exact aL F ⟨a5,W,λx l C=>by have:=bK e;omega⟩ kE.c.c.c.c.c rH
 intro x l
 obtain⟨w,a6⟩:∃w,w=x:=⟨_,rfl⟩
 rw[<-a6]at l⊢
 clear a6 x
 obtain⟨d0,K,c2⟩:=l
 have b5:=K.i0
 have c8:=K.ij
 refine aB<|.seq<|.sr<|.mo rfl<|.mo rfl<|.q .gtr<|.zn<|.cond rfl (λU=>?_) λU=>?_
 refine .exit (br (iJ (bz (bw ?_))))
 refine aB<|.sr<|.mo rfl<|.az rfl<|.ret (bm _ (.one (.tmp rfl)) rH ?_)
 ·have b4:w<g:=cV U
  exact⟨_,rfl,ys,g,rfl,n,A,K.xc so b4 (A.all (p:=λx=>aS c x p=false) b8)⟩
 have a7:g<=w:=by have:=bK U;omega
 obtain⟨x,l⟩:∃x,ys[g]? =some x:=⟨_,aQ (by omega)⟩
 obtain⟨y,D⟩:∃x,ys[w]? =some x:=⟨_,aQ (by omega)⟩
 have c0:=K.sw a7 (by omega) l D (c1 x (by omega) l) (c2 y a7 D)
 refine .kn<|.seq<|.cG [13,15] mixed<|.tO 0 rfl .move<|.tO 1 rfl .move<|.tK 2 rfl .move<|.tK 3 rfl .move<|.tO 4 rfl .move<|.tO 5 rfl .move ?_
 refine RA.aI 6 rfl (w) n D rfl rfl rfl (by kernel_rfl) (λe0=>?_)
 refine .tO 7 rfl (.aU rfl)<|.tO 8 rfl .move<|.tO 9 rfl .move ?_
 refine RA.aI 10 rfl (g) n l rfl rfl rfl (by kernel_rfl) (λe1=>?_)
 refine .tO 11 rfl (.aU rfl) ?_
 refine RA.aI 12 rfl (g) n l rfl rfl rfl (by kernel_rfl) (λe2=>?_)
 refine .sT 13 rfl<|.ei (g) n l y (λb0 a0=>?_) (n.one _ (aX D))
 refine .nil (Next.mod rfl ?_)
 refine RA.aI 14 rfl (w) n D rfl rfl rfl (by kernel_rfl) (λe3=>?_)
 refine .sT 15 rfl ?_
 obtain⟨zz,a1⟩:∃u,(ys.set (g) y)[w]? =some u:=⟨_,aQ (by rw[adJ];exact(adK.1 D).1)⟩
 refine .ei (w) a0 a1 x (λO H=>?_) (n.one _ (aX l))
 rw[<-ej l D]at H
 refine .nil<|Next.mod rfl<|RA.nil (by kernel_rfl)<|aB<|.sr<|.mo rfl<|.ia (g+1) .add<|.az rfl<|.region<|.mo rfl<|.ia (w-1) .sub<|.ag rfl<|.nil<|bg ?_
 ·exact bu (g+1,w-1,cy ys g w,O) ⟨H,A.step (by omega) (by omega) (by omega) (by omega) (by omega),c0.2⟩ (by simp only;omega) kE.c.c.c.c.c rH
theorem pJ(v:Value)(xs:List ax)(T:ap)(a b m:Nat)(p:ax)(R:aw)(h:OS 119 7 ax.enc v xs T)(d8:a<b)(hm:a<=m/\m<b)(N:xs[m]? =some p)(M:b<=xs.length)(hl:xs.length<=1000000000)(hf:gN prog f caps R (λt:ax=>Value.agg t.enc.toArray) c ok)(a4:∀x∈xs,ok x)(so:SO (aS c)):
  Spec prog 240 [v,.int .i64 a,.int .i64 b,.int .i64 m,.func (.func f) #[] caps.toArray] R [T] λu H'=>∃T',H'=[T']/\∃ys mid z,u=.tuple [iN mid,.bool z].toArray/\OS 119 7 ax.enc v ys T'/\RP a b xs ys/\Part (aS c) ys a mid b p:=by
 obtain⟨x0,S⟩:∃x,xs[a]? =some x:=⟨_,aQ (by omega)⟩
 have b4:=a4 p (aX N)
 refine Spec.body func240 rfl results240 ntmps240 rfl ?_
 refine .sr<|.ag rfl<|.ag rfl<|.zs<|.cG [13,15] mixed ?_
 refine .tO 0 rfl .move<|.tO 1 rfl .move<|.tK 2 rfl .move<|.tK 3 rfl .move<|.tO 4 rfl .move<|.tO 5 rfl .move ?_
 refine RA.aI 6 rfl (m) h N rfl rfl rfl (by kernel_rfl) (λj6=>?_)
 refine .tO 7 rfl (.aU rfl)<|.tO 8 rfl .move<|.tO 9 rfl .move ?_
 refine RA.aI 10 rfl (a) h S rfl rfl rfl (by kernel_rfl) (λj7=>?_)
 refine .tO 11 rfl (.aU rfl) ?_
 refine RA.aI 12 rfl (a) h S rfl rfl rfl (by kernel_rfl) (λj8=>?_)
 refine .sT 13 rfl ?_
 refine .ei (a) h S p (λa7 J=>?_) (h.one _ (aX N))
 refine .nil (Next.mod rfl ?_)
 refine RA.aI 14 rfl (m) h N rfl rfl rfl (by kernel_rfl) (λk0=>?_)
 refine .sT 15 rfl ?_
 obtain⟨zz,K⟩:∃u,(xs.set (a) p)[m]? =some u:=⟨_,aQ (by rw[adJ];exact(adK.1 N).1)⟩
 refine .ei (m) J K x0 (λO D=>?_) (h.one _ (aX S))
 rw[<-ej S N]at D
 refine .nil (Next.mod rfl ?_)
 refine RA.nil (by kernel_rfl) ?_
 have a1:RP a b xs (cy xs a m):=(RP.refl xs).step (by omega) (by omega) (by omega) (by omega) (by omega)
 have I:(cy xs a m)[a]? =some p:=by
  rw[fq (by omega) (by omega)]
  by_cases hk:a=m
  ·rw[adL hk,S, <-N, <-hk,S]
  ·rw[adM hk,adL rfl,N]
 obtain⟨C,d3⟩:∃C,C=cy xs a m:=⟨_,rfl⟩
 rw[<-d3]at D a1 I
 obtain⟨T0,d7⟩:∃T0,T0=O:=⟨_,rfl⟩
 rw[<-d7]at D⊢
 have g9:=a1.length
 have w:=D
 clear D
 have d6:PQ (λx=>aS c x p) C a (a+1) (b-1) b p:=.start d8 I
 clear d3
 refine aB<|.sr<|.mo rfl ?_
 refine .ia (a+1) .add ?_
 refine .mo rfl ?_
 refine .ia (b-1) .sub ?_
 refine .ag rfl<|.ag rfl<|.zs ?_
 refine bq.cut (X:=Nat) (λr=>PQ (λx=>aS c x p) C a r (b-1) b p/\∀x,r<=b-1->C[r]? =some x->aS c x p=false) (λr=>[(0,v),(1,iN a),(4,.func (.func f) #[] caps.toArray),(12,.int .i64 (r:Nat)),(13,.int .i64 ((b-1:Nat):Int))]) (λ_=>[T0]) ?_ ?_
 refine .block ?_
 refine .loop (X:=Nat) (λr=>PQ (λx=>aS c x p) C a r (b-1) b p) (λr=>[(0,v),(1,iN a),(4,.func (.func f) #[] caps.toArray),(12,.int .i64 (r:Nat)),(13,.int .i64 ((b-1:Nat):Int))]) (λ_=>[T0]) (λr=>b-r) (a+1) d6 kE.c.c.c.c.c rH ?_
 rintro W b5
 refine .seq<|.seq ?_
 refine .dd 13 mixed (by kernel_rfl) ?_
 conv=>arg 6;dsimp only[List.take]
 refine .mo rfl<|.mo rfl<|.q .leq<|.mo rfl ?_
 refine .split (t:=35) rfl (λl=>?_) (λl=>?_)
 have e2:W<=b-1:=by have:=bV l;omega
 obtain⟨x2,b0⟩:∃x,C[W]? =some x:=⟨_,aQ (by omega)⟩
 have f4:=a4 x2 (a1.perm.mem_iff.1 (aX b0))
 refine .gT l<|.mo rfl<|.gT l<|.mo rfl<|.gT l<|.mo rfl<|.gT l ?_
 refine .aI W w b0 (λk1=>?_)
 refine .gT l<|.q (.aU rfl)<|.gT l<|.mo rfl<|.gT l<|.mo rfl<|.gT l ?_
 refine .aI a w I (λk4=>?_)
 refine .gT l<|.q (.aU rfl)<|.nil<|.gT l ?_
 refine .fw (first:=[]) (captured:=caps) (vs:=[(λt:ax=>Value.agg t.enc.toArray) x2,(λt:ax=>Value.agg t.enc.toArray) p]) (hf x2 p f4 b4 _ (λb o M=>.inl M)) (λu Q=>?_)
 subst Q
 refine .gT l<|.q .lss<|.q (.bx l) ?_
 refine .zn ?_
 refine .cond rfl (λh1=>?_) λh1=>?_
 refine .kn<|.block<|.region<|.mo rfl ?_
 refine .ia (W+1) .add ?_
 refine .ag rfl<|.nil<|bg ?_
 ·exact bu (W+1) (b5.inc e2 b0 h1) (by omega) kE.c.c.c.c.c rH
 refine .exit<|br<|bz<|bw ?_
 exact aL W ⟨b5,λx g E=>by rw[b0]at E;cases E;exact h1⟩ kE.c.c.c.c.c rH
 refine .gF l<|.gF l<|.gF l<|.gF l<|.gF l<|.gF l<|.gF l<|.gF l<|.gF l<|.nil<|.gF l<|.gF l<|.q (.bs l) ?_
 refine .zn<|.di<|.exit<|br<|bz<|bw ?_
 exact aL W ⟨b5,λx g E=>by have:=bK l;omega⟩ kE.c.c.c.c.c rH
 intro x g
 obtain⟨A,c2⟩:∃A,A=x:=⟨_,rfl⟩
 rw[<-c2]at g⊢
 clear c2 x
 obtain⟨c0,f0⟩:=g
 refine aB<|.seq ?_
 refine bq.cut (X:=Nat) (λn=>n<=b-1/\PQ (λx=>aS c x p) C a A n b p/\∀x,A<=n->C[n]? =some x->aS c x p=true) (λn=>[(0,v),(1,iN a),(4,.func (.func f) #[] caps.toArray),(12,iN A),(13,.int .i64 (n:Nat))]) (λ_=>[T0]) ?_ ?_
 refine .block ?_
 refine .loop (X:=Nat) (λn=>n<=b-1/\PQ (λx=>aS c x p) C a A n b p) (λn=>[(0,v),(1,iN a),(4,.func (.func f) #[] caps.toArray),(12,iN A),(13,.int .i64 (n:Nat))]) (λ_=>[T0]) (λn=>n) (b-1) ⟨adI _,c0⟩ kE.c.c.c.c.c rH ?_
 rintro Y ⟨c3,b6⟩
 have e0:=c0.i0
 refine .seq<|.seq ?_
 refine .dd 13 mixed (by kernel_rfl) ?_
 conv=>arg 6;dsimp only[List.take]
 refine .mo rfl<|.mo rfl<|.q .leq<|.mo rfl ?_
 refine .split (t:=53) rfl (λe=>?_) (λe=>?_)
 have e3:A<=Y:=by have:=bV e;omega
 obtain⟨x4,b1⟩:∃x,C[Y]? =some x:=⟨_,aQ (by omega)⟩
 have f5:=a4 x4 (a1.perm.mem_iff.1 (aX b1))
 refine .gT e<|.mo rfl<|.gT e<|.mo rfl<|.gT e<|.mo rfl<|.gT e ?_
 refine .aI Y w b1 (λk5=>?_)
 refine .gT e<|.q (.aU rfl)<|.gT e<|.mo rfl<|.gT e<|.mo rfl<|.gT e ?_
 refine .aI a w I (λk6=>?_)
 refine .gT e<|.q (.aU rfl)<|.nil<|.gT e ?_
 refine .fw (first:=[]) (captured:=caps) (vs:=[(λt:ax=>Value.agg t.enc.toArray) x4,(λt:ax=>Value.agg t.enc.toArray) p]) (hf x4 p f5 b4 _ (λb o M=>.inl M)) (λu Q=>?_)
 subst Q
 refine .gT e<|.q .lss<|.gT e<|.q .not<|.q (.bx e) ?_
 refine .zn ?_
 refine .cond rfl (λh2=>?_) λh2=>?_
 refine .kn<|.block<|.region<|.mo rfl ?_
 refine .ia (Y-1) .sub ?_
 refine .ag rfl<|.nil<|bg ?_
 ·have e6:aS c x4 p=false:=by
   have d4:(!aS c x4 p)=true:=h2
   simpa using d4
  exact bu (Y-1) ⟨by omega,b6.dec e3 b1 e6⟩ (by omega) kE.c.c.c.c.c rH
 refine .exit<|br<|bz<|bw ?_
 exact aL Y ⟨c3,b6,λx g E=>by
  have hh:(!aS c x4 p)=false:=h2
  rw[b1]at E;cases E
  simpa using hh⟩ kE.c.c.c.c.c rH
 refine .gF e<|.gF e<|.gF e<|.gF e<|.gF e<|.gF e<|.gF e<|.gF e<|.gF e<|.nil<|.gF e<|.gF e<|.gF e<|.q (.bs e) ?_
 refine .zn<|.di<|.exit<|br<|bz<|bw ?_
 exact aL Y ⟨c3,b6,λx g E=>by have:=bK e;omega⟩ kE.c.c.c.c.c rH
 intro x g
 obtain⟨s,c4⟩:∃s,s=x:=⟨_,rfl⟩
 rw[<-c4]at g⊢
 clear c4 x
 obtain⟨g6,a8,f1⟩:=g
 have e0:=a8.i0
 have g0:=a8.ij
 refine aB<|.seq<|.sr<|.mo rfl<|.mo rfl<|.q .gtr<|.zn ?_
 refine .cond rfl (λh3=>?_) λh3=>?_
 have d9:s<A:=cV h3
 obtain⟨y,G⟩:∃x,C[s]? =some x:=⟨_,aQ (by omega)⟩
 refine .seq<|.cG [13,15] mixed ?_
 refine .tO 0 rfl .move<|.tO 1 rfl .move<|.tK 2 rfl .move<|.tK 3 rfl .move<|.tO 4 rfl .move<|.tO 5 rfl .move ?_
 refine RA.aI 6 rfl (a) w I rfl rfl rfl (by kernel_rfl) (λk7=>?_)
 refine .tO 7 rfl (.aU rfl)<|.tO 8 rfl .move<|.tO 9 rfl .move ?_
 refine RA.aI 10 rfl (s) w G rfl rfl rfl (by kernel_rfl) (λk8=>?_)
 refine .tO 11 rfl (.aU rfl) ?_
 refine RA.aI 12 rfl (s) w G rfl rfl rfl (by kernel_rfl) (λk9=>?_)
 refine .sT 13 rfl ?_
 refine .ei (s) w G p (λa7 J=>?_) (w.one _ (aX I))
 refine .nil (Next.mod rfl ?_)
 refine RA.aI 14 rfl (a) w I rfl rfl rfl (by kernel_rfl) (λl0=>?_)
 refine .sT 15 rfl ?_
 obtain⟨zz,K⟩:∃u,(C.set (s) p)[a]? =some u:=⟨_,aQ (by rw[adJ];exact(adK.1 I).1)⟩
 refine .ei (a) J K y (λO D=>?_) (w.one _ (aX G))
 rw[<-ej G I]at D
 refine .nil (Next.mod rfl ?_)
 refine RA.nil (by kernel_rfl) ?_
 refine aB<|.sr<|.mo rfl<|.ag rfl<|.az rfl ?_
 refine .ret (ba (bm _ (.two (.tmp rfl) (.tmp rfl)) rH ?_))
 ·exact⟨_,rfl,cy C s a,s,true,rfl,D,a1.step (by omega) (by omega) (by omega) (by omega) (by omega),a8.fin d9 (by omega)⟩
 have c8:A<=s:=by have:=bK h3;omega
 obtain⟨x,g⟩:∃x,C[A]? =some x:=⟨_,aQ (by omega)⟩
 obtain⟨y,G⟩:∃x,C[s]? =some x:=⟨_,aQ (by omega)⟩
 have e8:=a8.sw c8 (by omega) g G (f0 x (by omega) g) (f1 y c8 G)
 refine .kn<|.seq<|.cG [13,15] mixed ?_
 refine .tO 0 rfl .move<|.tO 1 rfl .move<|.tK 2 rfl .move<|.tK 3 rfl .move<|.tO 4 rfl .move<|.tO 5 rfl .move ?_
 refine RA.aI 6 rfl (s) w G rfl rfl rfl (by kernel_rfl) (λl1=>?_)
 refine .tO 7 rfl (.aU rfl)<|.tO 8 rfl .move<|.tO 9 rfl .move ?_
 refine RA.aI 10 rfl (A) w g rfl rfl rfl (by kernel_rfl) (λl2=>?_)
 refine .tO 11 rfl (.aU rfl) ?_
 refine RA.aI 12 rfl (A) w g rfl rfl rfl (by kernel_rfl) (λl3=>?_)
 refine .sT 13 rfl ?_
 refine .ei (A) w g y (λa7 J=>?_) (w.one _ (aX G))
 refine .nil (Next.mod rfl ?_)
 refine RA.aI 14 rfl (s) w G rfl rfl rfl (by kernel_rfl) (λh7=>?_)
 refine .sT 15 rfl ?_
 obtain⟨zz,K⟩:∃u,(C.set (A) y)[s]? =some u:=⟨_,aQ (by rw[adJ];exact(adK.1 G).1)⟩
 refine .ei (s) J K x (λO D=>?_) (w.one _ (aX g))
 rw[<-ej g G]at D
 refine .nil (Next.mod rfl ?_)
 refine RA.nil (by kernel_rfl) ?_
 refine aB<|.sr<|.mo rfl ?_
 refine .ia (A+1) .add ?_
 refine .ag rfl<|.z<|.mo rfl ?_
 refine .ia (s-1) .sub ?_
 refine .ag rfl<|.zs ?_
 refine bq.cut (X:=Nat×Nat×List ax×ap) (λy=>OS 119 7 ax.enc v y.2.2.1 y.2.2.2/\RP a b xs y.2.2.1/\PQ (λx=>aS c x p) y.2.2.1 a y.1 y.2.1 b p/\y.2.1<y.1) (λy=>[(0,v),(1,iN a),(4,.func (.func f) #[] caps.toArray),(12,iN y.1),(13,iN y.2.1)]) (λy=>[y.2.2.2]) ?_ ?_
 refine .block ?_
 refine .loop (X:=Nat×Nat×List ax×ap) (λy=>OS 119 7 ax.enc v y.2.2.1 y.2.2.2/\RP a b xs y.2.2.1/\PQ (λx=>aS c x p) y.2.2.1 a y.1 y.2.1 b p) (λy=>[(0,v),(1,iN a),(4,.func (.func f) #[] caps.toArray),(12,iN y.1),(13,iN y.2.1)]) (λy=>[y.2.2.2]) (λy=>y.2.1+1-y.1) (A+1,s-1,cy C A s,O) ⟨D,a1.step (by omega) (by omega) (by omega) (by omega) (by omega),e8.2⟩ kE.c.c.c.c.c rH ?_
 rintro⟨i,j,ys,T1⟩ ⟨F,a2,a3⟩
 simp only at F a2 a3⊢
 have g8:=a2.length
 have f9:=a3.ij
 have g4:=a3.jb
 have d2:=a3.at_
 refine .block<|.seq ?_
 refine bq.cut (X:=Nat) (λr=>i<=r/\PQ (λx=>aS c x p) ys a r j b p/\∀x,r<=j->ys[r]? =some x->aS c x p=false) (λr=>[(0,v),(1,iN a),(4,.func (.func f) #[] caps.toArray),(12,.int .i64 (r:Nat)),(13,iN j)]) (λ_=>[T1]) ?_ ?_
 refine .block ?_
 refine .loop (X:=Nat) (λr=>i<=r/\PQ (λx=>aS c x p) ys a r j b p) (λr=>[(0,v),(1,iN a),(4,.func (.func f) #[] caps.toArray),(12,.int .i64 (r:Nat)),(13,iN j)]) (λ_=>[T1]) (λr=>j+1-r) i ⟨adI _,a3⟩ kE.c.c.c.c.c rH ?_
 rintro k2 ⟨c6,b8⟩
 refine .seq<|.seq ?_
 refine .dd 13 mixed (by kernel_rfl) ?_
 conv=>arg 6;dsimp only[List.take]
 refine .mo rfl<|.mo rfl<|.q .leq<|.mo rfl ?_
 refine .split (t:=108) rfl (λk=>?_) (λk=>?_)
 have e4:k2<=j:=by have:=bV k;omega
 obtain⟨x6,b2⟩:∃x,ys[k2]? =some x:=⟨_,aQ (by omega)⟩
 have f6:=a4 x6 (a2.perm.mem_iff.1 (aX b2))
 refine .gT k<|.mo rfl<|.gT k<|.mo rfl<|.gT k<|.mo rfl<|.gT k ?_
 refine .aI k2 F b2 (λh8=>?_)
 refine .gT k<|.q (.aU rfl)<|.gT k<|.mo rfl<|.gT k<|.mo rfl<|.gT k ?_
 refine .aI a F d2 (λh9=>?_)
 refine .gT k<|.q (.aU rfl)<|.nil<|.gT k ?_
 refine .fw (first:=[]) (captured:=caps) (vs:=[(λt:ax=>Value.agg t.enc.toArray) x6,(λt:ax=>Value.agg t.enc.toArray) p]) (hf x6 p f6 b4 _ (λb o M=>.inl M)) (λu Q=>?_)
 subst Q
 refine .gT k<|.q .lss<|.q (.bx k) ?_
 refine .zn ?_
 refine .cond rfl (λh4=>?_) λh4=>?_
 refine .kn<|.block<|.region<|.mo rfl ?_
 refine .ia (k2+1) .add ?_
 refine .ag rfl<|.nil<|bg ?_
 ·exact bu (k2+1) ⟨by omega,b8.inc e4 b2 h4⟩ (by omega) kE.c.c.c.c.c rH
 refine .exit<|br<|bz<|bw ?_
 exact aL k2 ⟨c6,b8,λx g E=>by rw[b2]at E;cases E;exact h4⟩ kE.c.c.c.c.c rH
 refine .gF k<|.gF k<|.gF k<|.gF k<|.gF k<|.gF k<|.gF k<|.gF k<|.gF k<|.nil<|.gF k<|.gF k<|.q (.bs k) ?_
 refine .zn<|.di<|.exit<|br<|bz<|bw ?_
 exact aL k2 ⟨c6,b8,λx g E=>by have:=bK k;omega⟩ kE.c.c.c.c.c rH
 intro x g
 obtain⟨B,c7⟩:∃B,B=x:=⟨_,rfl⟩
 rw[<-c7]at g⊢
 clear c7 x
 obtain⟨g3,c1,f2⟩:=g
 refine aB<|.seq ?_
 refine bq.cut (X:=Nat) (λn=>n<=j/\PQ (λx=>aS c x p) ys a B n b p/\∀x,B<=n->ys[n]? =some x->aS c x p=true) (λn=>[(0,v),(1,iN a),(4,.func (.func f) #[] caps.toArray),(12,iN B),(13,.int .i64 (n:Nat))]) (λ_=>[T1]) ?_ ?_
 refine .block ?_
 refine .loop (X:=Nat) (λn=>n<=j/\PQ (λx=>aS c x p) ys a B n b p) (λn=>[(0,v),(1,iN a),(4,.func (.func f) #[] caps.toArray),(12,iN B),(13,.int .i64 (n:Nat))]) (λ_=>[T1]) (λn=>n) j ⟨adI _,c1⟩ kE.c.c.c.c.c rH ?_
 rintro m2 ⟨d0,b9⟩
 have e1:=c1.i0
 refine .seq<|.seq ?_
 refine .dd 13 mixed (by kernel_rfl) ?_
 conv=>arg 6;dsimp only[List.take]
 refine .mo rfl<|.mo rfl<|.q .leq<|.mo rfl ?_
 refine .split (t:=126) rfl (λd=>?_) (λd=>?_)
 have e5:B<=m2:=by have:=bV d;omega
 obtain⟨x7,b3⟩:∃x,ys[m2]? =some x:=⟨_,aQ (by omega)⟩
 have f7:=a4 x7 (a2.perm.mem_iff.1 (aX b3))
 refine .gT d<|.mo rfl<|.gT d<|.mo rfl<|.gT d<|.mo rfl<|.gT d ?_
 refine .aI m2 F b3 (λi1=>?_)
 refine .gT d<|.q (.aU rfl)<|.gT d<|.mo rfl<|.gT d<|.mo rfl<|.gT d ?_
 refine .aI a F d2 (λi4=>?_)
 refine .gT d<|.q (.aU rfl)<|.nil<|.gT d ?_
 refine .fw (first:=[]) (captured:=caps) (vs:=[(λt:ax=>Value.agg t.enc.toArray) x7,(λt:ax=>Value.agg t.enc.toArray) p]) (hf x7 p f7 b4 _ (λb o M=>.inl M)) (λu Q=>?_)
 subst Q
 refine .gT d<|.q .lss<|.gT d<|.q .not<|.q (.bx d) ?_
 refine .zn ?_
 refine .cond rfl (λh5=>?_) λh5=>?_
 refine .kn<|.block<|.region<|.mo rfl ?_
 refine .ia (m2-1) .sub ?_
 refine .ag rfl<|.nil<|bg ?_
 ·have e7:aS c x7 p=false:=by
   have d5:(!aS c x7 p)=true:=h5
   simpa using d5
  exact bu (m2-1) ⟨by omega,b9.dec e5 b3 e7⟩ (by omega) kE.c.c.c.c.c rH
 refine .exit<|br<|bz<|bw ?_
 exact aL m2 ⟨d0,b9,λx g E=>by
  have hh:(!aS c x7 p)=false:=h5
  rw[b3]at E;cases E
  simpa using hh⟩ kE.c.c.c.c.c rH
 refine .gF d<|.gF d<|.gF d<|.gF d<|.gF d<|.gF d<|.gF d<|.gF d<|.gF d<|.nil<|.gF d<|.gF d<|.gF d<|.q (.bs d) ?_
 refine .zn<|.di<|.exit<|br<|bz<|bw ?_
 exact aL m2 ⟨d0,b9,λx g E=>by have:=bK d;omega⟩ kE.c.c.c.c.c rH
 intro x g
 obtain⟨H,d1⟩:∃H,H=x:=⟨_,rfl⟩
 rw[<-d1]at g⊢
 clear d1 x
 obtain⟨g7,a9,f3⟩:=g
 have e1:=a9.i0
 have g1:=a9.ij
 refine aB<|.seq<|.sr<|.mo rfl<|.mo rfl<|.q .gtr<|.zn ?_
 refine .cond rfl (λh6=>?_) λh6=>?_
 refine .exit (br (iJ (bz (bw ?_))))
 exact aL (B,H,ys,T1) ⟨F,a2,a9,by have:=bV h6;simp only;omega⟩ kE.c.c.c.c.c rH
 have c9:B<=H:=by have:=bK h6;omega
 obtain⟨x8,U⟩:∃x,ys[B]? =some x:=⟨_,aQ (by omega)⟩
 obtain⟨y8,V⟩:∃x,ys[H]? =some x:=⟨_,aQ (by omega)⟩
 have e9:=a9.sw c9 (by omega) U V (f2 x8 (by omega) U) (f3 y8 c9 V)
 refine .kn<|.seq<|.cG [13,15] mixed ?_
 refine .tO 0 rfl .move<|.tO 1 rfl .move<|.tK 2 rfl .move<|.tK 3 rfl .move<|.tO 4 rfl .move<|.tO 5 rfl .move ?_
 refine RA.aI 6 rfl (H) F V rfl rfl rfl (by kernel_rfl) (λi5=>?_)
 refine .tO 7 rfl (.aU rfl)<|.tO 8 rfl .move<|.tO 9 rfl .move ?_
 refine RA.aI 10 rfl (B) F U rfl rfl rfl (by kernel_rfl) (λi6=>?_)
 refine .tO 11 rfl (.aU rfl) ?_
 refine RA.aI 12 rfl (B) F U rfl rfl rfl (by kernel_rfl) (λi7=>?_)
 refine .sT 13 rfl ?_
 refine .ei (B) F U y8 (λa7 J=>?_) (F.one _ (aX V))
 refine .nil (Next.mod rfl ?_)
 refine RA.aI 14 rfl (H) F V rfl rfl rfl (by kernel_rfl) (λi8=>?_)
 refine .sT 15 rfl ?_
 obtain⟨zz,K⟩:∃u,(ys.set (B) y8)[H]? =some u:=⟨_,aQ (by rw[adJ];exact(adK.1 V).1)⟩
 refine .ei (H) J K x8 (λO D=>?_) (F.one _ (aX U))
 rw[<-ej U V]at D
 refine .nil (Next.mod rfl ?_)
 refine RA.nil (by kernel_rfl) ?_
 refine aB<|.sr<|.mo rfl ?_
 refine .ia (B+1) .add ?_
 refine .az rfl<|.region<|.mo rfl ?_
 refine .ia (H-1) .sub ?_
 refine .ag rfl<|.nil<|bg ?_
 ·exact bu (B+1,H-1,cy ys B H,O) ⟨D,a2.step (by omega) (by omega) (by omega) (by omega) (by omega),e9.2⟩ (by simp only;omega) kE.c.c.c.c.c rH
 intro x g
 obtain⟨i9,Z,zs,T9⟩:=x
 obtain⟨L,b7,a0,c5⟩:=g
 simp only at L b7 a0 c5⊢
 have h0:=b7.length
 have g2:=a0.ij
 have f8:=a0.i0
 have g5:=a0.jb
 have a5:=a0.at_
 obtain⟨y9,a6⟩:∃x,zs[Z]? =some x:=⟨_,aQ (by omega)⟩
 refine aB<|.seq<|.cG [13,15] mixed ?_
 refine .tO 0 rfl .move<|.tO 1 rfl .move<|.tK 2 rfl .move<|.tK 3 rfl .move<|.tO 4 rfl .move<|.tO 5 rfl .move ?_
 refine RA.aI 6 rfl (a) L a5 rfl rfl rfl (by kernel_rfl) (λj0=>?_)
 refine .tO 7 rfl (.aU rfl)<|.tO 8 rfl .move<|.tO 9 rfl .move ?_
 refine RA.aI 10 rfl (Z) L a6 rfl rfl rfl (by kernel_rfl) (λj1=>?_)
 refine .tO 11 rfl (.aU rfl) ?_
 refine RA.aI 12 rfl (Z) L a6 rfl rfl rfl (by kernel_rfl) (λj4=>?_)
 refine .sT 13 rfl ?_
 refine .ei (Z) L a6 p (λa7 J=>?_) (L.one _ (aX a5))
 refine .nil (Next.mod rfl ?_)
 refine RA.aI 14 rfl (a) L a5 rfl rfl rfl (by kernel_rfl) (λj5=>?_)
 refine .sT 15 rfl ?_
 obtain⟨zz,K⟩:∃u,(zs.set (Z) p)[a]? =some u:=⟨_,aQ (by rw[adJ];exact(adK.1 a5).1)⟩
 refine .ei (a) J K y9 (λO D=>?_) (L.one _ (aX a6))
 rw[<-ej a6 a5]at D
 refine .nil (Next.mod rfl ?_)
 refine RA.nil (by kernel_rfl) ?_
 refine aB<|.sr<|.mo rfl<|.ag rfl<|.az rfl ?_
 refine .ret (bm _ (.two (.tmp rfl) (.tmp rfl)) rH ?_)
 ·exact⟨_,rfl,cy zs Z a,Z,false,rfl,D,b7.step (by omega) (by omega) (by omega) (by omega) (by omega),a0.fin c5 (by omega)⟩
end
end STP
namespace STP
section
variable{c:ax->ax->Int}{ok:ax->Prop}{f:FuncId}{caps:List Value} [e:aP prog f]
def oY(c:ax->ax->Int)(ok:ax->Prop)(f:FuncId)(caps:List Value)(n:Nat):Prop:=∀(v:Value) (xs:List ax) (T:ap) (a b mA:Nat) (R:aw),OS 119 7 ax.enc v xs T->a<=b->b<=xs.length->xs.length<=1000000000->mA<=1000000000->gN prog f caps R (λt:ax=>Value.agg t.enc.toArray) c ok->(∀x∈xs,ok x)->LB (aS c) xs a b->b-a<n->
  Spec prog 185 [v,.int .i64 a,.int .i64 b,.int .i64 mA,.func (.func f) #[] caps.toArray] R [T] λu H'=>∃T',H'=[T']/\u=.tuple #[]/\∃ys,OS 119 7 ax.enc v ys T'/\RP a b xs ys/\SR (aS c) ys a b
theorem tV(n:Nat)(ih:oY c ok f caps n)(D:SO (aS c))(v:Value)(xs:List ax)(T:ap)(A r c4:Nat)(R:aw)(h:OS 119 7 ax.enc v xs T)(d2:A<=r)(hb:r<=xs.length)(hl:xs.length<=1000000000)(d7:c4<=1000000000)(C:gN prog f caps R (λt:ax=>Value.agg t.enc.toArray) c ok)(d9:∀x∈xs,ok x)(d5:LB (aS c) xs A r)(hn:r-A<n+1):
  Spec prog 185 [v,.int .i64 A,.int .i64 r,.int .i64 c4,.func (.func f) #[] caps.toArray] R [T] λu H'=>∃T',H'=[T']/\u=.tuple #[]/\∃ys,OS 119 7 ax.enc v ys T'/\RP A r xs ys/\SR (aS c) ys A r:=by
 have iv:=h.aC
 refine Spec.body func185 rfl results185 ntmps185 rfl<|.sr<|.ag rfl<|.z<|.az rfl<|.block<|.loop (X:=Nat×Nat×Nat×Bool×Bool×List ax×ap) (λy=>(A<=y.1/\y.1<=y.2.1/\y.2.1<=r/\y.2.2.1<=1000000000)/\OS 119 7 ax.enc v y.2.2.2.2.2.1 y.2.2.2.2.2.2/\RP A r xs y.2.2.2.2.2.1/\OX (aS c) y.2.2.2.2.2.1 A r y.1 y.2.1) (λy=>[(0,v),(1,iN y.1),(2,iN y.2.1),(3,iN y.2.2.1),(4,.func (.func f) #[] caps.toArray),(10,.bool y.2.2.2.1),(11,.bool y.2.2.2.2.1)]) (λy=>[y.2.2.2.2.2.2]) (λy=>y.2.1-y.1) (A,r,c4,true,true,xs,T) ⟨⟨adI _,d2,adI _,d7⟩,h,.refl _,.start⟩ kE.c.c.c.c.c.c.c rH ?_
 rintro⟨a,b,l,wb,wp,ys,T1⟩ ⟨⟨i,b3,j,d4⟩,a6,M,a4⟩
 simp only at i b3 j d4 a6 M a4⊢
 have e9:=M.length
 have b1:∀x∈ys,ok x:=λx F=>d9 x (M.perm.mem_iff.1 F)
 have c6:=a4.lb (d5.rp M) i j
 refine .block<|.sr<|.mo rfl<|.mo rfl<|.ia (b-a) .sub<|.ag rfl<|.zs<|.sr<|.mo rfl<|.q .leq<|.zn<|.cond rfl (λh1=>?_) λh1=>?_
 refine .sr<|.mo rfl<|.mo rfl<|.mo rfl<|.mo rfl<|.bQ (tg v ys T1 a b _ a6 b3 (by omega) (by omega) C b1 D) (λu T2 g=>?_)
 obtain⟨rfl,L,I,B,b9⟩:=g
 refine .zn<|.ret (ba (bF (dm (bF (bm _ .none rH ?_)))))
 ·exact⟨_,rfl,rfl,L,I,M.trans (B.mono i j (by omega)),(a4.rp B i j).mN b9⟩
 have f3:12<b-a:=by have:=bK h1;omega
 refine .kn<|.seq<|.sr<|.mo rfl<|.q .cr<|.zn<|.cond rfl (λh2=>?_) λh2=>?_
 refine .sr<|.mo rfl<|.mo rfl<|.mo rfl<|.mo rfl<|.bQ (tc v ys T1 a b _ a6 b3 (by omega) (by omega) C b1 D) (λu T2 g=>?_)
 obtain⟨rfl,L,I,B,b9⟩:=g
 refine .zn<|.ret (ba (bF (dm (bF (bm _ .none rH ?_)))))
 ·exact⟨_,rfl,rfl,L,I,M.trans (B.mono i j (by omega)),(a4.rp B i j).mN b9⟩
 have e8:0<l:=by
  have e7:¬((l:Int)=0):=by simpa using h2
  omega
 refine .kn<|.seq ?_
 refine bq.cut (X:=Nat×List ax×ap) (λz=>z.1<=1000000000/\OS 119 7 ax.enc v z.2.1 z.2.2/\RP a b ys z.2.1) (λz=>[(0,v),(1,iN a),(2,iN b),(3,iN z.1),(4,.func (.func f) #[] caps.toArray),(10,.bool wb),(11,.bool wp),(12,.int .i64 ((b-a:Nat):Int))]) (λz=>[z.2.2]) ?_ ?_
 refine .sr<|.mo rfl<|.q .not<|.zn<|.cond rfl (λh3=>?_) λh3=>?_
 refine .sr<|.mo rfl<|.mo rfl<|.mo rfl<|.mo rfl<|.bQ (sD v ys T1 a b _ (.func (.func f) #[] caps.toArray) inferInstance a6 b3 (by omega) (by omega)) (λu T2 g=>?_)
 obtain⟨rfl,L,I,B⟩:=g
 refine .zn<|.region<|.mo rfl<|.ia (l-1) .sub<|.ag rfl<|.nil ?_
 ·exact aL (l-1,L,T2) ⟨by simp only;omega,I,B⟩ kE.c.c.c.c.c.c.c.c rH
 refine .skip ?_
 ·exact aL (l,ys,T1) ⟨by simp only;omega,a6,.refl _⟩ kE.c.c.c.c.c.c.c.c rH
 intro y hy
 obtain⟨G,L,T2⟩:=y
 obtain⟨K,I,B⟩:=hy
 simp only at K I B⊢
 have f0:=B.length
 have e0:∀x∈L,ok x:=λx F=>b1 x (B.perm.mem_iff.1 F)
 refine aB<|.sr<|.mo rfl<|.mo rfl<|.mo rfl<|.mo rfl<|.bj (choose_spec v L a b _ (I.rs λp hp=>.inr (by simpa using hp)) (by omega) (by omega) (by omega) (C.mono λb o hb=>.inl hb) e0) (λu g=>?_)
 obtain⟨pv,d3,rfl,e2,e3⟩:=g
 refine .mo rfl<|.q .extract<|.q .extract<|.ag rfl<|.ag rfl<|.zs ?_
 refine bq.cut (X:=Nat×Int×List ax×ap) (λz=>(a<=z.1/\z.1<b)/\OS 119 7 ax.enc v z.2.2.1 z.2.2.2/\RP a b ys z.2.2.1) (λz=>[(0,v),(1,iN a),(2,iN b),(3,iN G),(4,.func (.func f) #[] caps.toArray),(10,.bool wb),(11,.bool wp),(12,.int .i64 ((b-a:Nat):Int)),(13,iN z.1),(14,.int .i64 z.2.1)]) (λz=>[z.2.2.2]) ?_ ?_
 refine .sr<|.mo rfl<|.q .cr<|.zn<|.cond rfl (λh4=>?_) λh4=>?_
 refine .sr<|.mo rfl<|.mo rfl<|.mo rfl<|.mo rfl<|.bQ (ud v L T2 a b _ (.func (.func f) #[] caps.toArray) inferInstance I (by omega) (by omega) (by omega)) (λu T3 g=>?_)
 obtain⟨rfl,ws,c8,c9⟩:=g
 refine .z<|.mo rfl<|.ia (b-1) .sub<|.mo rfl<|.mo rfl<|.ia (pv-a) .sub<|.ia ((b-1)-(pv-a)) .sub<|.az rfl<|.region<|.ag rfl<|.nil ?_
 ·exact aL ((b-1)-(pv-a),1,ws,T3) ⟨by simp only;omega,c8,B.trans c9⟩ kE.c.c.c.c.c.c.c.c.c.c rH
 refine .skip ?_
 ·exact aL (pv,d3,L,T2) ⟨⟨e2,e3⟩,I,B⟩ kE.c.c.c.c.c.c.c.c.c.c rH
 intro y hy
 obtain⟨q,f4,us,T4⟩:=y
 obtain⟨⟨b5,b6⟩,a7,J⟩:=hy
 simp only at b5 b6 a7 J⊢
 have f1:=J.length
 have e1:∀x∈us,ok x:=λx F=>b1 x (J.perm.mem_iff.1 F)
 refine aB<|.seq ?_
 refine bq.cut (X:=List ax×ap) (λz=>OS 119 7 ax.enc v z.1 z.2/\RP a b ys z.1) (λz=>[(0,v),(1,iN a),(2,iN b),(3,iN G),(4,.func (.func f) #[] caps.toArray),(10,.bool wb),(11,.bool wp),(12,.int .i64 ((b-a:Nat):Int)),(13,iN q)]) (λz=>[z.2]) ?_ ?_
 refine .sr<|.mo rfl<|.mo rfl<|.split (t:=69) rfl (λa5=>?_) (λa5=>?_)
 refine .gT a5<|.mo rfl<|.q (.bx a5)<|.mo rfl<|.split (t:=72) rfl (λQ=>?_) (λQ=>?_)
 refine .gT Q<|.mo rfl<|.gT Q<|.q .cr<|.q (.bx Q)<|.zn<|.cond rfl (λh5=>?_) λh5=>?_
 refine .sr<|.mo rfl<|.mo rfl<|.mo rfl<|.mo rfl<|.bQ (tN v us T4 a b _ a7 (by omega) (by omega) (by omega) C e1 D (c6.rp J)) (λu T5 g=>?_)
 obtain⟨ms,mb,rfl,c5,b8,d0⟩:=g
 refine .zn<|.cond rfl (λh6=>?_) λh6=>?_
 refine .ret (qW (ba (bF (dm (bF (bm _ .none rH ?_))))))
 ·exact⟨_,rfl,rfl,ms,c5,M.trans ((J.trans b8).mono i j (by omega)),(a4.rp (J.trans b8) i j).mN (d0 (by assumption))⟩
 refine .skip ?_
 ·exact aL (ms,T5) ⟨c5,J.trans b8⟩ kE.c.c.c.c.c.c.c.c.c rH
 refine .skip ?_
 ·exact aL (us,T4) ⟨a7,J⟩ kE.c.c.c.c.c.c.c.c.c rH
 refine .gF Q<|.gF Q<|.q (.bs Q)<|.zn<|.di<|.skip ?_
 ·exact aL (us,T4) ⟨a7,J⟩ kE.c.c.c.c.c.c.c.c.c rH
 refine .gF a5<|.q (.bs a5)<|.mo rfl<|.gX<|.gX<|.q .dG<|.zn<|.di<|.skip ?_
 ·exact aL (us,T4) ⟨a7,J⟩ kE.c.c.c.c.c.c.c.c.c rH
 intro y hy
 obtain⟨a1,T6⟩:=y
 obtain⟨a2,a3⟩:=hy
 simp only at a2 a3⊢
 have f2:=a3.length
 have Z:∀x∈a1,ok x:=λx F=>b1 x (a3.perm.mem_iff.1 F)
 have b7:RP A r xs a1:=M.trans (a3.mono i j (by omega))
 have c0:=a4.rp a3 i j
 have c1:=c6.rp a3
 obtain⟨p,hp⟩:∃x,a1[q]? =some x:=⟨_,aQ (by omega)⟩
 have e4:=Z p (aX hp)
 refine aB<|.seq<|.seq<|.dd 13 mixed (by kernel_rfl) ?_
 conv=>arg 6;dsimp only[List.take]
 refine .mo rfl<|.q .gtr<|.mo rfl<|.split (t:=83) rfl (λe=>?_) (λe=>?_)
 have d1:0<a:=by have:=bV e;omega
 obtain⟨w,hw⟩:∃x,a1[a-1]? =some x:=⟨_,aQ (by omega)⟩
 have e5:=Z w (aX hw)
 refine .gT e<|.mo rfl<|.gT e<|.mo rfl<|.gT e<|.mo rfl<|.gT e<|.ia (a-1) .sub<|.gT e ?_
 refine .aI (a-1) a2 hw (λf5=>?_)
 refine .gT e<|.q (.aU rfl)<|.gT e<|.mo rfl<|.gT e<|.mo rfl<|.gT e ?_
 refine .aI q a2 hp (λf6=>?_)
 refine .gT e<|.q (.aU rfl)<|.nil<|.gT e<|.fw (first:=[]) (captured:=caps) (vs:=[(λt:ax=>Value.agg t.enc.toArray) w,(λt:ax=>Value.agg t.enc.toArray) p]) (C w p e5 e4 _ (λb o hb=>.inl hb)) (λu g=>?_)
 subst g
 refine .gT e<|.q .lss<|.gT e<|.q .not<|.q (.bx e)<|.zn<|.cond rfl (λh7=>?_) λh7=>?_
 have d8:aS c w p=false:=by
  have c7:(!aS c w p)=true:=h7
  simpa using c7
 refine .sr<|.mo rfl<|.mo rfl<|.mo rfl<|.mo rfl<|.mo rfl<|.bQ (tL v a1 T6 a b q p _ a2 (by omega) ⟨b5,b6⟩ hp (by omega) (by omega) C Z D (c1.yp D d1 hw d8)) (λu N g=>?_)
 obtain⟨H,k,rfl,S,s,m⟩:=g
 have b4:=m.lo
 have c3:=m.hi
 refine .ag rfl<|.z<|.mo rfl<|.az rfl<|.exit<|br<|bw ?_
 ·exact bu (k,b,G,_,_,H,N) ⟨⟨by simp only;omega,c3,j,K⟩,S,b7.trans (s.mono i j (by omega)),(c0.rp s i j).wj D m⟩ (by simp only;omega) (((((((kE.d rfl).d rfl).d rfl).d rfl).d rfl).d rfl).d rfl) rH
 refine .kn<|.sr<|.mo rfl<|.mo rfl<|.mo rfl<|.mo rfl<|.mo rfl<|.bQ (pJ v a1 T6 a b q p _ a2 (by omega) ⟨b5,b6⟩ hp (by omega) (by omega) C Z D) (λu N g=>?_)
 obtain⟨H,k,e6,rfl,S,s,m⟩:=g
 have b4:=m.lo
 have c3:=m.hi
 have d6:=s.length
 have b2:∀x∈H,ok x:=λx F=>Z x (s.perm.mem_iff.1 F)
 have a9:=c0.rp s i j
 have a8:RP A r xs H:=b7.trans (s.mono i j (by omega))
 have c2:=c1.rp s
 refine .mo rfl<|.q .extract<|.q .extract<|.ag rfl<|.ag rfl<|.z<|.mo rfl<|.ag rfl<|.z<|.mo rfl<|.mo rfl<|.ia (k-a) .sub<|.mo rfl<|.mo rfl<|.ia (b-k) .sub<|.ag rfl<|.ag rfl<|.z<|.mo rfl<|.q (.i64 (((b-a)/8:Nat):Int) .quo ⟨by rw[adN (by omega)];omega,by omega,by omega⟩)<|.ag rfl<|.z<|.mo rfl<|.mo rfl<|.q .lss<|.zn<|.cond rfl (λh8=>?_) λh8=>?_
 refine .sr<|.mo rfl<|.mo rfl<|.q .geq<|.ag rfl<|.z<|.mo rfl<|.mo rfl<|.mo rfl<|.mo rfl<|.mo rfl<|.bQ (ih v H N a k G _ S (by omega) (by omega) (by omega) K C b2 (c2.less (by omega)) (by omega)) (λu O g=>?_)
 obtain⟨rfl,rs,U,E,W⟩:=g
 have Y:=a9.left D m E W i j (by omega)
 have V:=a8.trans (E.mono i (by omega) (by omega))
 refine .zn<|.region<|.mo rfl<|.ia (k+1) .add<|.ag rfl<|.nil<|bg ?_
 ·exact bu (k+1,b,G,_,_,rs,O) ⟨⟨by simp only;omega,by simp only;omega,by simp only;omega,K⟩,U,V,Y⟩ (by simp only;omega) (((((((kE.d rfl).d rfl).d rfl).d rfl).d rfl).d rfl).d rfl) rH
 refine .sr<|.mo rfl<|.mo rfl<|.q .geq<|.ag rfl<|.z<|.mo rfl<|.mo rfl<|.ia (k+1) .add<|.mo rfl<|.mo rfl<|.mo rfl<|.bQ (ih v H N (k+1) b G _ S (by omega) (by omega) (by omega) K C b2 m.lb (by omega)) (λu O g=>?_)
 obtain⟨rfl,rs,U,E,W⟩:=g
 have Y:=a9.right D m E W i j (by omega)
 have V:=a8.trans (E.mono (by omega) j (by omega))
 refine .zn<|.region<|.mo rfl<|.ag rfl<|.nil<|bg ?_
 ·exact bu (a,k,G,_,_,rs,O) ⟨⟨i,b4,by simp only;omega,K⟩,U,V,Y⟩ (by simp only;omega) (((((((kE.d rfl).d rfl).d rfl).d rfl).d rfl).d rfl).d rfl) rH
 refine .gF e<|.gF e<|.gF e<|.gF e<|.gF e<|.gF e<|.gF e<|.gF e<|.gF e<|.gF e<|.nil<|.gF e<|.gF e<|.gF e<|.q (.bs e)<|.zn<|.di<|.kn<|.sr<|.mo rfl<|.mo rfl<|.mo rfl<|.mo rfl<|.mo rfl<|.bQ (pJ v a1 T6 a b q p _ a2 (by omega) ⟨b5,b6⟩ hp (by omega) (by omega) C Z D) (λu N g=>?_)
 obtain⟨H,k,e6,rfl,S,s,m⟩:=g
 have b4:=m.lo
 have c3:=m.hi
 have d6:=s.length
 have b2:∀x∈H,ok x:=λx F=>Z x (s.perm.mem_iff.1 F)
 have a9:=c0.rp s i j
 have a8:RP A r xs H:=b7.trans (s.mono i j (by omega))
 have c2:=c1.rp s
 refine .mo rfl<|.q .extract<|.q .extract<|.ag rfl<|.ag rfl<|.z<|.mo rfl<|.ag rfl<|.z<|.mo rfl<|.mo rfl<|.ia (k-a) .sub<|.mo rfl<|.mo rfl<|.ia (b-k) .sub<|.ag rfl<|.ag rfl<|.z<|.mo rfl<|.q (.i64 (((b-a)/8:Nat):Int) .quo ⟨by rw[adN (by omega)];omega,by omega,by omega⟩)<|.ag rfl<|.z<|.mo rfl<|.mo rfl<|.q .lss<|.zn<|.cond rfl (λh8=>?_) λh8=>?_
 refine .sr<|.mo rfl<|.mo rfl<|.q .geq<|.ag rfl<|.z<|.mo rfl<|.mo rfl<|.mo rfl<|.mo rfl<|.mo rfl<|.bQ (ih v H N a k G _ S (by omega) (by omega) (by omega) K C b2 (c2.less (by omega)) (by omega)) (λu O g=>?_)
 obtain⟨rfl,rs,U,E,W⟩:=g
 have Y:=a9.left D m E W i j (by omega)
 have V:=a8.trans (E.mono i (by omega) (by omega))
 refine .zn<|.region<|.mo rfl<|.ia (k+1) .add<|.ag rfl<|.nil<|bg ?_
 ·exact bu (k+1,b,G,_,_,rs,O) ⟨⟨by simp only;omega,by simp only;omega,by simp only;omega,K⟩,U,V,Y⟩ (by simp only;omega) (((((((kE.d rfl).d rfl).d rfl).d rfl).d rfl).d rfl).d rfl) rH
 refine .sr<|.mo rfl<|.mo rfl<|.q .geq<|.ag rfl<|.z<|.mo rfl<|.mo rfl<|.ia (k+1) .add<|.mo rfl<|.mo rfl<|.mo rfl<|.bQ (ih v H N (k+1) b G _ S (by omega) (by omega) (by omega) K C b2 m.lb (by omega)) (λu O g=>?_)
 obtain⟨rfl,rs,U,E,W⟩:=g
 have Y:=a9.right D m E W i j (by omega)
 have V:=a8.trans (E.mono (by omega) j (by omega))
 refine .zn<|.region<|.mo rfl<|.ag rfl<|.nil<|bg ?_
 ·exact bu (a,k,G,_,_,rs,O) ⟨⟨i,b4,by simp only;omega,K⟩,U,V,Y⟩ (by simp only;omega) (((((((kE.d rfl).d rfl).d rfl).d rfl).d rfl).d rfl).d rfl) rH
theorem tU(q:SO (aS c))(n:Nat):oY c ok f caps n:=by
 induction n with
 |zero=>exact λv e T a b d R _ _ _ _ _ _ _ _ r=>by omega
 |succ n ih=>exact λv e T a b d R g h i j k l m o p=>tV n ih q v e T a b d R g h i j k l m o p
end
end STP
namespace STP
section
variable{c:ax->ax->Int}{ok:ax->Prop}{f:FuncId}{caps:List Value} [e:aP prog f]
theorem uz(v:Value)(xs:List ax)(T:ap)(R:aw)(h:OS 119 7 ax.enc v xs T)(k:xs.length<=1000000000)(j:gN prog f caps R (λt:ax=>Value.agg t.enc.toArray) c ok)(l:∀x∈xs,ok x)(m:SO (aS c)):
  Spec prog 131 [v,.func (.func f) #[] caps.toArray] R [T] λu H'=>∃T',H'=[T']/\u=.tuple #[]/\∃ys,OS 119 7 ax.enc v ys T'/\ys.Perm xs/\SR (aS c) ys 0 ys.length:=by
 have i:Lib.bitLen xs.length<=1000000000:=by
  have p:=bitLen_le 64 xs.length
  have o:Lib.bitLen xs.length=Lib.bitLenAux 64 xs.length:=rfl
  omega
 refine Spec.body func131 rfl results131 ntmps131 rfl<|.sr<|.mo rfl<|.q (.fz h)<|.az rfl<|.region<|.mo rfl<|.mo rfl<|.mo rfl<|.q (bd.cast (v':=.int .u64 ((xs.length:Nat):Int)) .m4 (by rw[nS (by omega) (by omega)]))<|.bj (tm xs.length (by omega) _) (λu a=>?_)
 subst a
 refine .mo rfl<|.bQ (tU m (xs.length+1) v xs T 0 xs.length (Lib.bitLen xs.length) _ h (Nat.zero_le _) (adI _) k i j l (λd=>absurd d (by omega)) (by omega)) (λu n a=>?_)
 obtain⟨rfl,ys,e,b,g⟩:=a
 refine .nil<|fg _ .none rH ?_
 ·exact⟨_,rfl,rfl,ys,e,b.perm,b.length▸g⟩
end
end STP
set_option linter.unusedSimpArgs false
def gg(a b:ax):Int:=if gh a b then-1 else if gh b a then 1 else 0
theorem rb:aS gg=aS kC:=by
 funext a b
 unfold aS gg
 by_cases c:gh a b=true
 ·rw[adL c];unfold gh at c;rw[c];rfl
 ·rw[adM c]
  unfold gh at c
  have d:decide (kC a b<0)=false:=by simpa using c
  rw[d]
  split<;>rfl
theorem K9(a b:ax)(R:aw):Spec prog 132 [.agg a.enc.toArray,.agg b.enc.toArray] R [] λv H'=>v=.int .i64 (gg a b)/\H'=[]:=by
 refine Spec.body func132 rfl results132 ntmps132 rfl<|.sr ?_
 refine .cm rfl (λf=>?_)
 refine .cm rfl (λg=>?_)
 refine .ag rfl<|.zs<|.block<|.sr<|.q (.aU rfl)<|.q (.aU rfl)<|.bj (Ag a b _) (λv e=>?_)
 subst e
 refine .az rfl<|.cond rfl (λc=>?_) λc=>?_
 refine .sr<|.az rfl<|.ret (bF (ba (aY rfl ?_)))
 ·exact⟨by unfold gg;rw[adL c],rfl⟩
 refine .sr<|.q (.aU rfl)<|.q (.aU rfl)<|.bj (Ag b a _) (λv e=>?_)
 subst e
 refine .az rfl<|.cond rfl (λd=>?_) λd=>?_
 refine .sr<|.az rfl<|.ret (bF (ba (aY rfl ?_)))
 ·exact⟨by unfold gg;rw[adM (by rw[c];simp),adL d],rfl⟩
 refine .skip<|bg<|aB<|.sr<|.az rfl<|.ret (aY rfl ?_)
 ·exact⟨by unfold gg;rw[adM (by rw[c];simp),adM (by rw[d];simp)],rfl⟩
abbrev mx(ys:List ax):Prop:=ys.Pairwise λp q=>aS kC q p=false
theorem yN(R:aw):gN prog 132 [] R (λt:ax=>Value.agg t.enc.toArray) gg (λ_=>True):=λx y _ _ a _=>K9 x y a
theorem yM:SO (aS gg):=by rw[rb];exact ji.so
theorem vC(v:Value)(F:List RB)(r:Int)(R:aw)(f:RS R 1 sQ v F)(l:∀p∈F,PC R (.pointer (some ⟨p.1,0,none⟩)) p.2.enc)(M:F.length<=5000):
  Spec prog 129 [v,.int .u64 r] R [] λu H'=>∃T,H'=[T]/\∃ys,OS 119 7 ax.enc u ys T/\ys.Perm ((F.filter λp=>p.2.there r).map (·.2.t))/\mx ys:=by
 obtain⟨J,I,rfl⟩:=f.val
 refine Spec.jg (H':=[[]]) (by simp)<|Spec.body func129 rfl results129 ntmps129 rfl<|.sr<|.ag rfl<|.z<|.ag rfl<|.zs<|.sr<|.mo rfl<|.q (.cq f)<|.mo rfl<|.zn<|.block<|.loop (X:=Nat×Value×ap) (λy=>y.1<=F.length/\OS 119 7 ax.enc y.2.1 (((F.take y.1).filter λp=>p.2.there r).map (·.2.t)) y.2.2) (λy=>[(1,.int .u64 r),(5,y.2.1),(8,.slice J F.length I),(9,iN F.length),(10,iN y.1)]) (λy=>[y.2.2]) (λy=>F.length-y.1) (0,sZ,[]) ⟨Nat.zero_le _,OS.nil⟩ kE.c.c.c.c.c rH ?_
 rintro⟨i,n,j⟩ ⟨A,a⟩
 simp only at A a⊢
 have O:=a.aC
 have C:(((F.take i).filter λp=>p.2.there r).map (·.2.t)).length<=5000:=by
  rw[adT]
  exact adQ (adR _ _) (by rw[List.length_take];omega)
 refine .sr<|.q .lss<|.zs<|.cond rfl (λd=>?_) λd=>?_
 have g:i<F.length:=cV d
 obtain⟨⟨b,x⟩,h⟩:=cE g
 have S:PC R (pT b) x.enc:=l _ (aX h)
 have m:F.take (i+1)=F.take i++[(b,x)]:=by rw[List.take_add_one,h];rfl
 refine .kn<|.seq<|.block<|.sr ?_
 refine .bZ i f h (λQ=>?_)
 refine .lo rfl<|.ag rfl<|.z<|.mo rfl ?_
 refine .nc rfl<|.q (.aU rfl)<|.mo rfl ?_
 refine .bj (NQ x r _) (λv H=>?_)
 subst H
 refine .zn<|.cond rfl (λe=>?_) λe=>?_
 refine .region<|.mo rfl<|.mo rfl<|.nc rfl<|.fa rfl<|.q (.loadT rfl) ?_
 refine .dV (λL=>?_)
 refine .append a (RS.lits (xs:=[x.t]) rfl (by simp[ax.enc]) (by simp[ax.enc,aC])) (by simp only[List.length_singleton];omega) (λK s w=>?_)
 refine .ag rfl<|.nil<|bg<|aB<|.region<|.ia (i+1) .add<|.mo rfl<|.nil ?_
 ·exact bu (i+1,K,s) ⟨g,by simp only;rw[m,adU,List.map_append,adO,adL e];exact w⟩ (by simp only;omega) kE.c.c.c.c.c (aT [1])
 refine .skip<|bg<|aB<|.region<|.ia (i+1) .add<|.mo rfl<|.nil ?_
 ·exact bu (i+1,n,j) ⟨g,by simp only;rw[m,adU,List.map_append,adO,adM (by rw[e];simp)];simpa using a⟩ (by simp only;omega) kE.c.c.c.c.c rH
 have B:i=F.length:=by have:=bK d;omega
 subst B
 rw[adV]at a C
 refine .exit<|br<|bz<|bw<|aB<|.sr<|.mo rfl<|.bQ (STP.uz (caps:=[]) n _ j _ a (by omega) (yN _) (λp l=>trivial) yM) (λu o G=>?_)
 obtain⟨rfl,ys,k,D,E⟩:=G
 have N:=k.aC
 refine .z<|.mo rfl<|.az rfl<|.ret (bm _ (.one (.tmp rfl)) (.one [0] _) ?_)
 ·exact⟨o,by simp[take],ys,k,D,by have:=E.ordered;rw[rb]at this;exact this⟩
theorem w8{α:Type} [DecidableEq α]{k:α}:∀{l:List α},l.Nodup->k∈l->l.Perm (k::l.filter λk'=>decide (k'≠k))
 |[],_,h=>by cases h
 |x::l,hn,h=>by
  have b:=List.nodup_cons.1 hn
  by_cases a:x=k
  ·subst a
   have:l.filter (λk'=>decide (k'≠x))=l:=List.filter_eq_self.2 λy f=>by
    have:y≠x:=λe=>b.1 (e▸f)
    simp[this]
   rw[adO]
   simp only[ne_eq,not_true_eq_false,decide_false,Bool.false_eq_true,if_false]
   have c:l.filter (λk'=> !decide (k'=x))=l:=by simpa using this
   simp only[decide_not,c]
   exact .refl _
  ·have d:k∈l:=by
    rcases List.mem_cons.1 h with e|h
    ·exact absurd e.symm a
    ·exact h
   have:=(w8 b.2 d).cons x
   rw[adO,adL (by simp[a])]
   exact this.trans (List.Perm.swap k x _)
theorem w9{α:Type}{a b c:α->Bool}:∀L:List α,(∀x∈L,c x=(a x||b x)/\¬(a x=true/\b x=true))->(L.filter c).Perm (L.filter a++L.filter b)
 |[],_=>by simp
 |x::L,h=>by
  obtain⟨e,f⟩:=h x (by simp)
  have d:=w9 L λy g=>h y (by simp[g])
  rw[adO,adO,adO,e]
  cases ha:a x<;>cases hb:b x
  ·simpa using d
  ·simpa using(d.cons x).trans List.perm_middle.symm
  ·simpa using d.cons x
  ·exact absurd ⟨ha,hb⟩ f
def yZ(S:cQ)(f:ax)(r:Int)(ys:List ax):Prop:=ys.Perm (if scan S r then rX S f r else [])/\mx ys
theorem Lv{R:aw}{g:Nat}{S:cQ}{ps:List RB}{vf vr:Value}{C:List (aR×(Value×ap))}{Mr:List (Sub×(Value×ap))}(h:SV R g S ps vf vr C Mr)(hl:S.rows.length<=4096)(f:ax)(r:Int):
  Spec prog 73 [pT g,.agg f.enc.toArray,.int .u64 r] R [] λu H'=>∃T,H'=[T]/\∃w ys,u=.tuple [w,.int .i64 (if scan S r then 0 else 12)].toArray/\OS 119 7 ax.enc w ys T/\yZ S f r ys:=by
 have pc:=h.pc
 have c4:=h.of
 have c5:=h.or
 have a1:ps.length<=4096:=by rw[<-h.eq,adT]at hl;exact hl
 refine Spec.jg (H':=[[],[]]) (by simp)<|Spec.body func73 rfl results73 ntmps73 rfl<|.sr ?_
 refine .cm rfl (λm=>?_)
 refine .ag rfl<|.ag rfl<|.zs<|.block<|.sr<|.mo rfl<|.bj (h.mono λb o e=>.inl e).ok (λv l=>?_)
 subst l
 refine .q .not<|.az rfl<|.di<|.sr<|.mo rfl<|.mo rfl<|.bj ((h.mono λb o e=>.inl e).can r) (λv l=>?_)
 subst l
 refine .q .not<|.az rfl<|.cond rfl (λD=>?_) λD=>?_
 refine .sr<|.ag rfl<|.az rfl<|.ret (bF (ba (bm _ (.two (.tmp rfl) (.tmp rfl)) ((aT [1])) ?_)))
 ·have i:scan S r=false:=by simpa using D
  exact⟨[],by simp[take],_,[],by rw[i];rfl,OS.nil,by rw[i];exact .refl _,List.Pairwise.nil⟩
 have i:scan S r=true:=by simpa using D
 refine .skip<|bg<|aB<|.sr<|.ag rfl<|.zs<|.sr<|.mo rfl<|.nc rfl<|.fa rfl<|.lo rfl ?_
 refine .range h.mf (λ_ _=>.inl) rfl (λM a5 a9=>?_)
 refine .zn<|.block ?_
 refine .loop (X:=List ax×List aR×Value×ap×ap) (λy=>y.2.1.Nodup/\y.1.Perm ((ps.filter λp=>(p.2.there r&&hM f p.2.t)&&decide (p.2.t.cB∉y.2.1)).map (·.2.t))/\OS 119 7 ax.enc y.2.2.1 y.1 y.2.2.2.1/\It R (λk:aR=>.agg k.enc.toArray) (λp:Value×ap=>p.1) vf C M y.2.1 y.2.2.2.2) (λy=>[(2,.int .u64 r),(4,pT m),(8,y.2.2.1),(26,M)]) (λy=>[bl m f.enc 49,y.2.2.2.1,y.2.2.2.2]) (λy=>y.2.1.length) ([],C.map (·.1),sZ,[],a5) ⟨h.nf,by
  rw[List.filter_eq_nil_iff.2 λp s=>by simp[h.af p s]];exact .refl _,OS.nil,a9⟩ kE.c.c.c.c ((aT [1,1,0])) ?_
 rintro⟨B,O,vo,U,Ti⟩ ⟨K,A,n,Z⟩
 simp only at K A n Z⊢
 have io:=n.aC
 have c2:B.length<=4096:=by
  rw[A.length_eq,adT]
  exact adQ (adR _ _) a1
 refine .sr ?_
 refine .KM Z (λ_ _=>.inl) rfl (λb rest Q hf ht=>?_)
 refine .q .extract<|.zs<|.cond rfl (λE=>?_) λE=>?_
 obtain⟨k,⟨v0,T0⟩,hk,b1,a0⟩:=ht E
 obtain⟨pf,cf,I,b5⟩:=h.lf k
 rw[b1]at I
 simp only[Option.map_some,Option.getD_some]at I
 subst I
 have a8:=w8 K hk
 have hF:RS R 1 sQ (.slice pf (ids (λx=>x.t.cB) k ps).length cf) (jK (λx=>x.t.cB) k ps):=RS.of_map (enc:=il) (f:=λp:RB=>p.1) b5
 have a6:(jK (λx=>x.t.cB) k ps).length<=4096:=adQ (adR _ _) a1
 refine .kn<|.block<|.sr<|.q (.entry a0 (λ_ _=>.inl) rfl)<|.q .extract<|.ag rfl<|.z<|.mo rfl<|.mo rfl<|.dN (vC _ (jK (λx=>x.t.cB) k ps) r _ hF.rx (λp s=>(h.pr p (List.mem_filter.1 s).1).mono λb o e=>.inl e) (by omega)) (λu T1 L=>?_)
 obtain⟨ys,H,a4,_⟩:=L
 have iu:=H.aC
 have c1:ys.length<=4096:=by
  rw[a4.length_eq,adT]
  exact adQ (adR _ _) a6
 refine .q (.fz H)<|.mo rfl<|.zn<|.block<|.loop (X:=Nat×Value×ap) (λy=>y.1<=ys.length/\OS 119 7 ax.enc y.2.1 (B++(ys.take y.1).filter λt=>hM f t) y.2.2) (λy=>[(2,.int .u64 r),(4,pT m),(8,y.2.1),(26,M),(33,u),(34,iN ys.length),(35,iN y.1)]) (λy=>[T1,bl m f.enc 49,y.2.2,Q]) (λy=>ys.length-y.1) (0,vo,U) ⟨Nat.zero_le _,by simpa using n⟩ kE.c.c.c.c.c.c.c rH ?_
 rintro⟨j,v1,V⟩ ⟨hj,d⟩
 simp only at hj d⊢
 have c3:=d.aC
 have c0:((ys.take j).filter λt=>hM f t).length<=4096:=adQ (adR _ _) (by rw[List.length_take];omega)
 refine .sr<|.q .lss<|.zs<|.cond rfl (λF=>?_) λF=>?_
 have J:j<ys.length:=cV F
 obtain⟨t,a2⟩:=cE J
 have a3:ys.take (j+1)=ys.take j++[t]:=by rw[List.take_add_one,a2];rfl
 refine .kn<|.seq<|.block<|.sr ?_
 refine .aI j H a2 (λc6=>?_)
 refine .q (.aU rfl) ?_
 refine .bT (λb8=>?_)
 refine .bP rfl rfl<|.z<|.q (.aU rfl)<|.q (.aU rfl)<|.bj (NT f t _) (λv l=>?_)
 subst l
 refine .zn<|.cond rfl (λG=>?_) λG=>?_
 refine .region<|.mo rfl<|.q (.aU rfl) ?_
 refine .dV (λb9=>?_)
 refine .append d (RS.lits (xs:=[t]) rfl (by simp[ax.enc]) (by simp[ax.enc,aC])) (by simp;omega) (λv5 T5 a7=>?_)
 refine .ag rfl<|.nil<|bg<|aB<|.region<|.ia (j+1) .add<|.mo rfl<|.nil ?_
 ·exact bu (j+1,v5,T5) ⟨J,by simp only;rw[a3,adU,adO,adL G, <-List.append_assoc];exact a7⟩ (by simp only;omega) kE.c.c.c.c.c.c.c (aT [2,2,2,2])
 refine .skip<|bg<|aB<|.region<|.ia (j+1) .add<|.mo rfl<|.nil ?_
 ·exact bu (j+1,v1,V) ⟨J,by simp only;rw[a3,adU,adO,adM (by rw[G];simp)];simpa using d⟩ (by simp only;omega) kE.c.c.c.c.c.c.c (aT [1,1,1,1])
 have b0:j=ys.length:=by have:=bK F;omega
 subst b0
 rw[adV]at d
 refine .exit<|br<|bz<|bw<|bg ?_
 ·refine bu (B++ys.filter (λt=>hM f t),O.filter λN=>decide (N≠k),v1,V,Q) ⟨K.sublist List.filter_sublist,?_,d,a0.it⟩ ?_ kE.c.c.c.c (aT [1,1,1])
  ·simp only
   have h9:=w9 (a:=λp:RB=>(p.2.there r&&hM f p.2.t)&&decide (p.2.t.cB∉O)) (b:=λp:RB=>decide (p.2.t.cB=k)&&(p.2.there r&&hM f p.2.t)) (c:=λp:RB=>(p.2.there r&&hM f p.2.t)&&decide (p.2.t.cB∉O.filter λN=>decide (N≠k))) ps λp _=>by
    by_cases W:p.2.t.cB=k
    ·rw[W];simp[hk]
    ·simp[W]
   refine List.Perm.trans ?_ (h9.map _).symm
   rw[List.map_append]
   refine A.append<|(a4.filter _).trans (.of_eq ?_)
   rw[List.filter_map,List.filter_filter]
   unfold jK
   rw[List.filter_filter]
   congr 1
   refine List.filter_congr λp _=>?_
   simp only[Function.comp]
   cases decide (p.2.t.cB=k)<;>cases p.2.there r<;>cases hM f p.2.t<;>rfl
  ·have:=a8.length_eq
   simp only[List.length_cons]at this
   simp only;omega
 have b7:=hf E
 subst b7
 have b2:B.Perm (rX S f r):=by
  refine A.trans (.of_eq ?_)
  unfold rX
  rw[<-h.eq,List.filter_map,List.map_map]
  congr 1
  refine List.filter_congr λp _=>by simp
 refine .exit<|br<|bz<|bw<|aB<|.sr<|.mo rfl<|.bQ (STP.uz (caps:=[]) vo _ U _ n (by omega) (yN _) (λp s=>trivial) yM) (λu T3 L=>?_)
 obtain⟨rfl,ys,Y,b3,b6⟩:=L
 have i5:=Y.aC
 refine .z<|.mo rfl<|.ag rfl<|.az rfl<|.ret (bm _ (.two (.tmp rfl) (.tmp rfl)) ((aT [1])) ?_)
 ·exact⟨T3,by simp[take,bJ],_,ys,by rw[i];rfl,Y,by rw[i];exact b3.trans b2,by have:=b6.ordered;rw[rb]at this;exact this⟩
abbrev strict(ys:List ax):Prop:=ys.Pairwise λp q=>gh p q=true
theorem NR{a b:ax}:aS kC a b=gh a b:=rfl
theorem NS{a b:ax}(h:a≠b):gh a b=true\/gh b a=true:=by
 unfold gh
 have d:=ji.sw b a
 have c:kC a b≠0:=λe=>h (Ah e)
 rcases Int.lt_or_lt_of_ne c with h4|h4
 ·exact .inl (decide_eq_true h4)
 ·exact .inr (decide_eq_true (by omega))
theorem uF{a b:ax}(h:gh a b=true):gh b a=false:=by
 unfold gh at *
 have c:=ji.sw b a
 have h:=bV h
 exact decide_eq_false (by omega)
theorem uG(a:ax):gh a a=false:=by
 unfold gh
 have:=ji.refl a
 exact decide_eq_false (by omega)
theorem strict.order{ys:List ax}(h:strict ys):mx ys:=h.imp λ{p q} a=>uF a
theorem yK{xs ys:List ax}(a:ys.Perm xs)(b:mx xs)(c:mx ys):ys=xs:=Br ji (λ_ _=>Ah) a b c
theorem MN{S:cQ}{r:Int}:scan S r=true↔S.et<=r/\r<=S.head:=by unfold scan;simp
structure WI(S:cQ)(cs:List cI)(i:Nat)(W:List ax):Prop where
 pm:W.Perm (rX ⟨(cs.take i).foldl (fV (S.head+1)) S.rows,S.head+1,S.et⟩ ⟨⟨#[]⟩,⟨#[]⟩,⟨#[]⟩,⟨#[]⟩,⟨#[]⟩,⟨#[]⟩,⟨#[]⟩⟩ (S.head+1))
 st:strict W
theorem WI.done{S:cQ}(d:iW S){cA no:List ax}{cs:List cI}(e:jU S cA no cs=0){W Z:List ax}(h:WI S cs cs.length W)(a:yZ (lj S cA no cs) (⟨⟨#[]⟩,⟨#[]⟩,⟨#[]⟩,⟨#[]⟩,⟨#[]⟩,⟨#[]⟩,⟨#[]⟩⟩:ax) (S.head+1) Z):Z=W:=by
 have g:lj S cA no cs=⟨cs.foldl (fV (S.head+1)) S.rows,S.head+1,S.et⟩:=by unfold lj;rw[adL e]
 rw[g]at a
 have f:scan ⟨cs.foldl (fV (S.head+1)) S.rows,S.head+1,S.et⟩ (S.head+1)=true:=MN.2 ⟨by have:=d.h1;simp only;omega,Int.le_refl _⟩
 have b:=a.1
 rw[adL f]at b
 have c:=h.pm
 rw[adV]at c
 exact yK (b.trans c.symm) h.st.order a.2
theorem rD{a b:ax}:gg a b<0↔kC a b<0:=by
 have h:=congrFun (congrFun rb a) b
 unfold aS at h
 exact decide_eq_decide.1 h
theorem pH(a b:ax):0<gg a b↔gg b a<0:=by
 unfold gg
 have c:= @uF b a
 cases ha:gh a b<;>cases hb:gh b a<;>simp_all
theorem yL:fE gg where
 sw x y:=by rw[pH]
 tr x y z h1 h2:=by
  have d:¬gg y x<0:=λe=>by have:=(pH x y).2 e;omega
  have a:¬gg z y<0:=λe=>by have:=(pH y z).2 e;omega
  rw[rD]at d a
  have f:=ji.sw y x
  have g:=ji.sw x y
  have b:=ji.sw y z
  have c:=ji.sw z y
  have h:=ji.tr x y z (by omega) (by omega)
  have i:=ji.sw z x
  have j:¬gg z x<0:=by rw[rD];omega
  have:=pH x z
  omega
 tl x y z h1 h2:=by
  have a:¬gg z y<0:=λe=>by have:=(pH y z).2 e;omega
  rw[rD]at a h1⊢
  have b:=ji.sw y z
  have c:=ji.sw z y
  exact ji.tl x y z h1 (by omega)
theorem K8{a b:ax}(h:gg a b=0):a=b:=by
 unfold gg at h
 split at h
 ·omega
 ·split at h
  ·omega
  ·rename_i d e
   exact Classical.byContradiction λc=>by rcases NS c with h3|h3<;>contradiction
def rJ(a b:bD):Int:=gd [gg a.t b.t,jL a.fr b.fr]
theorem Lt:fE rJ:=(yL.map bD.t).cons ((xA.map bD.fr).cons .nil)
def nC(a b:bD):Bool:=gh a.t b.t||decide (a.t=b.t)&&decide (a.fr<b.fr)
theorem yb(a b:bD):aS rJ a b=nC a b:=by
 unfold aS rJ nC
 rw[ow,ow]
 rw[Bool.eq_iff_iff]
 simp only[adW,Bool.or_eq_true,adX]
 by_cases h:a.t=b.t
 ·rw[adL (by rw[h];exact yL.refl _)]
  rw[h,uG]
  unfold jL gd
  simp
  split
  ·split<;>omega
  ·split
   ·split<;>omega
   ·split<;>omega
 ·rw[adM λe=>h (K8 e),rD]
  unfold gh
  simp[h]
abbrev Mm(ys:List bD):Prop:=ys.Pairwise λp q=>aS rJ q p=false
abbrev uh(ys:List bD):Prop:=ys.Pairwise λp q=>nC p q=true
theorem Mk{a b:bD}(h:nC a b=true):nC b a=false:=by
 rw[<-yb]at *
 unfold aS at *
 have c:=Lt.sw b a
 have h:=bV h
 exact decide_eq_false (by omega)
theorem uh.order{ys:List bD}(h:uh ys):Mm ys:=h.imp λ{p q} a=>by rw[yb];exact Mk a
theorem iW.two{S:cQ}(c:iW S){ys:List bD}(d:ys.Perm S.rows):ys.Pairwise λx y=>x.t=y.t->(x.to≠0/\x.to<=y.fr)\/(y.to≠0/\y.to<=x.fr):=by
 have h:S.rows.Pairwise λx y=>x.t=y.t->(x.to≠0/\x.to<=y.fr)\/(y.to≠0/\y.to<=x.fr):=c.pw.imp λ{x y} b a=>.inl (b a)
 exact d.symm.pairwise h λ{x y} b a=>(b a.symm).symm
structure RL(S:cQ)(L:List bD):Prop where
 pm:L.Perm S.rows
 st:uh L
theorem RL.pw{S:cQ}(b:iW S){L:List bD}(h:RL S L):L.Pairwise λx y=>x.t=y.t->x.to≠0/\x.to<=y.fr:=by
 refine((b.two h.pm).and h.st).imp_of_mem λ{x y} i f e c=>?_
 obtain⟨d,a⟩:=e
 obtain⟨_,_,_,g⟩:=b.ok y (h.pm.mem_iff.1 f)
 unfold nC at a
 rw[c,uG]at a
 simp only[Bool.false_or,adX,adW]at a
 have:=d c
 omega
theorem RL.ordered{S:cQ}{L:List bD}(h:RL S L)(q:bD->Bool):mx ((L.filter q).map (·.t)):=by
 rw[mx,List.pairwise_map]
 refine(h.st.sublist List.filter_sublist).imp λ{x y} a=>?_
 rw[NR]
 unfold nC at a
 simp only[Bool.or_eq_true,adX,adW]at a
 rcases a with h1|h1
 ·exact uF h1
 ·rw[h1.1];exact uG _
theorem RL.at_{S:cQ}{L:List bD}(h:RL S L){q:bD->Bool}{ys:List ax}(a:ys.Perm ((S.rows.filter q).map (·.t)))(ho:mx ys):ys=(L.filter q).map (·.t):=yK (a.trans ((h.pm.filter _).map _).symm) (h.ordered _) ho
namespace SST
def gO(c:ByteArray->ByteArray->Int)(ok:ByteArray->Prop)(R:aw):Prop:=c=fh
theorem gO.mono{c:ByteArray->ByteArray->Int}{ok:ByteArray->Prop}{R R':aw}(h:gO c ok R)(a:∀b o,R b o->R' b o):gO c ok R':=h
theorem Nc(a:ByteArray)(R:aw):Spec prog 255 [.string a] R [] λu H'=>u=.bool false/\H'=[]:=by
 refine Spec.body func255 rfl results255 ntmps255 rfl<|.sr<|.ag rfl<|.z<|.mo rfl<|.mo rfl<|.q .kY<|.az rfl<|.ret (aY rfl ?_)
 ·exact⟨by simp,rfl⟩
theorem jh{c:ByteArray->ByteArray->Int}{ok:ByteArray->Prop}{e:aw}(g:gO c ok e)(a b:ByteArray)(R:aw):Spec prog 216 [.string a,.string b] R [] λu H'=>u=.bool (decide (c a b<0))/\H'=[]:=by
 have f:c=fh:=g
 subst f
 refine Spec.body func216 rfl results216 ntmps216 rfl<|.sr<|.ag rfl<|.z<|.mo rfl<|.bj (Nc a _) (λu h=>?_)
 subst h
 refine .mo rfl<|.split (t:=7) rfl (λd=>?_) (λd=>?_)
 ·simp at d
 refine .gF d<|.gF d<|.gF d<|.q (.bs d)<|.mo rfl<|.gt rfl<|.mo rfl<|.gt rfl<|.mo rfl<|.gt rfl<|.q .Kp<|.q .dG<|.az rfl<|.ret (aY rfl ?_)
 ·exact⟨congrArg _ (by rw[Bool.eq_iff_iff,nE];simp),rfl⟩
end SST
namespace SST
section
variable{c:ByteArray->ByteArray->Int}{ok:ByteArray->Prop}
theorem tg(v:Value)(xs:List ByteArray)(T:ap)(a b:Nat)(R:aw)(h:OS 9 1 cO v xs T)(W:a<=b)(Y:b<=xs.length)(hl:xs.length<=1000000000)(K:gO c ok R)(F:∀x∈xs,ok x)(B:SO (aS c)):
  Spec prog 210 [v,.int .i64 a,.int .i64 b] R [T] λu H'=>∃T',H'=[T']/\u=.tuple #[]/\∃ys,OS 9 1 cO v ys T'/\RP a b xs ys/\SR (aS c) ys a b:=by
 have iv:=h.aC
 refine Spec.body func210 rfl results210 ntmps210 rfl<|.sr<|.mo rfl<|.ia (a+1) .add<|.az rfl<|.block<|.loop (X:=Nat×List ByteArray×ap) (λy=>(a+1<=y.1/\(y.1<=b\/y.1=a+1))/\OS 9 1 cO v y.2.1 y.2.2/\RP a b xs y.2.1/\SR (aS c) y.2.1 a y.1) (λy=>[(0,v),(1,iN a),(2,iN b),(6,iN y.1)]) (λy=>[y.2.2]) (λy=>b-y.1) (a+1,xs,T) ⟨⟨by simp only;omega,.inr rfl⟩,h,.refl _,λi j m n D=>by simp only at D;omega⟩ kE.c.c.c.c rH ?_
 rintro⟨i,ys,I⟩ ⟨⟨L,M⟩,z,r,A⟩
 simp only at L M z r A⊢
 have a1:=r.length
 refine .seq<|.sr<|.mo rfl<|.mo rfl<|.q .lss<|.zn<|.cond rfl (λm=>?_) λm=>?_
 have a0:i<b:=by simp at m;omega
 refine .kn<|.seq<|.block<|.sr<|.mo rfl<|.az rfl<|.block<|.loop (X:=Nat×List ByteArray×ap) (λy=>(a<=y.1/\y.1<=i)/\OS 9 1 cO v y.2.1 y.2.2/\RP a b xs y.2.1/\ke (aS c) y.2.1 a y.1 (i+1)) (λy=>[(0,v),(1,iN a),(2,iN b),(6,iN i),(7,iN y.1)]) (λy=>[y.2.2]) (λy=>y.1) (i,ys,I) ⟨⟨by simp only;omega,adI _⟩,z,r,A.ins⟩ kE.c.c.c.c.c rH ?_
 rintro⟨j,o,C⟩ ⟨⟨N,O⟩,e,l,p⟩
 simp only at N O e l p⊢
 have a2:=l.length
 refine .seq<|.seq<|.dd 13 mixed (by kernel_rfl) ?_
 conv=>arg 6;dsimp only[List.take]
 refine .mo rfl<|.mo rfl<|.q .gtr<|.mo rfl<|.split (t:=19) rfl (λd=>?_) (λd=>?_)
 have E:a<j:=by have:=bV d;omega
 obtain⟨x,f⟩:∃x,o[j]? =some x:=⟨_,aQ (by omega)⟩
 obtain⟨y,g⟩:∃x,o[j-1]? =some x:=⟨_,aQ (by omega)⟩
 have a3:=F x (l.perm.mem_iff.1 (aX f))
 have a4:=F y (l.perm.mem_iff.1 (aX g))
 refine .gT d<|.mo rfl<|.gT d<|.mo rfl<|.gT d ?_
 refine .aI j e f (λa5=>?_)
 refine .gT d<|.lo rfl<|.gT d<|.mo rfl<|.gT d<|.mo rfl<|.gT d<|.ia (j-1) .sub<|.gT d ?_
 refine .aI (j-1) e g (λa6=>?_)
 refine .gT d<|.lo rfl<|.nil<|.gT d<|.bj (jh K x y _) (λu s=>?_)
 subst s
 refine .q (.bx d)<|.zn<|.cond rfl (λn=>?_) λn=>?_
 refine .kn<|.seq<|.block<|.cG [15,17] mixed<|.tO 0 rfl .move<|.tO 1 rfl .move<|.tK 2 rfl .move<|.tK 3 rfl .move<|.take 4 rfl (.i64 ((j-1:Nat):Int) .sub ⟨by omega,by omega,by omega⟩) (by kernel_rfl)<|.tO 5 rfl .move<|.tO 6 rfl .move<|.eQ 7 rfl (.i64 ((j-1:Nat):Int) .sub ⟨by omega,by omega,by omega⟩) (by kernel_rfl) ?_
 refine RA.aI 8 rfl (j-1) e g rfl rfl rfl (by kernel_rfl) (λa7=>?_)
 refine .tO 9 rfl (.bU rfl)<|.tO 10 rfl .move<|.tO 11 rfl .move ?_
 refine RA.aI 12 rfl (j) e f rfl rfl rfl (by kernel_rfl) (λa8=>?_)
 refine .tO 13 rfl (.bU rfl) ?_
 refine RA.aI 14 rfl (j) e f rfl rfl rfl (by kernel_rfl) (λa9=>?_)
 refine .sT 15 rfl ?_
 refine .cY (j) e f y (λV S=>?_)
 refine .nil (Next.mod rfl ?_)
 refine RA.aI 16 rfl (j-1) e g rfl rfl rfl (by kernel_rfl) (λb0=>?_)
 refine .sT 17 rfl ?_
 obtain⟨zz,U⟩:∃u,(o.set (j) y)[j-1]? =some u:=⟨_,aQ (by rw[adJ];exact(adK.1 g).1)⟩
 refine .cY (j-1) S U x (λJ G=>?_)
 rw[<-ej f g]at G
 refine .nil<|Next.mod rfl<|RA.nil (by kernel_rfl)<|bg<|aB<|.region<|.mo rfl<|.ia (j-1) .sub<|.ag rfl<|.nil ?_
 ·have Q:aS c x y=true:=n
  exact bu (j-1,cy o j (j-1),J) ⟨⟨by simp only;omega,by simp only;omega⟩,G,l.step (by omega) (by omega) (by omega) (by omega) (by omega),p.step B (by omega) (by omega) E f g Q⟩ (by simp only;omega) kE.c.c.c.c.c rH
 refine .exit<|br<|bz<|bw<|bg<|aB<|.region<|.mo rfl<|.ia (i+1) .add<|.ag rfl<|.nil ?_
 ·refine bu (i+1,o,C) ⟨⟨by simp only;omega,.inl (by simp only;omega)⟩,e,l,p.done B (by omega) (by omega) ?_⟩ (by simp only;omega) kE.c.c.c.c rH
  exact .inr ⟨E,λu w s H=>by
   rw[g]at s;rw[f]at H;cases s;cases H;exact n⟩
 refine .gF d<|.gF d<|.gF d<|.gF d<|.gF d<|.gF d<|.gF d<|.gF d<|.gF d<|.nil<|.gF d<|.q (.bs d)<|.zn<|.di<|.exit<|br<|bz<|bw<|bg<|aB<|.region<|.mo rfl<|.ia (i+1) .add<|.ag rfl<|.nil ?_
 ·refine bu (i+1,o,C) ⟨⟨by simp only;omega,.inl (by simp only;omega)⟩,e,l,p.done B (by omega) (by omega) ?_⟩ (by simp only;omega) kE.c.c.c.c rH
  exact .inl (by have:=bK d;omega)
 refine .exit<|br<|bz<|bw<|fg _ .none rH ?_
 ·have Z:b<=i:=by simp at m;omega
  exact⟨_,rfl,rfl,ys,z,r,λj k m n D=>A j k m n (by omega)⟩
theorem p3(v:Value)(xs:List ByteArray)(T:ap)(lo g b:Nat)(R:aw)(h:OS 9 1 cO v xs T)(a7:lo<=g)(hb:b+g<=xs.length)(hl:xs.length<=1000000000)(hf:gO c ok R)(Y:∀x∈xs,ok x)(F:SO (aS c)):
    Spec prog 250 [v,.int .i64 lo,.int .i64 g,.int .i64 b] R [T] λu H'=>∃T',H'=[T']/\u=.tuple #[]/\∃ys,OS 9 1 cO v ys T'/\RP b (b+g) xs ys/\
      (jn (λx y=>aS c y x) (xs.drop b) g lo lo->iF (λx y=>aS c y x) (ys.drop b) g lo):=by
  have iv:=h.aC
  have a4:=F.rev
  refine Spec.body func250 rfl results250 ntmps250 rfl<|.sr<|.mo rfl<|.az rfl<|.block<|.loop (X:=Nat×List ByteArray×ap) (λy=>(lo<=y.1/\y.1<=g)/\OS 9 1 cO v y.2.1 y.2.2/\RP b (b+g) xs y.2.1/\(jn (λx y=>aS c y x) (xs.drop b) g lo lo->jn (λx y=>aS c y x) (y.2.1.drop b) g lo y.1)) (λy=>[(0,v),(2,iN g),(3,iN b),(8,iN y.1)]) (λy=>[y.2.2]) (λy=>g-y.1) (lo,xs,T) ⟨⟨adI _,a7⟩,h,.refl _,λh=>h⟩ kE.c.c.c.c rH ?_
  rintro⟨r,ys,T1⟩ ⟨⟨a2,a9⟩,m,s,N⟩
  simp only at a2 a9 m s N⊢
  have b7:=s.length
  have b6:(ys.drop b).length=ys.length-b:=adP
  refine .block<|.sr<|.mo rfl<|.ia (2*r) .mul<|.ia (2*r+1) .add<|.ag rfl<|.zs<|.sr<|.mo rfl<|.mo rfl<|.q .geq<|.zn<|.cond rfl (λK=>?_) λK=>?_
  have b4:g<=2*r+1:=by have:=bV K;omega
  refine .exit (br (iJ (bz (bw ?_))))
  refine fg _ .none rH ?_
  ·refine⟨_,rfl,rfl,ys,m,s,λM=>(N M).stop λa B D k u w e Z=>?_⟩
   (simp only[bH]at k;omega)
  have G:2*r+1<g:=by have:=bK K;omega
  obtain⟨J,A⟩:∃y,ys[b+r]? =some y:=⟨_,aQ (by omega)⟩
  obtain⟨n,l⟩:∃y,ys[b+(2*r+1)]? =some y:=⟨_,aQ (by omega)⟩
  have b8:=Y J (s.perm.mem_iff.1 (aX A))
  have H:=Y n (s.perm.mem_iff.1 (aX l))
  refine .kn<|.seq ?_
  refine bq.cut (X:=Nat×ByteArray) (λz=>0<z.1/\z.1<g/\bH z.1=r/\ys[b+z.1]? =some z.2/\ok z.2/\∀a u,0<a->a<g->bH a=r->ys[b+a]? =some u->aS c z.2 u=false) (λz=>[(0,v),(2,iN g),(3,iN b),(8,iN r),(9,iN z.1)]) (λz=>[T1]) ?_ ?_
  refine .seq<|.dd 18 mixed (by kernel_rfl) ?_
  conv=>arg 6;dsimp only[List.take]
  refine .mo rfl<|.ia (2*r+2) .add<|.mo rfl<|.q .lss<|.mo rfl<|.split (t:=21) rfl (λd=>?_) (λd=>?_)
  have U:2*r+2<g:=by have:=bV d;omega
  obtain⟨I,p⟩:∃y,ys[b+(2*r+2)]? =some y:=⟨_,aQ (by omega)⟩
  have a0:=Y I (s.perm.mem_iff.1 (aX p))
  refine .gT d<|.mo rfl<|.gT d<|.mo rfl<|.gT d<|.mo rfl<|.gT d<|.ia (b+(2*r+1)) .add<|.gT d ?_
  refine .aI (b+(2*r+1)) m l (λb9=>?_)
  refine .gT d<|.lo rfl<|.gT d<|.mo rfl<|.gT d<|.mo rfl<|.gT d<|.mo rfl<|.gT d<|.ia (b+(2*r+1)) .add<|.gT d<|.ia (b+(2*r+2)) .add<|.gT d ?_
  refine .aI (b+(2*r+2)) m p (λc0=>?_)
  refine .gT d<|.lo rfl<|.nil<|.gT d<|.bj (jh hf n I _) (λu e=>?_)
  subst e
  refine .q (.bx d)<|.zn<|.cond rfl (λC=>?_) λC=>?_
  have W:∀a u,0<a->a<g->bH a=r->ys[b+a]? =some u->aS c I u=false:=λa u B D k e=>by
    have:a=2*r+1\/a=2*r+2:=by simp only[bH]at k;omega
    rcases this with rfl|rfl
    ·rw[l]at e;cases e;exact F.mi C
    ·rw[p]at e;cases e;exact F.gp _
  refine .region<|.mo rfl<|.ia (2*r+2) .add<|.ag rfl<|.nil ?_
  ·first
      |exact aL (2*r+2,I) ⟨by simp only;omega,U,by simp only[bH];omega,p,a0,W⟩ kE.c.c.c.c.c rH
      |exact aL (2*r+1,n) ⟨by simp only;omega,G,by simp only[bH];omega,l,H,o⟩ kE.c.c.c.c.c rH
      |(have o:∀a u,0<a->a<g->bH a=r->ys[b+a]? =some u->aS c n u=false:=λa u B D k e=>by
           have:a=2*r+1\/a=2*r+2:=by simp only[bH]at k;omega
           rcases this with rfl|rfl
           ·rw[l]at e;cases e;exact F.gp _
           ·rw[p]at e;cases e;exact C
        exact aL (2*r+1,n) ⟨by simp only;omega,G,by simp only[bH];omega,l,H,o⟩ kE.c.c.c.c.c rH)
  refine .skip ?_
  ·first
      |exact aL (2*r+2,I) ⟨by simp only;omega,U,by simp only[bH];omega,p,a0,W⟩ kE.c.c.c.c.c rH
      |exact aL (2*r+1,n) ⟨by simp only;omega,G,by simp only[bH];omega,l,H,o⟩ kE.c.c.c.c.c rH
      |(have o:∀a u,0<a->a<g->bH a=r->ys[b+a]? =some u->aS c n u=false:=λa u B D k e=>by
           have:a=2*r+1\/a=2*r+2:=by simp only[bH]at k;omega
           rcases this with rfl|rfl
           ·rw[l]at e;cases e;exact F.gp _
           ·rw[p]at e;cases e;exact C
        exact aL (2*r+1,n) ⟨by simp only;omega,G,by simp only[bH];omega,l,H,o⟩ kE.c.c.c.c.c rH)
  have o:∀a u,0<a->a<g->bH a=r->ys[b+a]? =some u->aS c n u=false:=λa u B D k e=>by
    have:a=2*r+1:=by have:=bK d;simp only[bH]at k;omega
    subst this
    rw[l]at e;cases e;exact F.gp _
  refine .gF d<|.gF d<|.gF d<|.gF d<|.gF d<|.gF d<|.gF d<|.gF d<|.gF d<|.gF d<|.gF d<|.gF d<|.gF d<|.nil<|.gF d<|.q (.bs d)<|.zn<|.di<|.skip ?_
  ·first
      |exact aL (2*r+2,I) ⟨by simp only;omega,U,by simp only[bH];omega,p,a0,W⟩ kE.c.c.c.c.c rH
      |exact aL (2*r+1,n) ⟨by simp only;omega,G,by simp only[bH];omega,l,H,o⟩ kE.c.c.c.c.c rH
      |(have o:∀a u,0<a->a<g->bH a=r->ys[b+a]? =some u->aS c n u=false:=λa u B D k e=>by
           have:a=2*r+1\/a=2*r+2:=by simp only[bH]at k;omega
           rcases this with rfl|rfl
           ·rw[l]at e;cases e;exact F.gp _
           ·rw[p]at e;cases e;exact C
        exact aL (2*r+1,n) ⟨by simp only;omega,G,by simp only[bH];omega,l,H,o⟩ kE.c.c.c.c.c rH)
  intro y hy
  obtain⟨j,x⟩:=y
  obtain⟨Q,a1,S,E,b2,V⟩:=hy
  simp only at Q a1 S E b2 V⊢
  have b5:r<j:=S▸eX Q
  refine aB<|.seq<|.seq<|.dd 12 mixed (by kernel_rfl) ?_
  conv=>arg 6;dsimp only[List.take]
  refine .mo rfl<|.mo rfl<|.mo rfl<|.ia (b+r) .add ?_
  refine .aI (b+r) m A (λc1=>?_)
  refine .lo rfl<|.mo rfl<|.mo rfl<|.mo rfl<|.ia (b+j) .add ?_
  refine .aI (b+j) m E (λc2=>?_)
  refine .lo rfl<|.nil<|.bj (jh hf J x _) (λu e=>?_)
  subst e
  refine .q .not<|.zn<|.cond rfl (λL=>?_) λL=>?_
  refine .ret (ba (bF (dm (bF (bm _ .none rH ?_)))))
  ·refine⟨_,rfl,rfl,ys,m,s,λM=>(N M).stop λa B D k u w e Z=>?_⟩
   (rw[ig]at e Z
    rw[A]at e;cases e
    have O:(!aS c J x)=true:=L
    exact a4.jx _ _ _ (V a w B D k Z) (by simpa using O))
  refine .kn<|.seq<|.cG [21,23] mixed<|.tO 0 rfl .move<|.tO 1 rfl .move<|.tO 2 rfl .move<|.eQ 3 rfl (.i64 ((b+r:Nat):Int) .add ⟨by omega,by omega,by omega⟩) (by kernel_rfl)<|.tK 4 rfl .move<|.tK 5 rfl .move<|.tK 6 rfl .move<|.take 7 rfl (.i64 ((b+j:Nat):Int) .add ⟨by omega,by omega,by omega⟩) (by kernel_rfl)<|.tO 8 rfl .move<|.tO 9 rfl .move<|.tO 10 rfl .move<|.eQ 11 rfl (.i64 ((b+j:Nat):Int) .add ⟨by omega,by omega,by omega⟩) (by kernel_rfl) ?_
  refine RA.aI 12 rfl (b+j) m E rfl rfl rfl (by kernel_rfl) (λc3=>?_)
  refine .tO 13 rfl (.bU rfl)<|.tO 14 rfl .move<|.tO 15 rfl .move<|.tO 16 rfl .move<|.eQ 17 rfl (.i64 ((b+r:Nat):Int) .add ⟨by omega,by omega,by omega⟩) (by kernel_rfl) ?_
  refine RA.aI 18 rfl (b+r) m A rfl rfl rfl (by kernel_rfl) (λc4=>?_)
  refine .tO 19 rfl (.bU rfl) ?_
  refine RA.aI 20 rfl (b+r) m A rfl rfl rfl (by kernel_rfl) (λc5=>?_)
  refine .sT 21 rfl ?_
  refine .cY (b+r) m A x (λb3 b0=>?_)
  refine .nil (Next.mod rfl ?_)
  refine RA.aI 22 rfl (b+j) m E rfl rfl rfl (by kernel_rfl) (λc6=>?_)
  refine .sT 23 rfl ?_
  obtain⟨zz,b1⟩:∃u,(ys.set (b+r) x)[b+j]? =some u:=⟨_,aQ (by rw[adJ];exact(adK.1 E).1)⟩
  refine .cY (b+j) b0 b1 J (λa5 a3=>?_)
  rw[<-ej A E]at a3
  refine .nil<|Next.mod rfl<|RA.nil (by kernel_rfl)<|aB<|.region<|.mo rfl<|.ag rfl<|.nil<|bg ?_
  ·have a8:aS c J x=true:=by
      have O:(!aS c J x)=false:=L
      simpa using O
   have a6:=qH (xs:=ys) (f:=b) (i:=r) (j:=j) (by omega) (by omega)
   exact bu (j,cy ys (b+r) (b+j),a5) ⟨⟨by simp only;omega,by simp only;omega⟩,a3,s.step (by omega) (by omega) (by omega) (by omega) (by omega),λM=>by
     simp only
     rw[a6]
     exact(N M).step a4 a2 Q a1 (by omega) S (by rw[ig];exact E) (by rw[ig];exact A) a8 λa z K C L h4=>V a z K C L (by rw[<-ig];exact h4)⟩ (by simp only;omega) kE.c.c.c.c rH
end
end SST
namespace SST
section
variable{c:ByteArray->ByteArray->Int}{ok:ByteArray->Prop}
theorem tc(v:Value)(xs:List ByteArray)(T:ap)(a b:Nat)(R:aw)(h:OS 9 1 cO v xs T)(a7:a<=b)(hb:b<=xs.length)(hl:xs.length<=1000000000)(L:gO c ok R)(M:∀x∈xs,ok x)(F:SO (aS c)):
  Spec prog 211 [v,.int .i64 a,.int .i64 b] R [T] λu H'=>∃T',H'=[T']/\u=.tuple #[]/\∃ys,OS 9 1 cO v ys T'/\RP a b xs ys/\SR (aS c) ys a b:=by
 have a5:=F.rev
 obtain⟨n,hn⟩:∃n,b=a+n:=⟨b-a,by omega⟩
 subst hn
 refine Spec.body func211 rfl results211 ntmps211 rfl<|.sr<|.mo rfl<|.ag rfl<|.z<|.ag rfl<|.z<|.mo rfl<|.mo rfl<|.ia (n) .sub<|.ag rfl<|.zs<|.sr<|.mo rfl<|.q (.i64 ((n:Int)-1) .sub ⟨rfl,by omega,by omega⟩)<|.q (.i64 (((n-1)/2:Nat):Int) .quo ⟨uE,by omega,by omega⟩)<|.az rfl<|.block<|.loop (X:=Nat×Int×List ByteArray×ap) (λy=>(y.2.1=(y.1:Int)-1/\y.1<=n+1)/\OS 9 1 cO v y.2.2.1 y.2.2.2/\RP a (a+n) xs y.2.2.1/\iF (λx y=>aS c y x) (y.2.2.1.drop a) n y.1) (λy=>[(0,v),(6,iN a),(7,.int .i64 ((0:Nat):Int)),(8,iN n),(9,.int .i64 y.2.1)]) (λy=>[y.2.2.2]) (λy=>y.1) ((n-1)/2+1,(((n-1)/2:Nat):Int),xs,T) ⟨⟨by simp only;omega,by simp only;omega⟩,h,.refl _,λk U hk hp=>by simp only[bH]at hp;omega⟩ kE.c.c.c.c.c rH ?_
 rintro⟨m,z,ys,G⟩ ⟨⟨hz,hm⟩,B,r,A⟩
 simp only at hz hm B r A⊢
 have a8:=r.length
 refine .seq<|.sr<|.mo rfl<|.q .geq<|.zn<|.cond rfl (λo=>?_) λo=>?_
 have a2:0<=z:=bV o
 obtain⟨k,rfl⟩:∃k,m=k+1:=⟨m-1,by omega⟩
 obtain rfl:z=(k:Int):=by omega
 refine .kn<|.seq<|.block<|.region<|.mo rfl<|.mo rfl<|.mo rfl<|.mo rfl<|.bQ (p3 (c:=c) (ok:=ok) v ys G k n a _ B (by omega) (by omega) (by omega) L (λx d=>M x (r.perm.mem_iff.1 d)) F) (λu H E=>?_)
 obtain⟨rfl,g,e,l,p⟩:=E
 refine .nil<|bg<|aB<|.region<|.mo rfl<|.q (.i64 ((k:Int)-1) .sub ⟨rfl,by omega,by omega⟩)<|.ag rfl<|.nil ?_
 ·exact bu (k,(k:Int)-1,g,H) ⟨⟨rfl,by simp only;omega⟩,e,r.trans l,p A.hole⟩ (by simp only;omega) kE.c.c.c.c.c rH
 have D:m=0:=by have:=bK o;omega
 subst D
 refine .exit<|br<|bz<|bw<|aB<|.sr<|.mo rfl<|.q (.i64 ((n:Int)-1) .sub ⟨rfl,by omega,by omega⟩)<|.az rfl<|.block<|.loop (X:=Nat×Int×List ByteArray×ap) (λy=>(y.2.1=(y.1:Int)-1/\y.1<=n)/\OS 9 1 cO v y.2.2.1 y.2.2.2/\RP a (a+n) xs y.2.2.1/\iF (λx y=>aS c y x) (y.2.2.1.drop a) y.1 0/\OX (aS c) y.2.2.1 a (a+n) a (a+y.1)) (λy=>[(0,v),(6,iN a),(7,.int .i64 ((0:Nat):Int)),(8,iN n),(10,.int .i64 y.2.1)]) (λy=>[y.2.2.2]) (λy=>y.1) (n,(n:Int)-1,ys,G) ⟨⟨rfl,adI _⟩,B,r,A,OX.start⟩ kE.c.c.c.c.c rH ?_
 rintro⟨m,O,g,H⟩ ⟨⟨a3,a0⟩,e,l,p,C⟩
 simp only at a3 a0 e l p C⊢
 have a9:=l.length
 refine .seq<|.sr<|.mo rfl<|.q .geq<|.zn<|.cond rfl (λs=>?_) λs=>?_
 have a2:0<=O:=bV s
 obtain⟨k,rfl⟩:∃k,m=k+1:=⟨m-1,by omega⟩
 obtain rfl:O=(k:Int):=by omega
 obtain⟨x,d⟩:∃x,g[a]? =some x:=⟨_,aQ (by omega)⟩
 obtain⟨y,t⟩:∃x,g[a+k]? =some x:=⟨_,aQ (by omega)⟩
 refine .kn<|.seq<|.block<|.seq<|.cG [17,19] mixed<|.tO 0 rfl .move<|.tO 1 rfl .move<|.tK 2 rfl .move<|.tK 3 rfl .move<|.tK 4 rfl .move<|.take 5 rfl (.i64 ((a+k:Nat):Int) .add ⟨by omega,by omega,by omega⟩) (by kernel_rfl)<|.tO 6 rfl .move<|.tO 7 rfl .move<|.tO 8 rfl .move<|.eQ 9 rfl (.i64 ((a+k:Nat):Int) .add ⟨by omega,by omega,by omega⟩) (by kernel_rfl) ?_
 refine RA.aI 10 rfl (a+k) e t rfl rfl rfl (by kernel_rfl) (λb0=>?_)
 refine .tO 11 rfl (.bU rfl)<|.tO 12 rfl .move<|.tO 13 rfl .move ?_
 refine RA.aI 14 rfl (a) e d rfl rfl rfl (by kernel_rfl) (λb1=>?_)
 refine .tO 15 rfl (.bU rfl) ?_
 refine RA.aI 16 rfl (a) e d rfl rfl rfl (by kernel_rfl) (λb2=>?_)
 refine .sT 17 rfl ?_
 refine .cY (a) e d y (λa6 a1=>?_)
 refine .nil (Next.mod rfl ?_)
 refine RA.aI 18 rfl (a+k) e t rfl rfl rfl (by kernel_rfl) (λb3=>?_)
 refine .sT 19 rfl ?_
 obtain⟨zz,a4⟩:∃u,(g.set (a) y)[a+k]? =some u:=⟨_,aQ (by rw[adJ];exact(adK.1 t).1)⟩
 refine .cY (a+k) a1 a4 x (λS N=>?_)
 rw[<-ej d t]at N
 refine .nil<|Next.mod rfl<|RA.nil (by kernel_rfl)<|aB<|.region<|.mo rfl<|.mo rfl<|.mo rfl<|.mo rfl ?_
 have K:=qH (xs:=g) (f:=a) (i:=0) (j:=k) (by omega) (by omega)
 have I:=l.step (i:=a) (j:=a+k) (by omega) (by omega) (by omega) (by omega) (by omega)
 have Z:=OX.last (m:=a+k) (x:=x) C (by omega) (by omega) (by omega) d (λj w o V hw=>iF.top a5 p (by rw[adP];omega) (x:=x) (by rw[ig];exact d) (j-a) w (by omega) (by rw[ig,show a+(j-a)=j by omega];exact hw))
 refine .bQ (p3 (c:=c) (ok:=ok) v (cy g a (a+k)) S 0 k a _ N (by omega) (by rw[li];omega) (by rw[li];omega) L (λx d=>M x (I.perm.mem_iff.1 d)) F) (λu Q E=>?_)
 obtain⟨rfl,ws,Y,J,W⟩:=E
 refine .nil<|bg<|aB<|.region<|.mo rfl<|.q (.i64 ((k:Int)-1) .sub ⟨rfl,by omega,by omega⟩)<|.ag rfl<|.nil ?_
 ·exact bu (k,(k:Int)-1,ws,Q) ⟨⟨rfl,by simp only;omega⟩,Y,I.trans (J.mono (adI a) (by omega) (by rw[li];omega)),W (p.xz λj U hj=>by
   rw[Nat.add_zero]at K
   rw[K,fq (by rw[adP];omega) (by rw[adP];omega),adM (by omega),adM (by omega)]),Z.rp J (adI _) (by omega)⟩ (by simp only;omega) kE.c.c.c.c.c rH
 refine .exit<|br<|bz<|bw<|fg _ .none rH ?_
 ·have D:m=0:=by have:=bK s;omega
  subst D
  exact⟨_,rfl,rfl,g,e,l,C.mN λi j o s V=>by omega⟩
theorem ud(v:Value)(xs:List ByteArray)(T:ap)(a b:Nat)(R:aw)(h:OS 9 1 cO v xs T)(A:a<b)(B:b<=xs.length)(C:xs.length<=1000000000):
  Spec prog 214 [v,.int .i64 a,.int .i64 b] R [T] λu H'=>∃T',H'=[T']/\u=.tuple #[]/\∃ys,OS 9 1 cO v ys T'/\RP a b xs ys:=by
 refine Spec.body func214 rfl results214 ntmps214 rfl<|.sr<|.mo rfl<|.ag rfl<|.z<|.mo rfl<|.ia (b-1) .sub<|.az rfl<|.block<|.loop (X:=Nat×Nat×List ByteArray×ap) (λy=>(a<=y.1/\y.1<=y.2.1+1/\y.2.1<b)/\OS 9 1 cO v y.2.2.1 y.2.2.2/\RP a b xs y.2.2.1) (λy=>[(0,v),(6,iN y.1),(7,iN y.2.1)]) (λy=>[y.2.2.2]) (λy=>b-y.1) (a,b-1,xs,T) ⟨⟨adI _,by simp only;omega,by simp only;omega⟩,h,.refl _⟩ kE.c.c.c rH ?_
 rintro⟨i,j,ys,t⟩ ⟨⟨n,o,p⟩,d,e⟩
 simp only at n o p d e⊢
 have D:=e.length
 refine .seq<|.sr<|.mo rfl<|.mo rfl<|.q .lss<|.zn<|.cond rfl (λk=>?_) λk=>?_
 have E:i<j:=cV k
 obtain⟨x,f⟩:∃x,ys[i]? =some x:=⟨_,aQ (by omega)⟩
 obtain⟨y,g⟩:∃x,ys[j]? =some x:=⟨_,aQ (by omega)⟩
 refine .kn<|.block<|.seq<|.cG [13,15] mixed<|.tO 0 rfl .move<|.tO 1 rfl .move<|.tK 2 rfl .move<|.tK 3 rfl .move<|.tO 4 rfl .move<|.tO 5 rfl .move ?_
 refine RA.aI 6 rfl (j) d g rfl rfl rfl (by kernel_rfl) (λF=>?_)
 refine .tO 7 rfl (.bU rfl)<|.tO 8 rfl .move<|.tO 9 rfl .move ?_
 refine RA.aI 10 rfl (i) d f rfl rfl rfl (by kernel_rfl) (λG=>?_)
 refine .tO 11 rfl (.bU rfl) ?_
 refine RA.aI 12 rfl (i) d f rfl rfl rfl (by kernel_rfl) (λH=>?_)
 refine .sT 13 rfl ?_
 refine .cY (i) d f y (λw r=>?_)
 refine .nil (Next.mod rfl ?_)
 refine RA.aI 14 rfl (j) d g rfl rfl rfl (by kernel_rfl) (λI=>?_)
 refine .sT 15 rfl ?_
 obtain⟨J,s⟩:∃u,(ys.set (i) y)[j]? =some u:=⟨_,aQ (by rw[adJ];exact(adK.1 g).1)⟩
 refine .cY (j) r s x (λm l=>?_)
 rw[<-ej f g]at l
 refine .nil<|Next.mod rfl<|RA.nil (by kernel_rfl)<|aB<|.sr<|.mo rfl<|.ia (i+1) .add<|.az rfl<|.region<|.mo rfl<|.ia (j-1) .sub<|.ag rfl<|.nil<|bg ?_
 ·exact bu (i+1,j-1,cy ys i j,m) ⟨⟨by simp only;omega,by simp only;omega,by simp only;omega⟩,l,e.step (by omega) (by omega) (by omega) (by omega) (by omega)⟩ (by simp only;omega) kE.c.c.c rH
 refine .exit<|br<|bz<|bw<|fg _ .none rH ?_
 ·exact⟨_,rfl,rfl,ys,d,e⟩
theorem sD(v:Value)(xs:List ByteArray)(T:ap)(a b:Nat)(R:aw)(h:OS 9 1 cO v xs T)(Q:a<=b)(S:b<=xs.length)(V:xs.length<=1000000000):
  Spec prog 212 [v,.int .i64 a,.int .i64 b] R [T] λu H'=>∃T',H'=[T']/\u=.tuple #[]/\∃ys,OS 9 1 cO v ys T'/\RP a b xs ys:=by
 have iv:=h.aC
 obtain⟨n,I⟩:∃n,b=a+n:=⟨b-a,by omega⟩
 subst I
 refine Spec.body func212 rfl results212 ntmps212 rfl<|.sr<|.mo rfl<|.mo rfl<|.ia (n) .sub<|.ag rfl<|.z<|.mo rfl<|.q .geq<|.zn<|.cond rfl (λs=>?_) λs=>?_
 have a0:8<=n:=by have:=bV s;omega
 obtain⟨q,C⟩:∃q,q=n/4:=⟨_,rfl⟩
 refine .sr<|.mo rfl<|.q .m4 ?_
 refine .nZ (λe=>?_)
 refine .du rfl rfl<|.z<|.mo rfl<|.bj (yq n (by omega) (by omega) _) (λu r=>?_)
 obtain⟨f,rfl,Y,Z⟩:=r
 refine .ag rfl<|.z<|.mo rfl<|.mo rfl<|.q (.i64 ((q:Nat):Int) .quo ⟨by rw[C,adN (by omega)];omega,by omega,by omega⟩)<|.ia (q*2) .mul<|.ia (a+q*2) .add<|.ia (a+q*2-1) .sub<|.az rfl<|.block<|.loop (X:=Nat×Int×List ByteArray×ap) (λy=>(a+q*2-1<=y.1/\y.1<=a+q*2+2)/\OS 9 1 cO v y.2.2.1 y.2.2.2/\RP a (a+n) xs y.2.2.1) (λy=>[(0,v),(1,iN a),(6,iN n),(7,pT e),(8,.int .u64 (f:Nat)),(9,iN y.1)]) (λy=>[bl e [.int .u64 y.2.1] 385,y.2.2.2]) (λy=>a+q*2+2-y.1) (a+q*2-1,_,xs,T) ⟨⟨adI _,by simp only;omega⟩,h,.refl _⟩ kE.c.c.c.c.c.c rH ?_
 rintro⟨i,z,ys,E⟩ ⟨⟨G,H⟩,d,g⟩
 simp only at G H d g⊢
 have W:=g.length
 refine .seq<|.sr<|.mo rfl<|.mo rfl<|.mo rfl<|.q (.i64 ((q:Nat):Int) .quo ⟨by rw[C,adN (by omega)];omega,by omega,by omega⟩)<|.ia (q*2) .mul<|.ia (a+q*2) .add<|.ia (a+q*2+1) .add<|.q .leq<|.zn<|.cond rfl (λt=>?_) λt=>?_
 have U:i<=a+q*2+1:=by have:=bV t;omega
 refine .kn<|.seq<|.block<|.sr<|.bQ (zh e z _) (λu N r=>?_)
 obtain⟨l,rfl,rfl⟩:=r
 refine .mo rfl<|.q (bd.cast (v':=.int .u64 ((f-1:Nat):Int)) .sub (by rw[nS (by omega) (by omega)];congr 1;omega)) ?_
 have A:=vA (z:=l) (q:=((f-1:Nat):Int)) (by omega) (by omega)
 obtain⟨o,B⟩:∃o:Nat,IntKind.u64.wrap (BitVec.ofInt IntKind.u64.bits l&&&BitVec.ofInt IntKind.u64.bits ((f-1:Nat):Int)).toNat=(o:Int):=⟨_,(Int.toNat_of_nonneg A.1).symm⟩
 refine .q (bd.cast (v':=.int .u64 ((o:Nat):Int)) .vz (by rw[B])) ?_
 rw[B]at A
 refine .q (bd.cast (v':=.int .i64 ((o:Nat):Int)) .m4 (by rw[Ar (by omega) (by omega)]))<|.ag rfl<|.zs ?_
 refine bq.cut (X:=Nat) (λp=>p<n) (λp=>[(0,v),(1,iN a),(6,iN n),(7,pT e),(8,.int .u64 (f:Nat)),(9,iN i),(10,iN p)]) (λ_=>[bl e [.int .u64 l] 385,E]) ?_ ?_
 refine .sr<|.mo rfl<|.mo rfl<|.q .geq<|.zn<|.cond rfl (λm=>?_) λm=>?_
 have J:n<=o:=by have:=bV m;omega
 refine .region<|.mo rfl<|.mo rfl<|.ia (o-n) .sub<|.ag rfl<|.nil ?_
 ·exact aL (o-n) (by omega) kE.c.c.c.c.c.c.c rH
 have J:o<n:=by have:=bK m;omega
 refine .skip ?_
 ·exact aL o (by omega) kE.c.c.c.c.c.c.c rH
 intro y L
 have a1:y<n:=L
 obtain⟨p,rfl⟩:∃p,p=y:=⟨_,rfl⟩
 obtain⟨x,k⟩:∃x,ys[i]? =some x:=⟨_,aQ (by omega)⟩
 obtain⟨w,j⟩:∃x,ys[a+p]? =some x:=⟨_,aQ (by omega)⟩
 refine aB<|.cG [17,19] mixed<|.tO 0 rfl .move<|.tO 1 rfl .move<|.tK 2 rfl .move<|.tK 3 rfl .move<|.tK 4 rfl .move<|.take 5 rfl (.i64 ((a+p:Nat):Int) .add ⟨by omega,by omega,by omega⟩) (by kernel_rfl)<|.tO 6 rfl .move<|.tO 7 rfl .move<|.tO 8 rfl .move<|.eQ 9 rfl (.i64 ((a+p:Nat):Int) .add ⟨by omega,by omega,by omega⟩) (by kernel_rfl) ?_
 refine RA.aI 10 rfl (a+p) d j rfl rfl rfl (by kernel_rfl) (λa2=>?_)
 refine .tO 11 rfl (.bU rfl)<|.tO 12 rfl .move<|.tO 13 rfl .move ?_
 refine RA.aI 14 rfl (i) d k rfl rfl rfl (by kernel_rfl) (λa3=>?_)
 refine .tO 15 rfl (.bU rfl) ?_
 refine RA.aI 16 rfl (i) d k rfl rfl rfl (by kernel_rfl) (λa4=>?_)
 refine .sT 17 rfl ?_
 refine .cY (i) d k w (λO K=>?_)
 refine .nil (Next.mod rfl ?_)
 refine RA.aI 18 rfl (a+p) d j rfl rfl rfl (by kernel_rfl) (λa5=>?_)
 refine .sT 19 rfl ?_
 obtain⟨zz,M⟩:∃u,(ys.set (i) w)[a+p]? =some u:=⟨_,aQ (by rw[adJ];exact(adK.1 j).1)⟩
 refine .cY (a+p) K M x (λF D=>?_)
 rw[<-ej k j]at D
 refine .nil<|Next.mod rfl<|RA.nil (by kernel_rfl)<|bg<|aB<|.region<|.mo rfl<|.ia (i+1) .add<|.ag rfl<|.nil ?_
 ·exact bu (i+1,l,cy ys i (a+p),F) ⟨⟨by simp only;omega,by simp only;omega⟩,D,g.step (by omega) (by omega) (by omega) (by omega) (by omega)⟩ (by simp only;omega) kE.c.c.c.c.c.c rH
 refine .exit<|br<|bz<|bw<|fg _ .none (aT [1]) ?_
 ·exact⟨_,rfl,rfl,ys,d,g⟩
 refine .skip<|fg _ .none rH ?_
 ·exact⟨_,rfl,rfl,xs,h,.refl _⟩
end
end SST
namespace SST
section
variable{c:ByteArray->ByteArray->Int}{ok:ByteArray->Prop}
theorem tN(v:Value)(xs:List ByteArray)(T:ap)(a b:Nat)(R:aw)(h:OS 9 1 cO v xs T)(b1:a<b)(hb:b<=xs.length)(hl:xs.length<=1000000000)(hf:gO c ok R)(c6:∀x∈xs,ok x)(Z:SO (aS c))(c0:LB (aS c) xs a b):
  Spec prog 215 [v,.int .i64 a,.int .i64 b] R [T] λu H'=>∃T',H'=[T']/\∃ys m,u=.bool m/\OS 9 1 cO v ys T'/\RP a b xs ys/\(m=true->SR (aS c) ys a b):=by
 refine Spec.body func215 rfl results215 ntmps215 rfl ?_
 refine .sr<|.ag rfl<|.z<|.mo rfl ?_
 refine .ia (a+1) .add ?_
 refine .ag rfl<|.zs<|.sr<|.az rfl<|.block ?_
 refine .loop (X:=Nat×Nat×List ByteArray×ap) (λy=>(y.1<=5/\a+1<=y.2.1/\y.2.1<=b)/\OS 9 1 cO v y.2.2.1 y.2.2.2/\RP a b xs y.2.2.1/\SR (aS c) y.2.2.1 a y.2.1) (λy=>[(0,v),(1,iN a),(2,iN b),(7,iN y.2.1),(8,iN y.1)]) (λy=>[y.2.2.2]) (λy=>5-y.1) (0,a+1,xs,T) ⟨⟨by omega,adI _,b1⟩,h,.refl _,λi j U V J=>by simp only at J;omega⟩ kE.c.c.c.c.c rH ?_
 rintro⟨n,i,ys,T1⟩ ⟨⟨hn,F,G⟩,o,K,l⟩
 simp only at hn F G o K l⊢
 have c2:=K.length
 refine .seq<|.sr<|.mo rfl<|.q .lss<|.zn ?_
 refine .cond rfl (λU=>?_) λU=>?_
 have c5:n<5:=cV U
 refine .kn<|.seq<|.block<|.seq ?_
 refine bq.cut (X:=Nat) (λi=>(a+1<=i/\i<=b)/\SR (aS c) ys a i) (λi=>[(0,v),(1,iN a),(2,iN b),(7,iN i),(8,iN n)]) (λ_=>[T1]) ?_ ?_
 refine .block ?_
 refine .loop (X:=Nat) (λi=>(a+1<=i/\i<=b)/\SR (aS c) ys a i) (λi=>[(0,v),(1,iN a),(2,iN b),(7,iN i),(8,iN n)]) (λ_=>[T1]) (λi=>b-i) i ⟨⟨F,G⟩,l⟩ kE.c.c.c.c.c rH ?_
 clear F G l
 rintro i ⟨⟨F,G⟩,l⟩
 refine .seq<|.seq ?_
 refine .dd 13 mixed (by kernel_rfl) ?_
 conv=>arg 6;dsimp only[List.take]
 refine .mo rfl<|.mo rfl<|.q .lss<|.mo rfl ?_
 refine .split (t:=20) rfl (λe=>?_) (λe=>?_)
 have b9:i<b:=by have:=bV e;omega
 obtain⟨x,E⟩:∃x,ys[i]? =some x:=⟨_,aQ (by omega)⟩
 obtain⟨y,A⟩:∃x,ys[i-1]? =some x:=⟨_,aQ (by omega)⟩
 refine .gT e<|.mo rfl<|.gT e<|.mo rfl<|.gT e ?_
 refine .aI i o E (λd5=>?_)
 refine .gT e<|.lo rfl<|.gT e<|.mo rfl<|.gT e<|.mo rfl<|.gT e ?_
 refine .ia (i-1) .sub ?_
 refine .gT e ?_
 refine .aI (i-1) o A (λd6=>?_)
 refine .gT e<|.lo rfl<|.nil<|.gT e ?_
 refine .bj (jh hf x y _) (λu r=>?_)
 subst r
 refine .gT e<|.q .not<|.q (.bx e) ?_
 refine .zn ?_
 refine .cond rfl (λV=>?_) λV=>?_
 refine .kn<|.block<|.region<|.mo rfl ?_
 refine .ia (i+1) .add ?_
 refine .ag rfl<|.nil<|bg ?_
 ·have c1:aS c x y=false:=by
   have b4:(!aS c x y)=true:=V
   simpa using b4
  exact bu (i+1) ⟨⟨by omega,by omega⟩,l.snoc Z (by omega) (by omega) λu w r Q=>by
   rw[A]at r;rw[E]at Q;cases r;cases Q;exact c1⟩ (by omega) kE.c.c.c.c.c rH
 refine .exit<|br<|bz<|bw ?_
 exact aL i ⟨⟨F,G⟩,l⟩ kE.c.c.c.c.c rH
 refine .gF e<|.gF e<|.gF e<|.gF e<|.gF e<|.gF e<|.gF e<|.gF e<|.gF e<|.nil<|.gF e<|.gF e<|.q (.bs e) ?_
 refine .zn<|.di<|.exit<|br<|bz<|bw ?_
 exact aL i ⟨⟨F,G⟩,l⟩ kE.c.c.c.c.c rH
 intro x E
 obtain⟨d,b2⟩:∃d,d=x:=⟨_,rfl⟩
 rw[<-b2]at E⊢
 clear b2 x F G l
 obtain⟨⟨F,G⟩,l⟩:=E
 refine aB<|.seq<|.sr<|.mo rfl<|.mo rfl<|.q .cr<|.zn ?_
 refine .cond rfl (λJ=>?_) λJ=>?_
 refine .sr<|.az rfl ?_
 refine .ret (ba (bF (ba (dm (bF (ba (bm _ (.one (.tmp rfl)) rH ?_)))))))
 ·have b8:d=b:=by
   have b5:((d:Int)=b):=by simpa using J
   omega
  exact⟨_,rfl,ys,true,rfl,o,K,λ_=>b8▸l⟩
 have b9:d<b:=by
  have b5:¬((d:Int)=b):=by simpa using J
  omega
 obtain⟨x,E⟩:∃x,ys[d]? =some x:=⟨_,aQ (by omega)⟩
 obtain⟨y,A⟩:∃x,ys[d-1]? =some x:=⟨_,aQ (by omega)⟩
 refine .kn<|.seq<|.sr<|.mo rfl<|.mo rfl ?_
 refine .ia (b-a) .sub ?_
 refine .q .lss<|.zn ?_
 refine .cond rfl (λh4=>?_) λh4=>?_
 refine .sr<|.az rfl ?_
 refine .ret (ba (bF (ba (dm (bF (ba (bm _ (.one (.tmp rfl)) rH ?_)))))))
 ·exact⟨_,rfl,ys,false,rfl,o,K,λh=>by cases h⟩
 refine .kn<|.seq<|.cG [15,17] mixed ?_
 refine .tO 0 rfl .move<|.tO 1 rfl .move<|.tK 2 rfl .move<|.tK 3 rfl .move ?_
 refine .take 4 rfl (.i64 ((d-1:Nat):Int) .sub ⟨by omega,by omega,by omega⟩) (by kernel_rfl) ?_
 refine .tO 5 rfl .move<|.tO 6 rfl .move ?_
 refine .eQ 7 rfl (.i64 ((d-1:Nat):Int) .sub ⟨by omega,by omega,by omega⟩) (by kernel_rfl) ?_
 refine RA.aI 8 rfl (d-1) o A rfl rfl rfl (by kernel_rfl) (λd7=>?_)
 refine .tO 9 rfl (.bU rfl)<|.tO 10 rfl .move<|.tO 11 rfl .move ?_
 refine RA.aI 12 rfl (d) o E rfl rfl rfl (by kernel_rfl) (λd8=>?_)
 refine .tO 13 rfl (.bU rfl) ?_
 refine RA.aI 14 rfl (d) o E rfl rfl rfl (by kernel_rfl) (λd9=>?_)
 refine .sT 15 rfl ?_
 refine .cY (d) o E y (λa6 O=>?_)
 refine .nil (Next.mod rfl ?_)
 refine RA.aI 16 rfl (d-1) o A rfl rfl rfl (by kernel_rfl) (λe0=>?_)
 refine .sT 17 rfl ?_
 obtain⟨zz,S⟩:∃u,(ys.set (d) y)[d-1]? =some u:=⟨_,aQ (by rw[adJ];exact(adK.1 A).1)⟩
 refine .cY (d-1) O S x (λI H=>?_)
 rw[<-ej E A]at H
 refine .nil (Next.mod rfl ?_)
 refine RA.nil (by kernel_rfl) ?_
 have a8:=K.step (i:=d) (j:=d-1) (by omega) (by omega) (by omega) (by omega) (by omega)
 have b6:=l.z9 (by omega)
 clear l
 refine aB<|.seq ?_
 refine bq.cut (X:=List ByteArray×ap) (λz=>OS 9 1 cO v z.1 z.2/\RP a b xs z.1/\SR (aS c) z.1 a d) (λ_=>[(0,v),(1,iN a),(2,iN b),(7,iN d),(8,iN n)]) (λz=>[z.2]) ?_ ?_
 refine .sr<|.mo rfl<|.mo rfl ?_
 refine .ia (d-a) .sub ?_
 refine .q .geq<|.zn ?_
 refine .cond rfl (λh5=>?_) λh5=>?_
 refine .sr<|.mo rfl ?_
 refine .ia (d-1) .sub ?_
 refine .az rfl<|.block ?_
 refine .loop (X:=Nat×List ByteArray×ap) (λz=>(a<=z.1/\z.1<=d-1)/\OS 9 1 cO v z.2.1 z.2.2/\RP a b xs z.2.1/\ke (aS c) z.2.1 a z.1 d) (λz=>[(0,v),(1,iN a),(2,iN b),(7,iN d),(8,iN n),(9,iN z.1)]) (λz=>[z.2.2]) (λz=>z.1) (d-1,cy ys d (d-1),I) ⟨⟨by simp only;omega,adI _⟩,H,a8,b6⟩ kE.c.c.c.c.c.c rH ?_
 rintro⟨q,B,M⟩ ⟨⟨a4,a5⟩,f,D,W⟩
 simp only at a4 a5 f D W⊢
 have c3:=D.length
 refine .seq<|.sr<|.mo rfl<|.q .geq<|.zn ?_
 refine .cond rfl (λh6=>?_) λh6=>?_
 have c7:1<=q:=by have:=bV h6;omega
 obtain⟨s,g⟩:∃x,B[q]? =some x:=⟨_,aQ (by omega)⟩
 obtain⟨t,k⟩:∃x,B[q-1]? =some x:=⟨_,aQ (by omega)⟩
 refine .kn<|.seq<|.block<|.seq<|.seq ?_
 refine .dd 9 mixed (by kernel_rfl) ?_
 conv=>arg 6;dsimp only[List.take]
 refine .mo rfl<|.mo rfl ?_
 refine .aI q f g (λe1=>?_)
 refine .lo rfl<|.mo rfl<|.mo rfl ?_
 refine .ia (q-1) .sub ?_
 refine .aI (q-1) f k (λe2=>?_)
 refine .lo rfl<|.nil ?_
 refine .bj (jh hf s t _) (λu r=>?_)
 subst r
 refine .q .not<|.zn ?_
 refine .cond rfl (λh7=>?_) λh7=>?_
 have a2:SR (aS c) B a d:=W.done Z (by omega) (by omega) (by
  have a0:(!aS c s t)=true:=h7
  rcases adS a q with hh|hh
  ·exact .inr ⟨hh,λu w r Q=>by rw[k]at r;rw[g]at Q;cases r;cases Q;simpa using a0⟩
  ·exact .inl (by omega))
 refine .exit (br (iJ (br (bz (bw ?_)))))
 ·exact aL (B,M) ⟨f,D,a2⟩ kE.c.c.c.c.c rH
 have a3:aS c s t=true:=by
  have a0:(!aS c s t)=false:=h7
  simpa using a0
 have b7:a<q:=by
  rcases adS a q with hh|hh
  ·exact hh
  ·have ea:q=a:=by omega
   subst ea
   have:=(c0.rp D) (by omega) q (adI _) b1 t s k g
   rw[this]at a3;cases a3
 refine .kn<|.cG [15,17] mixed ?_
 refine .tO 0 rfl .move<|.tO 1 rfl .move<|.tK 2 rfl .move<|.tK 3 rfl .move ?_
 refine .take 4 rfl (.i64 ((q-1:Nat):Int) .sub ⟨by omega,by omega,by omega⟩) (by kernel_rfl) ?_
 refine .tO 5 rfl .move<|.tO 6 rfl .move ?_
 refine .eQ 7 rfl (.i64 ((q-1:Nat):Int) .sub ⟨by omega,by omega,by omega⟩) (by kernel_rfl) ?_
 refine RA.aI 8 rfl (q-1) f k rfl rfl rfl (by kernel_rfl) (λe3=>?_)
 refine .tO 9 rfl (.bU rfl)<|.tO 10 rfl .move<|.tO 11 rfl .move ?_
 refine RA.aI 12 rfl (q) f g rfl rfl rfl (by kernel_rfl) (λe4=>?_)
 refine .tO 13 rfl (.bU rfl) ?_
 refine RA.aI 14 rfl (q) f g rfl rfl rfl (by kernel_rfl) (λe5=>?_)
 refine .sT 15 rfl ?_
 refine .cY (q) f g t (λa6 O=>?_)
 refine .nil (Next.mod rfl ?_)
 refine RA.aI 16 rfl (q-1) f k rfl rfl rfl (by kernel_rfl) (λe6=>?_)
 refine .sT 17 rfl ?_
 obtain⟨zz,S⟩:∃u,(B.set (q) t)[q-1]? =some u:=⟨_,aQ (by rw[adJ];exact(adK.1 k).1)⟩
 refine .cY (q-1) O S s (λI H=>?_)
 rw[<-ej g k]at H
 refine .nil (Next.mod rfl ?_)
 refine RA.nil (by kernel_rfl) ?_
 refine bg<|aB<|.region<|.mo rfl ?_
 refine .ia (q-1) .sub ?_
 refine .ag rfl<|.nil ?_
 ·exact bu (q-1,cy B q (q-1),I) ⟨⟨by simp only;omega,by simp only;omega⟩,H,D.step (by omega) (by omega) (by omega) (by omega) (by omega),W.step Z (by omega) (by omega) b7 g k a3⟩ (by simp only;omega) kE.c.c.c.c.c.c rH
 have a2:SR (aS c) B a d:=W.done Z (by omega) (by omega) (.inl (by have:=bK h6;omega))
 refine .exit<|br<|bz<|bw ?_
 ·exact aL (B,M) ⟨f,D,a2⟩ kE.c.c.c.c.c rH
 refine .skip ?_
 ·exact aL (cy ys d (d-1),I) ⟨H,a8,λp q U V J=>by have:=bK h5;omega⟩ kE.c.c.c.c.c rH
 intro y A
 obtain⟨B,M⟩:=y
 obtain⟨f,D,a1⟩:=A
 simp only at f D a1⊢
 refine aB ?_
 refine bq.cut (X:=List ByteArray×ap) (λz=>OS 9 1 cO v z.1 z.2/\RP a b xs z.1/\SR (aS c) z.1 a d) (λ_=>[(0,v),(1,iN a),(2,iN b),(7,iN d),(8,iN n)]) (λz=>[z.2]) ?_ ?_
 refine .sr<|.mo rfl<|.mo rfl ?_
 refine .ia (b-d) .sub ?_
 refine .q .geq<|.zn ?_
 refine .cond rfl (λh8=>?_) λh8=>?_
 refine .sr<|.mo rfl ?_
 refine .ia (d+1) .add ?_
 refine .az rfl<|.block ?_
 refine .loop (X:=Nat×List ByteArray×ap) (λz=>(d+1<=z.1/\z.1<=b)/\OS 9 1 cO v z.2.1 z.2.2/\RP a b xs z.2.1/\SR (aS c) z.2.1 a d) (λz=>[(0,v),(1,iN a),(2,iN b),(7,iN d),(8,iN n),(10,iN z.1)]) (λz=>[z.2.2]) (λz=>b-z.1) (d+1,B,M) ⟨⟨adI _,by simp only;omega⟩,f,D,a1⟩ kE.c.c.c.c.c.c rH ?_
 rintro⟨q,L,T4⟩ ⟨⟨a4,a5⟩,C,N,Y⟩
 simp only at a4 a5 C N Y⊢
 have c4:=N.length
 refine .seq<|.sr<|.mo rfl<|.mo rfl<|.q .lss<|.zn ?_
 refine .cond rfl (λh9=>?_) λh9=>?_
 have c8:q<b:=cV h9
 obtain⟨s,g⟩:∃x,L[q]? =some x:=⟨_,aQ (by omega)⟩
 obtain⟨t,k⟩:∃x,L[q-1]? =some x:=⟨_,aQ (by omega)⟩
 refine .kn<|.seq<|.block<|.seq<|.seq ?_
 refine .dd 9 mixed (by kernel_rfl) ?_
 conv=>arg 6;dsimp only[List.take]
 refine .mo rfl<|.mo rfl ?_
 refine .aI q C g (λc9=>?_)
 refine .lo rfl<|.mo rfl<|.mo rfl ?_
 refine .ia (q-1) .sub ?_
 refine .aI (q-1) C k (λd0=>?_)
 refine .lo rfl<|.nil ?_
 refine .bj (jh hf s t _) (λu r=>?_)
 subst r
 refine .q .not<|.zn ?_
 refine .cond rfl (λb3=>?_) λb3=>?_
 refine .exit (br (iJ (br (bz (bw ?_)))))
 ·exact aL (L,T4) ⟨C,N,Y⟩ kE.c.c.c.c.c rH
 refine .kn<|.cG [15,17] mixed ?_
 refine .tO 0 rfl .move<|.tO 1 rfl .move<|.tK 2 rfl .move<|.tK 3 rfl .move ?_
 refine .take 4 rfl (.i64 ((q-1:Nat):Int) .sub ⟨by omega,by omega,by omega⟩) (by kernel_rfl) ?_
 refine .tO 5 rfl .move<|.tO 6 rfl .move ?_
 refine .eQ 7 rfl (.i64 ((q-1:Nat):Int) .sub ⟨by omega,by omega,by omega⟩) (by kernel_rfl) ?_
 refine RA.aI 8 rfl (q-1) C k rfl rfl rfl (by kernel_rfl) (λd1=>?_)
 refine .tO 9 rfl (.bU rfl)<|.tO 10 rfl .move<|.tO 11 rfl .move ?_
 refine RA.aI 12 rfl (q) C g rfl rfl rfl (by kernel_rfl) (λd2=>?_)
 refine .tO 13 rfl (.bU rfl) ?_
 refine RA.aI 14 rfl (q) C g rfl rfl rfl (by kernel_rfl) (λd3=>?_)
 refine .sT 15 rfl ?_
 refine .cY (q) C g t (λa6 O=>?_)
 refine .nil (Next.mod rfl ?_)
 refine RA.aI 16 rfl (q-1) C k rfl rfl rfl (by kernel_rfl) (λd4=>?_)
 refine .sT 17 rfl ?_
 obtain⟨zz,S⟩:∃u,(L.set (q) t)[q-1]? =some u:=⟨_,aQ (by rw[adJ];exact(adK.1 k).1)⟩
 refine .cY (q-1) O S s (λI H=>?_)
 rw[<-ej g k]at H
 refine .nil (Next.mod rfl ?_)
 refine RA.nil (by kernel_rfl) ?_
 refine bg<|aB<|.region<|.mo rfl ?_
 refine .ia (q+1) .add ?_
 refine .ag rfl<|.nil ?_
 ·exact bu (q+1,cy L q (q-1),I) ⟨⟨by simp only;omega,by simp only;omega⟩,H,N.step (by omega) (by omega) (by omega) (by omega) (by omega),Y.Aa (by omega) (by omega) (by omega) (by omega)⟩ (by simp only;omega) kE.c.c.c.c.c.c rH
 refine .exit<|br<|bz<|bw ?_
 ·exact aL (L,T4) ⟨C,N,Y⟩ kE.c.c.c.c.c rH
 refine .skip ?_
 ·exact aL (B,M) ⟨f,D,a1⟩ kE.c.c.c.c.c rH
 intro y A
 obtain⟨us,T5⟩:=y
 obtain⟨a7,a9,b0⟩:=A
 simp only at a7 a9 b0⊢
 refine bg<|aB<|.region<|.mo rfl ?_
 refine .ia (n+1) .add ?_
 refine .ag rfl<|.nil ?_
 ·exact bu (n+1,d,us,T5) ⟨⟨by simp only;omega,F,G⟩,a7,a9,b0⟩ (by simp only;omega) kE.c.c.c.c.c rH
 refine .exit<|br<|bz<|bw<|aB<|.sr<|.az rfl ?_
 refine .ret (bm _ (.one (.tmp rfl)) rH ?_)
 ·exact⟨_,rfl,ys,false,rfl,o,K,λh=>by cases h⟩
end
end SST
namespace SST
section
variable{c:ByteArray->ByteArray->Int}{ok:ByteArray->Prop}
theorem nv(v:Value)(xs:List ByteArray)(a b lo d e:Nat)(s:Int)(R:aw)(h:RS R 1 cO v xs)(f:lo<=a/\a<d)(g:lo<=b/\b<d)(n:d<=xs.length)(j:gO c ok R)(o:∀x∈xs,ok x):
  Spec prog 269 [v,.int .i64 a,.int .i64 b,pT e] R [bl e [.int .i64 s] 3] λu H'=>∃T',H'=[T']/\∃(s':Int) (p q:Nat),u=.tuple [.int .i64 p,.int .i64 q].toArray/\T'=(bl e [.int .i64 s'] 3)/\(lo<=p/\p<d)/\(lo<=q/\q<d):=by
 obtain⟨x,l⟩:∃x,xs[b]? =some x:=⟨_,aQ (by omega)⟩
 obtain⟨y,m⟩:∃x,xs[a]? =some x:=⟨_,aQ (by omega)⟩
 refine Spec.body func269 rfl results269 ntmps269 rfl<|.sr<|.ag rfl<|.ag rfl<|.zs<|.seq<|.dd 8 mixed (by kernel_rfl) ?_
 conv=>arg 6;dsimp only[List.take]
 refine .mo rfl<|.mo rfl ?_
 refine .bZ b h l (λr=>?_)
 refine .lo rfl<|.mo rfl<|.mo rfl ?_
 refine .bZ a h m (λt=>?_)
 refine .lo rfl<|.nil<|.bj (jh j x y _) (λu k=>?_)
 subst k
 refine .zn<|.cond rfl (λi=>?_) λi=>?_
 refine .sr<|.mo rfl<|.nc rfl<|.lo rfl<|.q .add<|.nc rfl<|.du rfl rfl<|.z<|.mo rfl<|.mo rfl<|.ag rfl<|.az rfl<|.ret (ba (bm _ (.two (.tmp rfl) (.tmp rfl)) rH ?_))
 ·exact⟨_,rfl,_,b,a,rfl,rfl,g,f⟩
 refine .kn<|.sr<|.mo rfl<|.mo rfl<|.ag rfl<|.az rfl<|.ret (bm _ (.two (.tmp rfl) (.tmp rfl)) rH ?_)
 ·exact⟨_,rfl,_,a,b,rfl,rfl,f,g⟩
theorem pB(v:Value)(xs:List ByteArray)(a b d lo e f:Nat)(s:Int)(R:aw)(h:RS R 1 cO v xs)(l:lo<=a/\a<e)(m:lo<=b/\b<e)(n:lo<=d/\d<e)(j:e<=xs.length)(i:gO c ok R)(k:∀x∈xs,ok x):
  Spec prog 254 [v,.int .i64 a,.int .i64 b,.int .i64 d,pT f] R [bl f [.int .i64 s] 3] λu H'=>∃T',H'=[T']/\∃(s':Int) (p:Nat),u=.int .i64 p/\T'=(bl f [.int .i64 s'] 3)/\(lo<=p/\p<e):=by
 refine Spec.body func254 rfl results254 ntmps254 rfl<|.sr<|.ag rfl<|.z<|.mo rfl<|.mo rfl<|.mo rfl<|.mo rfl<|.bQ (nv v xs a b lo e f s _ h l m j i k) (λu G g=>?_)
 obtain⟨D,y,B,rfl,rfl,o,t⟩:=g
 refine .mo rfl<|.q .extract<|.q .extract<|.ag rfl<|.ag rfl<|.z<|.mo rfl<|.mo rfl<|.mo rfl<|.mo rfl<|.bQ (nv v xs B d lo e f D _ h t n j i k) (λu H g=>?_)
 obtain⟨E,A,M,rfl,rfl,r,K⟩:=g
 refine .mo rfl<|.q .extract<|.q .extract<|.ag rfl<|.ag rfl<|.z<|.mo rfl<|.mo rfl<|.mo rfl<|.mo rfl<|.bQ (nv v xs y A lo e f E _ h o r j i k) (λu I g=>?_)
 obtain⟨F,L,C,rfl,rfl,J,w⟩:=g
 refine .mo rfl<|.q .extract<|.q .extract<|.ag rfl<|.ag rfl<|.z<|.mo rfl<|.az rfl<|.ret (bm _ (.one (.tmp rfl)) rH ?_)
 ·exact⟨_,rfl,F,C,rfl,rfl,w⟩
theorem np(v:Value)(xs:List ByteArray)(a lo d b:Nat)(s:Int)(R:aw)(h:RS R 1 cO v xs)(n:lo+1<=a/\a+1<d)(f:d<=xs.length)(o:xs.length<=1000000000)(e:gO c ok R)(g:∀x∈xs,ok x):
  Spec prog 253 [v,.int .i64 a,pT b] R [bl b [.int .i64 s] 3] λu H'=>∃T',H'=[T']/\∃(s':Int) (p:Nat),u=.int .i64 p/\T'=(bl b [.int .i64 s'] 3)/\(lo<=p/\p<d):=by
 refine Spec.body func253 rfl results253 ntmps253 rfl<|.sr<|.ag rfl<|.z<|.mo rfl<|.mo rfl<|.ia (a-1) .sub<|.mo rfl<|.mo rfl<|.ia (a+1) .add<|.mo rfl<|.bQ (pB v xs (a-1) a (a+1) lo d b s _ h (by omega) (by omega) (by omega) f e g) (λu m j=>?_)
 obtain⟨l,k,rfl,rfl,i⟩:=j
 refine .az rfl<|.ret (bm _ (.one (.tmp rfl)) rH ?_)
 ·exact⟨_,rfl,l,k,rfl,rfl,i⟩
theorem choose_spec(v:Value)(xs:List ByteArray)(a b:Nat)(R:aw)(h:RS R 1 cO v xs)(W:a<b)(g:b<=xs.length)(r:xs.length<=1000000000)(l:gO c ok R)(m:∀x∈xs,ok x):
  Spec prog 213 [v,.int .i64 a,.int .i64 b] R [] λu H'=>(∃(p:Nat) (t:Int),u=.tuple [.int .i64 p,.int .i64 t].toArray/\a<=p/\p<b)/\H'=[]:=by
 have iv:=h.aC
 obtain⟨n,H⟩:∃n,b=a+n:=⟨b-a,by omega⟩
 subst H
 obtain⟨q,w⟩:∃q,q=n/4:=⟨_,rfl⟩
 refine Spec.body func213 rfl results213 ntmps213 rfl<|.sr<|.ag rfl<|.ag rfl<|.z<|.mo rfl<|.mo rfl<|.ia (n) .sub<|.ag rfl<|.z ?_
 refine .nZ (λe=>?_)
 refine .z<|.mo rfl<|.mo rfl<|.q (.i64 ((q:Nat):Int) .quo ⟨by rw[w,adN (by omega)];omega,by omega,by omega⟩)<|.ia (q) .mul<|.ia (a+q) .add<|.ag rfl<|.z<|.mo rfl<|.mo rfl<|.q (.i64 ((q:Nat):Int) .quo ⟨by rw[w,adN (by omega)];omega,by omega,by omega⟩)<|.ia (q*2) .mul<|.ia (a+q*2) .add<|.ag rfl<|.z<|.mo rfl<|.mo rfl<|.q (.i64 ((q:Nat):Int) .quo ⟨by rw[w,adN (by omega)];omega,by omega,by omega⟩)<|.ia (q*3) .mul<|.ia (a+q*3) .add<|.ag rfl<|.zs ?_
 refine bq.cut (X:=Nat×Int) (λz=>a<=z.1/\z.1<a+n) (λz=>[(9,pT e),(11,iN z.1)]) (λz=>[bl e [.int .i64 z.2] 3]) ?_ ?_
 refine .sr<|.mo rfl<|.q .geq<|.zn<|.cond rfl (λA=>?_) λA=>?_
 have Z:8<=n:=by have:=bV A;omega
 refine .seq ?_
 refine bq.cut (X:=Nat×Nat×Nat×Int) (λz=>(a<=z.1/\z.1<a+n)/\(a<=z.2.1/\z.2.1<a+n)/\(a<=z.2.2.1/\z.2.2.1<a+n)) (λz=>[(0,v),(9,pT e),(10,iN z.1),(11,iN z.2.1),(12,iN z.2.2.1)]) (λz=>[bl e [.int .i64 z.2.2.2] 3]) ?_ ?_
 refine .sr<|.mo rfl<|.q .geq<|.zn<|.cond rfl (λB=>?_) λB=>?_
 have Y:50<=n:=by have:=bV B;omega
 refine .sr<|.mo rfl<|.mo rfl<|.bQ (np v xs (a+q) a (a+n) e 0 _ h (by omega) g r l m) (λu o f=>?_)
 obtain⟨S,M,rfl,rfl,I⟩:=f
 refine .ag rfl<|.z<|.mo rfl<|.mo rfl<|.bQ (np v xs (a+q*2) a (a+n) e S _ h (by omega) g r l m) (λu o f=>?_)
 obtain⟨T,N,rfl,rfl,J⟩:=f
 refine .az rfl<|.region<|.mo rfl<|.mo rfl<|.bQ (np v xs (a+q*3) a (a+n) e T _ h (by omega) g r l m) (λu o f=>?_)
 obtain⟨U,O,rfl,rfl,K⟩:=f
 refine .ag rfl<|.nil ?_
 ·exact aL (M,N,O,U) ⟨I,J,K⟩ kE.c.c.c.c.c rH
 refine .skip ?_
 ·exact aL (a+q,a+q*2,a+q*3,0) ⟨by simp only;omega,by simp only;omega,by simp only;omega⟩ kE.c.c.c.c.c rH
 intro y d
 obtain⟨i,j,k,s⟩:=y
 obtain⟨C,D,E⟩:=d
 simp only at C D E⊢
 refine aB<|.region<|.mo rfl<|.mo rfl<|.mo rfl<|.mo rfl<|.bQ (pB v xs i j k a (a+n) e s _ h C D E g l m) (λu o f=>?_)
 obtain⟨V,Q,rfl,rfl,L⟩:=f
 refine .ag rfl<|.nil ?_
 ·exact aL (Q,V) L kE.c.c rH
 refine .skip ?_
 ·exact aL (a+q*2,0) (by simp only;omega) kE.c.c rH
 intro y d
 obtain⟨p,s⟩:=y
 simp only at d⊢
 refine aB<|.sr<|.lo rfl<|.zn<|.block<|.sr<|.q .cr<|.az rfl<|.cond rfl (λF=>?_) λF=>?_
 refine .sr<|.mo rfl<|.ag rfl<|.az rfl<|.ret (bF (bm _ (.two (.tmp rfl) (.tmp rfl)) (.none _) ?_))
 ·exact⟨⟨p,_,rfl,d.1,d.2⟩,rfl⟩
 refine .sr<|.q .cr<|.az rfl<|.cond rfl (λG=>?_) λG=>?_
 refine .sr<|.mo rfl<|.ag rfl<|.az rfl<|.ret (bF (bm _ (.two (.tmp rfl) (.tmp rfl)) (.none _) ?_))
 ·exact⟨⟨p,_,rfl,d.1,d.2⟩,rfl⟩
 refine .sr<|.mo rfl<|.ag rfl<|.az rfl<|.ret (bF (bm _ (.two (.tmp rfl) (.tmp rfl)) (.none _) ?_))
 ·exact⟨⟨p,_,rfl,d.1,d.2⟩,rfl⟩
end
end SST
namespace SST
section
variable{c:ByteArray->ByteArray->Int}{ok:ByteArray->Prop}
theorem tL(v:Value)(xs:List ByteArray)(T:ap)(a b m:Nat)(p:ByteArray)(R:aw)(h:OS 9 1 cO v xs T)(a8:a<b)(hm:a<=m/\m<b)(A:xs[m]? =some p)(hb:b<=xs.length)(hl:xs.length<=1000000000)(hf:gO c ok R)(c4:∀x∈xs,ok x)(so:SO (aS c))
  (b4:∀(k:Nat) (x:ByteArray),a<=k->k<b->xs[k]? =some x->aS c x p=false):
  Spec prog 217 [v,.int .i64 a,.int .i64 b,.int .i64 m] R [T] λu H'=>∃T',H'=[T']/\∃ys mid,u=iN mid/\OS 9 1 cO v ys T'/\RP a b xs ys/\qn (aS c) ys a mid b p:=by
 obtain⟨x0,B⟩:∃x,xs[a]? =some x:=⟨_,aQ (by omega)⟩
 refine Spec.body func217 rfl results217 ntmps217 rfl ?_
 refine .sr<|.ag rfl<|.zs<|.cG [13,15] mixed ?_
 refine .tO 0 rfl .move<|.tO 1 rfl .move<|.tK 2 rfl .move<|.tK 3 rfl .move<|.tO 4 rfl .move<|.tO 5 rfl .move ?_
 refine RA.aI 6 rfl (m) h A rfl rfl rfl (by kernel_rfl) (λc5=>?_)
 refine .tO 7 rfl (.bU rfl)<|.tO 8 rfl .move<|.tO 9 rfl .move ?_
 refine RA.aI 10 rfl (a) h B rfl rfl rfl (by kernel_rfl) (λc6=>?_)
 refine .tO 11 rfl (.bU rfl) ?_
 refine RA.aI 12 rfl (a) h B rfl rfl rfl (by kernel_rfl) (λc7=>?_)
 refine .sT 13 rfl ?_
 refine .cY (a) h B p (λa6 Q=>?_)
 refine .nil (Next.mod rfl ?_)
 refine RA.aI 14 rfl (m) h A rfl rfl rfl (by kernel_rfl) (λc8=>?_)
 refine .sT 15 rfl ?_
 obtain⟨zz,W⟩:∃u,(xs.set (a) p)[m]? =some u:=⟨_,aQ (by rw[adJ];exact(adK.1 A).1)⟩
 refine .cY (m) Q W x0 (λH F=>?_)
 rw[<-ej B A]at F
 refine .nil (Next.mod rfl ?_)
 refine RA.nil (by kernel_rfl) ?_
 have a7:RP a b xs (cy xs a m):=(RP.refl xs).step (by omega) (by omega) (by omega) (by omega) (by omega)
 have a9:(cy xs a m)[a]? =some p:=by
  rw[fq (by omega) (by omega)]
  by_cases O:a=m
  ·rw[adL O,B, <-A, <-O,B]
  ·rw[adM O,adL rfl,A]
 refine aB<|.sr<|.mo rfl ?_
 refine .ia (a+1) .add ?_
 refine .mo rfl ?_
 refine .ia (b-1) .sub ?_
 refine .ag rfl<|.ag rfl<|.zs<|.block ?_
 refine .loop (X:=Nat×Nat×List ByteArray×ap) (λy=>OS 9 1 cO v y.2.2.1 y.2.2.2/\RP a b xs y.2.2.1/\PQ (λx=> !aS c p x) y.2.2.1 a y.1 y.2.1 b p) (λy=>[(0,v),(1,iN a),(9,iN y.1),(10,iN y.2.1)]) (λy=>[y.2.2.2]) (λy=>y.2.1+1-y.1) (a+1,b-1,cy xs a m,H) ⟨F,a7,.start a8 a9⟩ kE.c.c.c.c rH ?_
 rintro⟨i,j,ys,G⟩ ⟨r,E,D⟩
 simp only at r E D⊢
 have c3:=E.length
 have c0:=D.ij
 have c1:=D.jb
 have a5:=D.at_
 refine .block<|.seq ?_
 refine bq.cut (X:=Nat) (λl=>i<=l/\PQ (λx=> !aS c p x) ys a l j b p/\∀x,l<=j->ys[l]? =some x->(!aS c p x)=false) (λl=>[(0,v),(1,iN a),(9,.int .i64 (l:Nat)),(10,iN j)]) (λ_=>[G]) ?_ ?_
 refine .block ?_
 refine .loop (X:=Nat) (λl=>i<=l/\PQ (λx=> !aS c p x) ys a l j b p) (λl=>[(0,v),(1,iN a),(9,.int .i64 (l:Nat)),(10,iN j)]) (λ_=>[G]) (λl=>j+1-l) i ⟨adI _,D⟩ kE.c.c.c.c rH ?_
 rintro w ⟨a0,L⟩
 refine .seq<|.seq ?_
 refine .dd 12 mixed (by kernel_rfl) ?_
 conv=>arg 6;dsimp only[List.take]
 refine .mo rfl<|.mo rfl<|.q .leq<|.mo rfl ?_
 refine .split (t:=32) rfl (λd=>?_) (λd=>?_)
 have b2:w<=j:=by have:=bV d;omega
 obtain⟨x2,U⟩:∃x,ys[w]? =some x:=⟨_,aQ (by omega)⟩
 refine .gT d<|.mo rfl<|.gT d<|.mo rfl<|.gT d ?_
 refine .aI a r a5 (λc9=>?_)
 refine .gT d<|.lo rfl<|.gT d<|.mo rfl<|.gT d<|.mo rfl<|.gT d ?_
 refine .aI w r U (λd0=>?_)
 refine .gT d<|.lo rfl<|.nil<|.gT d ?_
 refine .bj (jh hf p x2 _) (λu S=>?_)
 subst S
 refine .gT d<|.q .not<|.q (.bx d) ?_
 refine .zn ?_
 refine .cond rfl (λI=>?_) λI=>?_
 refine .kn<|.block<|.region<|.mo rfl ?_
 refine .ia (w+1) .add ?_
 refine .ag rfl<|.nil<|bg ?_
 ·exact bu (w+1) ⟨by omega,L.inc b2 U I⟩ (by omega) kE.c.c.c.c rH
 refine .exit<|br<|bz<|bw ?_
 exact aL w ⟨a0,L,λx g s=>by rw[U]at s;cases s;exact I⟩ kE.c.c.c.c rH
 refine .gF d<|.gF d<|.gF d<|.gF d<|.gF d<|.gF d<|.gF d<|.gF d<|.nil<|.gF d<|.gF d<|.q (.bs d) ?_
 refine .zn<|.di<|.exit<|br<|bz<|bw ?_
 exact aL w ⟨a0,L,λx g s=>by have:=bK d;omega⟩ kE.c.c.c.c rH
 intro x g
 obtain⟨f,a1⟩:∃f,f=x:=⟨_,rfl⟩
 rw[<-a1]at g⊢
 clear a1 x
 obtain⟨b9,Z,b7⟩:=g
 refine aB<|.seq ?_
 refine bq.cut (X:=Nat) (λn=>n<=j/\PQ (λx=> !aS c p x) ys a f n b p/\∀x,f<=n->ys[n]? =some x->(!aS c p x)=true) (λn=>[(0,v),(1,iN a),(9,iN f),(10,.int .i64 (n:Nat))]) (λ_=>[G]) ?_ ?_
 refine .block ?_
 refine .loop (X:=Nat) (λn=>n<=j/\PQ (λx=> !aS c p x) ys a f n b p) (λn=>[(0,v),(1,iN a),(9,iN f),(10,.int .i64 (n:Nat))]) (λ_=>[G]) (λn=>n) j ⟨adI _,Z⟩ kE.c.c.c.c rH ?_
 rintro z ⟨a2,M⟩
 have b1:=Z.i0
 refine .seq<|.seq ?_
 refine .dd 12 mixed (by kernel_rfl) ?_
 conv=>arg 6;dsimp only[List.take]
 refine .mo rfl<|.mo rfl<|.q .leq<|.mo rfl ?_
 refine .split (t:=49) rfl (λe=>?_) (λe=>?_)
 have b3:f<=z:=by have:=bV e;omega
 obtain⟨Y,V⟩:∃x,ys[z]? =some x:=⟨_,aQ (by omega)⟩
 refine .gT e<|.mo rfl<|.gT e<|.mo rfl<|.gT e ?_
 refine .aI a r a5 (λd1=>?_)
 refine .gT e<|.lo rfl<|.gT e<|.mo rfl<|.gT e<|.mo rfl<|.gT e ?_
 refine .aI z r V (λd2=>?_)
 refine .gT e<|.lo rfl<|.nil<|.gT e ?_
 refine .bj (jh hf p Y _) (λu S=>?_)
 subst S
 refine .q (.bx e) ?_
 refine .zn ?_
 refine .cond rfl (λJ=>?_) λJ=>?_
 refine .kn<|.block<|.region<|.mo rfl ?_
 refine .ia (z-1) .sub ?_
 refine .ag rfl<|.nil<|bg ?_
 ·have b5:aS c p Y=true:=J
  exact bu (z-1) ⟨by omega,M.dec b3 V (by rw[b5];rfl)⟩ (by omega) kE.c.c.c.c rH
 refine .exit<|br<|bz<|bw ?_
 exact aL z ⟨a2,M,λx g s=>by have hh:aS c p Y=false:=J;rw[V]at s;cases s;rw[hh];rfl⟩ kE.c.c.c.c rH
 refine .gF e<|.gF e<|.gF e<|.gF e<|.gF e<|.gF e<|.gF e<|.gF e<|.nil<|.gF e<|.q (.bs e) ?_
 refine .zn<|.di<|.exit<|br<|bz<|bw ?_
 exact aL z ⟨a2,M,λx g s=>by have:=bK e;omega⟩ kE.c.c.c.c rH
 intro x g
 obtain⟨o,a3⟩:∃o,o=x:=⟨_,rfl⟩
 rw[<-a3]at g⊢
 clear a3 x
 obtain⟨c2,N,b8⟩:=g
 have b1:=N.i0
 refine aB<|.seq<|.sr<|.mo rfl<|.mo rfl<|.q .gtr<|.zn ?_
 refine .cond rfl (λK=>?_) λK=>?_
 refine .exit (br (iJ (bz (bw ?_))))
 refine aB<|.sr<|.mo rfl<|.az rfl ?_
 refine .ret (bm _ (.one (.tmp rfl)) rH ?_)
 ·have b0:o<f:=cV K
  exact⟨_,rfl,ys,f,rfl,r,E,N.xc so b0 (E.all (p:=λx=>aS c x p=false) b4)⟩
 have a4:f<=o:=by have:=bK K;omega
 obtain⟨x,g⟩:∃x,ys[f]? =some x:=⟨_,aQ (by omega)⟩
 obtain⟨y,C⟩:∃x,ys[o]? =some x:=⟨_,aQ (by omega)⟩
 have b6:=N.sw a4 (by omega) g C (b7 x (by omega) g) (b8 y a4 C)
 refine .kn<|.seq<|.cG [13,15] mixed ?_
 refine .tO 0 rfl .move<|.tO 1 rfl .move<|.tK 2 rfl .move<|.tK 3 rfl .move<|.tO 4 rfl .move<|.tO 5 rfl .move ?_
 refine RA.aI 6 rfl (o) r C rfl rfl rfl (by kernel_rfl) (λd3=>?_)
 refine .tO 7 rfl (.bU rfl)<|.tO 8 rfl .move<|.tO 9 rfl .move ?_
 refine RA.aI 10 rfl (f) r g rfl rfl rfl (by kernel_rfl) (λd4=>?_)
 refine .tO 11 rfl (.bU rfl) ?_
 refine RA.aI 12 rfl (f) r g rfl rfl rfl (by kernel_rfl) (λd5=>?_)
 refine .sT 13 rfl ?_
 refine .cY (f) r g y (λa6 Q=>?_)
 refine .nil (Next.mod rfl ?_)
 refine RA.aI 14 rfl (o) r C rfl rfl rfl (by kernel_rfl) (λd6=>?_)
 refine .sT 15 rfl ?_
 obtain⟨zz,W⟩:∃u,(ys.set (f) y)[o]? =some u:=⟨_,aQ (by rw[adJ];exact(adK.1 C).1)⟩
 refine .cY (o) Q W x (λH F=>?_)
 rw[<-ej g C]at F
 refine .nil (Next.mod rfl ?_)
 refine RA.nil (by kernel_rfl) ?_
 refine aB<|.sr<|.mo rfl ?_
 refine .ia (f+1) .add ?_
 refine .az rfl<|.region<|.mo rfl ?_
 refine .ia (o-1) .sub ?_
 refine .ag rfl<|.nil<|bg ?_
 ·exact bu (f+1,o-1,cy ys f o,H) ⟨F,E.step (by omega) (by omega) (by omega) (by omega) (by omega),b6.2⟩ (by simp only;omega) kE.c.c.c.c rH
theorem pJ(v:Value)(xs:List ByteArray)(T:ap)(a b m:Nat)(p:ByteArray)(R:aw)(h:OS 9 1 cO v xs T)(d6:a<b)(hm:a<=m/\m<b)(W:xs[m]? =some p)(hb:b<=xs.length)(hl:xs.length<=1000000000)(hf:gO c ok R)(g5:∀x∈xs,ok x)(so:SO (aS c)):
  Spec prog 218 [v,.int .i64 a,.int .i64 b,.int .i64 m] R [T] λu H'=>∃T',H'=[T']/\∃ys mid z,u=.tuple [iN mid,.bool z].toArray/\OS 9 1 cO v ys T'/\RP a b xs ys/\Part (aS c) ys a mid b p:=by
 obtain⟨x0,Y⟩:∃x,xs[a]? =some x:=⟨_,aQ (by omega)⟩
 refine Spec.body func218 rfl results218 ntmps218 rfl ?_
 refine .sr<|.ag rfl<|.ag rfl<|.zs<|.cG [13,15] mixed ?_
 refine .tO 0 rfl .move<|.tO 1 rfl .move<|.tK 2 rfl .move<|.tK 3 rfl .move<|.tO 4 rfl .move<|.tO 5 rfl .move ?_
 refine RA.aI 6 rfl (m) h W rfl rfl rfl (by kernel_rfl) (λi7=>?_)
 refine .tO 7 rfl (.bU rfl)<|.tO 8 rfl .move<|.tO 9 rfl .move ?_
 refine RA.aI 10 rfl (a) h Y rfl rfl rfl (by kernel_rfl) (λi8=>?_)
 refine .tO 11 rfl (.bU rfl) ?_
 refine RA.aI 12 rfl (a) h Y rfl rfl rfl (by kernel_rfl) (λj0=>?_)
 refine .sT 13 rfl ?_
 refine .cY (a) h Y p (λa2 G=>?_)
 refine .nil (Next.mod rfl ?_)
 refine RA.aI 14 rfl (m) h W rfl rfl rfl (by kernel_rfl) (λj1=>?_)
 refine .sT 15 rfl ?_
 obtain⟨zz,H⟩:∃u,(xs.set (a) p)[m]? =some u:=⟨_,aQ (by rw[adJ];exact(adK.1 W).1)⟩
 refine .cY (m) G H x0 (λJ A=>?_)
 rw[<-ej Y W]at A
 refine .nil (Next.mod rfl ?_)
 refine RA.nil (by kernel_rfl) ?_
 have a4:RP a b xs (cy xs a m):=(RP.refl xs).step (by omega) (by omega) (by omega) (by omega) (by omega)
 have I:(cy xs a m)[a]? =some p:=by
  rw[fq (by omega) (by omega)]
  by_cases hk:a=m
  ·rw[adL hk,Y, <-W, <-hk,Y]
  ·rw[adM hk,adL rfl,W]
 obtain⟨w,d1⟩:∃w,w=cy xs a m:=⟨_,rfl⟩
 rw[<-d1]at A a4 I
 obtain⟨S,d5⟩:∃S,S=J:=⟨_,rfl⟩
 rw[<-d5]at A⊢
 have g3:=a4.length
 have C:=A
 clear A
 have d4:PQ (λx=>aS c x p) w a (a+1) (b-1) b p:=.start d6 I
 clear d1
 refine aB<|.sr<|.mo rfl ?_
 refine .ia (a+1) .add ?_
 refine .mo rfl ?_
 refine .ia (b-1) .sub ?_
 refine .ag rfl<|.ag rfl<|.zs ?_
 refine bq.cut (X:=Nat) (λk=>PQ (λx=>aS c x p) w a k (b-1) b p/\∀x,k<=b-1->w[k]? =some x->aS c x p=false) (λk=>[(0,v),(1,iN a),(10,.int .i64 (k:Nat)),(11,.int .i64 ((b-1:Nat):Int))]) (λ_=>[S]) ?_ ?_
 refine .block ?_
 refine .loop (X:=Nat) (λk=>PQ (λx=>aS c x p) w a k (b-1) b p) (λk=>[(0,v),(1,iN a),(10,.int .i64 (k:Nat)),(11,.int .i64 ((b-1:Nat):Int))]) (λ_=>[S]) (λk=>b-k) (a+1) d4 kE.c.c.c.c rH ?_
 rintro L a9
 refine .seq<|.seq ?_
 refine .dd 12 mixed (by kernel_rfl) ?_
 conv=>arg 6;dsimp only[List.take]
 refine .mo rfl<|.mo rfl<|.q .leq<|.mo rfl ?_
 refine .split (t:=33) rfl (λn=>?_) (λn=>?_)
 have e0:L<=b-1:=by have:=bV n;omega
 obtain⟨x2,b4⟩:∃x,w[L]? =some x:=⟨_,aQ (by omega)⟩
 refine .gT n<|.mo rfl<|.gT n<|.mo rfl<|.gT n ?_
 refine .aI L C b4 (λj4=>?_)
 refine .gT n<|.lo rfl<|.gT n<|.mo rfl<|.gT n<|.mo rfl<|.gT n ?_
 refine .aI a C I (λj5=>?_)
 refine .gT n<|.lo rfl<|.nil<|.gT n ?_
 refine .bj (jh hf x2 p _) (λu K=>?_)
 subst K
 refine .q (.bx n) ?_
 refine .zn ?_
 refine .cond rfl (λh1=>?_) λh1=>?_
 refine .kn<|.block<|.region<|.mo rfl ?_
 refine .ia (L+1) .add ?_
 refine .ag rfl<|.nil<|bg ?_
 ·exact bu (L+1) (a9.inc e0 b4 h1) (by omega) kE.c.c.c.c rH
 refine .exit<|br<|bz<|bw ?_
 exact aL L ⟨a9,λx d B=>by rw[b4]at B;cases B;exact h1⟩ kE.c.c.c.c rH
 refine .gF n<|.gF n<|.gF n<|.gF n<|.gF n<|.gF n<|.gF n<|.gF n<|.nil<|.gF n<|.q (.bs n) ?_
 refine .zn<|.di<|.exit<|br<|bz<|bw ?_
 exact aL L ⟨a9,λx d B=>by have:=bK n;omega⟩ kE.c.c.c.c rH
 intro x d
 obtain⟨r,c0⟩:∃r,r=x:=⟨_,rfl⟩
 rw[<-c0]at d⊢
 clear c0 x
 obtain⟨b8,e8⟩:=d
 refine aB<|.seq ?_
 refine bq.cut (X:=Nat) (λe=>e<=b-1/\PQ (λx=>aS c x p) w a r e b p/\∀x,r<=e->w[e]? =some x->aS c x p=true) (λe=>[(0,v),(1,iN a),(10,iN r),(11,.int .i64 (e:Nat))]) (λ_=>[S]) ?_ ?_
 refine .block ?_
 refine .loop (X:=Nat) (λe=>e<=b-1/\PQ (λx=>aS c x p) w a r e b p) (λe=>[(0,v),(1,iN a),(10,iN r),(11,.int .i64 (e:Nat))]) (λ_=>[S]) (λe=>e) (b-1) ⟨adI _,b8⟩ kE.c.c.c.c rH ?_
 rintro M ⟨c1,b0⟩
 have d8:=b8.i0
 refine .seq<|.seq ?_
 refine .dd 12 mixed (by kernel_rfl) ?_
 conv=>arg 6;dsimp only[List.take]
 refine .mo rfl<|.mo rfl<|.q .leq<|.mo rfl ?_
 refine .split (t:=49) rfl (λg=>?_) (λg=>?_)
 have e1:r<=M:=by have:=bV g;omega
 obtain⟨x4,b5⟩:∃x,w[M]? =some x:=⟨_,aQ (by omega)⟩
 refine .gT g<|.mo rfl<|.gT g<|.mo rfl<|.gT g ?_
 refine .aI M C b5 (λj6=>?_)
 refine .gT g<|.lo rfl<|.gT g<|.mo rfl<|.gT g<|.mo rfl<|.gT g ?_
 refine .aI a C I (λj7=>?_)
 refine .gT g<|.lo rfl<|.nil<|.gT g ?_
 refine .bj (jh hf x4 p _) (λu K=>?_)
 subst K
 refine .gT g<|.q .not<|.q (.bx g) ?_
 refine .zn ?_
 refine .cond rfl (λh2=>?_) λh2=>?_
 refine .kn<|.block<|.region<|.mo rfl ?_
 refine .ia (M-1) .sub ?_
 refine .ag rfl<|.nil<|bg ?_
 ·have e4:aS c x4 p=false:=by
   have d2:(!aS c x4 p)=true:=h2
   simpa using d2
  exact bu (M-1) ⟨by omega,b0.dec e1 b5 e4⟩ (by omega) kE.c.c.c.c rH
 refine .exit<|br<|bz<|bw ?_
 exact aL M ⟨c1,b0,λx d B=>by
  have hh:(!aS c x4 p)=false:=h2
  rw[b5]at B;cases B
  simpa using hh⟩ kE.c.c.c.c rH
 refine .gF g<|.gF g<|.gF g<|.gF g<|.gF g<|.gF g<|.gF g<|.gF g<|.nil<|.gF g<|.gF g<|.q (.bs g) ?_
 refine .zn<|.di<|.exit<|br<|bz<|bw ?_
 exact aL M ⟨c1,b0,λx d B=>by have:=bK g;omega⟩ kE.c.c.c.c rH
 intro x d
 obtain⟨o,c2⟩:∃o,o=x:=⟨_,rfl⟩
 rw[<-c2]at d⊢
 clear c2 x
 obtain⟨g0,a3,e9⟩:=d
 have d8:=a3.i0
 have f4:=a3.ij
 refine aB<|.seq<|.sr<|.mo rfl<|.mo rfl<|.q .gtr<|.zn ?_
 refine .cond rfl (λh3=>?_) λh3=>?_
 have d7:o<r:=cV h3
 obtain⟨y,F⟩:∃x,w[o]? =some x:=⟨_,aQ (by omega)⟩
 refine .seq<|.cG [13,15] mixed ?_
 refine .tO 0 rfl .move<|.tO 1 rfl .move<|.tK 2 rfl .move<|.tK 3 rfl .move<|.tO 4 rfl .move<|.tO 5 rfl .move ?_
 refine RA.aI 6 rfl (a) C I rfl rfl rfl (by kernel_rfl) (λj8=>?_)
 refine .tO 7 rfl (.bU rfl)<|.tO 8 rfl .move<|.tO 9 rfl .move ?_
 refine RA.aI 10 rfl (o) C F rfl rfl rfl (by kernel_rfl) (λk0=>?_)
 refine .tO 11 rfl (.bU rfl) ?_
 refine RA.aI 12 rfl (o) C F rfl rfl rfl (by kernel_rfl) (λk1=>?_)
 refine .sT 13 rfl ?_
 refine .cY (o) C F p (λa2 G=>?_)
 refine .nil (Next.mod rfl ?_)
 refine RA.aI 14 rfl (a) C I rfl rfl rfl (by kernel_rfl) (λk4=>?_)
 refine .sT 15 rfl ?_
 obtain⟨zz,H⟩:∃u,(w.set (o) p)[a]? =some u:=⟨_,aQ (by rw[adJ];exact(adK.1 I).1)⟩
 refine .cY (a) G H y (λJ A=>?_)
 rw[<-ej F I]at A
 refine .nil (Next.mod rfl ?_)
 refine RA.nil (by kernel_rfl) ?_
 refine aB<|.sr<|.mo rfl<|.ag rfl<|.az rfl ?_
 refine .ret (ba (bm _ (.two (.tmp rfl) (.tmp rfl)) rH ?_))
 ·exact⟨_,rfl,cy w o a,o,true,rfl,A,a4.step (by omega) (by omega) (by omega) (by omega) (by omega),a3.fin d7 (by omega)⟩
 have c6:r<=o:=by have:=bK h3;omega
 obtain⟨x,d⟩:∃x,w[r]? =some x:=⟨_,aQ (by omega)⟩
 obtain⟨y,F⟩:∃x,w[o]? =some x:=⟨_,aQ (by omega)⟩
 have e6:=a3.sw c6 (by omega) d F (e8 x (by omega) d) (e9 y c6 F)
 refine .kn<|.seq<|.cG [13,15] mixed ?_
 refine .tO 0 rfl .move<|.tO 1 rfl .move<|.tK 2 rfl .move<|.tK 3 rfl .move<|.tO 4 rfl .move<|.tO 5 rfl .move ?_
 refine RA.aI 6 rfl (o) C F rfl rfl rfl (by kernel_rfl) (λk5=>?_)
 refine .tO 7 rfl (.bU rfl)<|.tO 8 rfl .move<|.tO 9 rfl .move ?_
 refine RA.aI 10 rfl (r) C d rfl rfl rfl (by kernel_rfl) (λk6=>?_)
 refine .tO 11 rfl (.bU rfl) ?_
 refine RA.aI 12 rfl (r) C d rfl rfl rfl (by kernel_rfl) (λk7=>?_)
 refine .sT 13 rfl ?_
 refine .cY (r) C d y (λa2 G=>?_)
 refine .nil (Next.mod rfl ?_)
 refine RA.aI 14 rfl (o) C F rfl rfl rfl (by kernel_rfl) (λk8=>?_)
 refine .sT 15 rfl ?_
 obtain⟨zz,H⟩:∃u,(w.set (r) y)[o]? =some u:=⟨_,aQ (by rw[adJ];exact(adK.1 F).1)⟩
 refine .cY (o) G H x (λJ A=>?_)
 rw[<-ej d F]at A
 refine .nil (Next.mod rfl ?_)
 refine RA.nil (by kernel_rfl) ?_
 refine aB<|.sr<|.mo rfl ?_
 refine .ia (r+1) .add ?_
 refine .ag rfl<|.z<|.mo rfl ?_
 refine .ia (o-1) .sub ?_
 refine .ag rfl<|.zs ?_
 refine bq.cut (X:=Nat×Nat×List ByteArray×ap) (λy=>OS 9 1 cO v y.2.2.1 y.2.2.2/\RP a b xs y.2.2.1/\PQ (λx=>aS c x p) y.2.2.1 a y.1 y.2.1 b p/\y.2.1<y.1) (λy=>[(0,v),(1,iN a),(10,iN y.1),(11,iN y.2.1)]) (λy=>[y.2.2.2]) ?_ ?_
 refine .block ?_
 refine .loop (X:=Nat×Nat×List ByteArray×ap) (λy=>OS 9 1 cO v y.2.2.1 y.2.2.2/\RP a b xs y.2.2.1/\PQ (λx=>aS c x p) y.2.2.1 a y.1 y.2.1 b p) (λy=>[(0,v),(1,iN a),(10,iN y.1),(11,iN y.2.1)]) (λy=>[y.2.2.2]) (λy=>y.2.1+1-y.1) (r+1,o-1,cy w r o,J) ⟨A,a4.step (by omega) (by omega) (by omega) (by omega) (by omega),e6.2⟩ kE.c.c.c.c rH ?_
 rintro⟨i,j,ys,T1⟩ ⟨E,a5,a1⟩
 simp only at E a5 a1⊢
 have g2:=a5.length
 have f3:=a1.ij
 have f8:=a1.jb
 have d0:=a1.at_
 refine .block<|.seq ?_
 refine bq.cut (X:=Nat) (λk=>i<=k/\PQ (λx=>aS c x p) ys a k j b p/\∀x,k<=j->ys[k]? =some x->aS c x p=false) (λk=>[(0,v),(1,iN a),(10,.int .i64 (k:Nat)),(11,iN j)]) (λ_=>[T1]) ?_ ?_
 refine .block ?_
 refine .loop (X:=Nat) (λk=>i<=k/\PQ (λx=>aS c x p) ys a k j b p) (λk=>[(0,v),(1,iN a),(10,.int .i64 (k:Nat)),(11,iN j)]) (λ_=>[T1]) (λk=>j+1-k) i ⟨adI _,a1⟩ kE.c.c.c.c rH ?_
 rintro O ⟨c4,b2⟩
 refine .seq<|.seq ?_
 refine .dd 12 mixed (by kernel_rfl) ?_
 conv=>arg 6;dsimp only[List.take]
 refine .mo rfl<|.mo rfl<|.q .leq<|.mo rfl ?_
 refine .split (t:=102) rfl (λl=>?_) (λl=>?_)
 have e2:O<=j:=by have:=bV l;omega
 obtain⟨x6,b6⟩:∃x,ys[O]? =some x:=⟨_,aQ (by omega)⟩
 refine .gT l<|.mo rfl<|.gT l<|.mo rfl<|.gT l ?_
 refine .aI O E b6 (λg6=>?_)
 refine .gT l<|.lo rfl<|.gT l<|.mo rfl<|.gT l<|.mo rfl<|.gT l ?_
 refine .aI a E d0 (λg7=>?_)
 refine .gT l<|.lo rfl<|.nil<|.gT l ?_
 refine .bj (jh hf x6 p _) (λu K=>?_)
 subst K
 refine .q (.bx l) ?_
 refine .zn ?_
 refine .cond rfl (λh4=>?_) λh4=>?_
 refine .kn<|.block<|.region<|.mo rfl ?_
 refine .ia (O+1) .add ?_
 refine .ag rfl<|.nil<|bg ?_
 ·exact bu (O+1) ⟨by omega,b2.inc e2 b6 h4⟩ (by omega) kE.c.c.c.c rH
 refine .exit<|br<|bz<|bw ?_
 exact aL O ⟨c4,b2,λx d B=>by rw[b6]at B;cases B;exact h4⟩ kE.c.c.c.c rH
 refine .gF l<|.gF l<|.gF l<|.gF l<|.gF l<|.gF l<|.gF l<|.gF l<|.nil<|.gF l<|.q (.bs l) ?_
 refine .zn<|.di<|.exit<|br<|bz<|bw ?_
 exact aL O ⟨c4,b2,λx d B=>by have:=bK l;omega⟩ kE.c.c.c.c rH
 intro x d
 obtain⟨s,c5⟩:∃s,s=x:=⟨_,rfl⟩
 rw[<-c5]at d⊢
 clear c5 x
 obtain⟨f7,b9,f0⟩:=d
 refine aB<|.seq ?_
 refine bq.cut (X:=Nat) (λe=>e<=j/\PQ (λx=>aS c x p) ys a s e b p/\∀x,s<=e->ys[e]? =some x->aS c x p=true) (λe=>[(0,v),(1,iN a),(10,iN s),(11,.int .i64 (e:Nat))]) (λ_=>[T1]) ?_ ?_
 refine .block ?_
 refine .loop (X:=Nat) (λe=>e<=j/\PQ (λx=>aS c x p) ys a s e b p) (λe=>[(0,v),(1,iN a),(10,iN s),(11,.int .i64 (e:Nat))]) (λ_=>[T1]) (λe=>e) j ⟨adI _,b9⟩ kE.c.c.c.c rH ?_
 rintro Q ⟨c8,b3⟩
 have d9:=b9.i0
 refine .seq<|.seq ?_
 refine .dd 12 mixed (by kernel_rfl) ?_
 conv=>arg 6;dsimp only[List.take]
 refine .mo rfl<|.mo rfl<|.q .leq<|.mo rfl ?_
 refine .split (t:=118) rfl (λf=>?_) (λf=>?_)
 have e3:s<=Q:=by have:=bV f;omega
 obtain⟨x7,b7⟩:∃x,ys[Q]? =some x:=⟨_,aQ (by omega)⟩
 refine .gT f<|.mo rfl<|.gT f<|.mo rfl<|.gT f ?_
 refine .aI Q E b7 (λg8=>?_)
 refine .gT f<|.lo rfl<|.gT f<|.mo rfl<|.gT f<|.mo rfl<|.gT f ?_
 refine .aI a E d0 (λg9=>?_)
 refine .gT f<|.lo rfl<|.nil<|.gT f ?_
 refine .bj (jh hf x7 p _) (λu K=>?_)
 subst K
 refine .gT f<|.q .not<|.q (.bx f) ?_
 refine .zn ?_
 refine .cond rfl (λh5=>?_) λh5=>?_
 refine .kn<|.block<|.region<|.mo rfl ?_
 refine .ia (Q-1) .sub ?_
 refine .ag rfl<|.nil<|bg ?_
 ·have e5:aS c x7 p=false:=by
   have d3:(!aS c x7 p)=true:=h5
   simpa using d3
  exact bu (Q-1) ⟨by omega,b3.dec e3 b7 e5⟩ (by omega) kE.c.c.c.c rH
 refine .exit<|br<|bz<|bw ?_
 exact aL Q ⟨c8,b3,λx d B=>by
  have hh:(!aS c x7 p)=false:=h5
  rw[b7]at B;cases B
  simpa using hh⟩ kE.c.c.c.c rH
 refine .gF f<|.gF f<|.gF f<|.gF f<|.gF f<|.gF f<|.gF f<|.gF f<|.nil<|.gF f<|.gF f<|.q (.bs f) ?_
 refine .zn<|.di<|.exit<|br<|bz<|bw ?_
 exact aL Q ⟨c8,b3,λx d B=>by have:=bK f;omega⟩ kE.c.c.c.c rH
 intro x d
 obtain⟨D,c9⟩:∃D,D=x:=⟨_,rfl⟩
 rw[<-c9]at d⊢
 clear c9 x
 obtain⟨g1,a6,f1⟩:=d
 have d9:=a6.i0
 have f5:=a6.ij
 refine aB<|.seq<|.sr<|.mo rfl<|.mo rfl<|.q .gtr<|.zn ?_
 refine .cond rfl (λh6=>?_) λh6=>?_
 refine .exit (br (iJ (bz (bw ?_))))
 exact aL (s,D,ys,T1) ⟨E,a5,a6,by have:=bV h6;simp only;omega⟩ kE.c.c.c.c rH
 have c7:s<=D:=by have:=bK h6;omega
 obtain⟨x8,Z⟩:∃x,ys[s]? =some x:=⟨_,aQ (by omega)⟩
 obtain⟨y8,a0⟩:∃x,ys[D]? =some x:=⟨_,aQ (by omega)⟩
 have e7:=a6.sw c7 (by omega) Z a0 (f0 x8 (by omega) Z) (f1 y8 c7 a0)
 refine .kn<|.seq<|.cG [13,15] mixed ?_
 refine .tO 0 rfl .move<|.tO 1 rfl .move<|.tK 2 rfl .move<|.tK 3 rfl .move<|.tO 4 rfl .move<|.tO 5 rfl .move ?_
 refine RA.aI 6 rfl (D) E a0 rfl rfl rfl (by kernel_rfl) (λh0=>?_)
 refine .tO 7 rfl (.bU rfl)<|.tO 8 rfl .move<|.tO 9 rfl .move ?_
 refine RA.aI 10 rfl (s) E Z rfl rfl rfl (by kernel_rfl) (λh7=>?_)
 refine .tO 11 rfl (.bU rfl) ?_
 refine RA.aI 12 rfl (s) E Z rfl rfl rfl (by kernel_rfl) (λh8=>?_)
 refine .sT 13 rfl ?_
 refine .cY (s) E Z y8 (λa2 G=>?_)
 refine .nil (Next.mod rfl ?_)
 refine RA.aI 14 rfl (D) E a0 rfl rfl rfl (by kernel_rfl) (λh9=>?_)
 refine .sT 15 rfl ?_
 obtain⟨zz,H⟩:∃u,(ys.set (s) y8)[D]? =some u:=⟨_,aQ (by rw[adJ];exact(adK.1 a0).1)⟩
 refine .cY (D) G H x8 (λJ A=>?_)
 rw[<-ej Z a0]at A
 refine .nil (Next.mod rfl ?_)
 refine RA.nil (by kernel_rfl) ?_
 refine aB<|.sr<|.mo rfl ?_
 refine .ia (s+1) .add ?_
 refine .az rfl<|.region<|.mo rfl ?_
 refine .ia (D-1) .sub ?_
 refine .ag rfl<|.nil<|bg ?_
 ·exact bu (s+1,D-1,cy ys s D,J) ⟨A,a5.step (by omega) (by omega) (by omega) (by omega) (by omega),e7.2⟩ (by simp only;omega) kE.c.c.c.c rH
 intro x d
 obtain⟨i9,N,zs,T9⟩:=x
 obtain⟨U,b1,V,c3⟩:=d
 simp only at U b1 V c3⊢
 have g4:=b1.length
 have f6:=V.ij
 have f2:=V.i0
 have f9:=V.jb
 have a7:=V.at_
 obtain⟨y9,a8⟩:∃x,zs[N]? =some x:=⟨_,aQ (by omega)⟩
 refine aB<|.seq<|.cG [13,15] mixed ?_
 refine .tO 0 rfl .move<|.tO 1 rfl .move<|.tK 2 rfl .move<|.tK 3 rfl .move<|.tO 4 rfl .move<|.tO 5 rfl .move ?_
 refine RA.aI 6 rfl (a) U a7 rfl rfl rfl (by kernel_rfl) (λi1=>?_)
 refine .tO 7 rfl (.bU rfl)<|.tO 8 rfl .move<|.tO 9 rfl .move ?_
 refine RA.aI 10 rfl (N) U a8 rfl rfl rfl (by kernel_rfl) (λi4=>?_)
 refine .tO 11 rfl (.bU rfl) ?_
 refine RA.aI 12 rfl (N) U a8 rfl rfl rfl (by kernel_rfl) (λi5=>?_)
 refine .sT 13 rfl ?_
 refine .cY (N) U a8 p (λa2 G=>?_)
 refine .nil (Next.mod rfl ?_)
 refine RA.aI 14 rfl (a) U a7 rfl rfl rfl (by kernel_rfl) (λi6=>?_)
 refine .sT 15 rfl ?_
 obtain⟨zz,H⟩:∃u,(zs.set (N) p)[a]? =some u:=⟨_,aQ (by rw[adJ];exact(adK.1 a7).1)⟩
 refine .cY (a) G H y9 (λJ A=>?_)
 rw[<-ej a8 a7]at A
 refine .nil (Next.mod rfl ?_)
 refine RA.nil (by kernel_rfl) ?_
 refine aB<|.sr<|.mo rfl<|.ag rfl<|.az rfl ?_
 refine .ret (bm _ (.two (.tmp rfl) (.tmp rfl)) rH ?_)
 ·exact⟨_,rfl,cy zs N a,N,false,rfl,A,b1.step (by omega) (by omega) (by omega) (by omega) (by omega),V.fin c3 (by omega)⟩
end
end SST
namespace SST
section
variable{c:ByteArray->ByteArray->Int}{ok:ByteArray->Prop}
def oY(c:ByteArray->ByteArray->Int)(ok:ByteArray->Prop)(n:Nat):Prop:=∀(v:Value) (xs:List ByteArray) (T:ap) (a b mA:Nat) (R:aw),OS 9 1 cO v xs T->a<=b->b<=xs.length->xs.length<=1000000000->mA<=1000000000->gO c ok R->(∀x∈xs,ok x)->LB (aS c) xs a b->b-a<n->
  Spec prog 166 [v,.int .i64 a,.int .i64 b,.int .i64 mA] R [T] λu H'=>∃T',H'=[T']/\u=.tuple #[]/\∃ys,OS 9 1 cO v ys T'/\RP a b xs ys/\SR (aS c) ys a b
theorem tV(n:Nat)(ih:oY c ok n)(C:SO (aS c))(v:Value)(xs:List ByteArray)(T:ap)(s m c4:Nat)(R:aw)(h:OS 9 1 cO v xs T)(d2:s<=m)(hb:m<=xs.length)(hl:xs.length<=1000000000)(d7:c4<=1000000000)(B:gO c ok R)(d9:∀x∈xs,ok x)(d5:LB (aS c) xs s m)(hn:m-s<n+1):
  Spec prog 166 [v,.int .i64 s,.int .i64 m,.int .i64 c4] R [T] λu H'=>∃T',H'=[T']/\u=.tuple #[]/\∃ys,OS 9 1 cO v ys T'/\RP s m xs ys/\SR (aS c) ys s m:=by
 have iv:=h.aC
 refine Spec.body func166 rfl results166 ntmps166 rfl<|.sr<|.ag rfl<|.z<|.az rfl<|.block<|.loop (X:=Nat×Nat×Nat×Bool×Bool×List ByteArray×ap) (λy=>(s<=y.1/\y.1<=y.2.1/\y.2.1<=m/\y.2.2.1<=1000000000)/\OS 9 1 cO v y.2.2.2.2.2.1 y.2.2.2.2.2.2/\RP s m xs y.2.2.2.2.2.1/\OX (aS c) y.2.2.2.2.2.1 s m y.1 y.2.1) (λy=>[(0,v),(1,iN y.1),(2,iN y.2.1),(3,iN y.2.2.1),(8,.bool y.2.2.2.1),(9,.bool y.2.2.2.2.1)]) (λy=>[y.2.2.2.2.2.2]) (λy=>y.2.1-y.1) (s,m,c4,true,true,xs,T) ⟨⟨adI _,d2,adI _,d7⟩,h,.refl _,.start⟩ kE.c.c.c.c.c.c rH ?_
 rintro⟨a,b,l,wb,wp,ys,T1⟩ ⟨⟨g,b3,i,d4⟩,a6,L,a4⟩
 simp only at g b3 i d4 a6 L a4⊢
 have e7:=L.length
 have b1:∀x∈ys,ok x:=λx E=>d9 x (L.perm.mem_iff.1 E)
 have c6:=a4.lb (d5.rp L) g i
 refine .block<|.sr<|.mo rfl<|.mo rfl<|.ia (b-a) .sub<|.ag rfl<|.zs<|.sr<|.mo rfl<|.q .leq<|.zn<|.cond rfl (λh1=>?_) λh1=>?_
 refine .sr<|.mo rfl<|.mo rfl<|.mo rfl<|.bQ (tg v ys T1 a b _ a6 b3 (by omega) (by omega) B b1 C) (λu T2 e=>?_)
 obtain⟨rfl,K,H,A,b9⟩:=e
 refine .zn<|.ret (ba (bF (dm (bF (bm _ .none rH ?_)))))
 ·exact⟨_,rfl,rfl,K,H,L.trans (A.mono g i (by omega)),(a4.rp A g i).mN b9⟩
 have f1:12<b-a:=by have:=bK h1;omega
 refine .kn<|.seq<|.sr<|.mo rfl<|.q .cr<|.zn<|.cond rfl (λh2=>?_) λh2=>?_
 refine .sr<|.mo rfl<|.mo rfl<|.mo rfl<|.bQ (tc v ys T1 a b _ a6 b3 (by omega) (by omega) B b1 C) (λu T2 e=>?_)
 obtain⟨rfl,K,H,A,b9⟩:=e
 refine .zn<|.ret (ba (bF (dm (bF (bm _ .none rH ?_)))))
 ·exact⟨_,rfl,rfl,K,H,L.trans (A.mono g i (by omega)),(a4.rp A g i).mN b9⟩
 have e6:0<l:=by
  have e5:¬((l:Int)=0):=by simpa using h2
  omega
 refine .kn<|.seq ?_
 refine bq.cut (X:=Nat×List ByteArray×ap) (λz=>z.1<=1000000000/\OS 9 1 cO v z.2.1 z.2.2/\RP a b ys z.2.1) (λz=>[(0,v),(1,iN a),(2,iN b),(3,iN z.1),(8,.bool wb),(9,.bool wp),(10,.int .i64 ((b-a:Nat):Int))]) (λz=>[z.2.2]) ?_ ?_
 refine .sr<|.mo rfl<|.q .not<|.zn<|.cond rfl (λh3=>?_) λh3=>?_
 refine .sr<|.mo rfl<|.mo rfl<|.mo rfl<|.bQ (sD v ys T1 a b _ a6 b3 (by omega) (by omega)) (λu T2 e=>?_)
 obtain⟨rfl,K,H,A⟩:=e
 refine .zn<|.region<|.mo rfl<|.ia (l-1) .sub<|.ag rfl<|.nil ?_
 ·exact aL (l-1,K,T2) ⟨by simp only;omega,H,A⟩ kE.c.c.c.c.c.c.c rH
 refine .skip ?_
 ·exact aL (l,ys,T1) ⟨by simp only;omega,a6,.refl _⟩ kE.c.c.c.c.c.c.c rH
 intro y hy
 obtain⟨F,K,T2⟩:=y
 obtain⟨J,H,A⟩:=hy
 simp only at J H A⊢
 have e8:=A.length
 have e0:∀x∈K,ok x:=λx E=>b1 x (A.perm.mem_iff.1 E)
 refine aB<|.sr<|.mo rfl<|.mo rfl<|.mo rfl<|.bj (choose_spec v K a b _ (H.rs λp Z=>.inr (by simpa using Z)) (by omega) (by omega) (by omega) (B.mono λb o hb=>.inl hb) e0) (λu e=>?_)
 obtain⟨pv,d3,rfl,e2,e3⟩:=e
 refine .mo rfl<|.q .extract<|.q .extract<|.ag rfl<|.ag rfl<|.zs ?_
 refine bq.cut (X:=Nat×Int×List ByteArray×ap) (λz=>(a<=z.1/\z.1<b)/\OS 9 1 cO v z.2.2.1 z.2.2.2/\RP a b ys z.2.2.1) (λz=>[(0,v),(1,iN a),(2,iN b),(3,iN F),(8,.bool wb),(9,.bool wp),(10,.int .i64 ((b-a:Nat):Int)),(11,iN z.1),(12,.int .i64 z.2.1)]) (λz=>[z.2.2.2]) ?_ ?_
 refine .sr<|.mo rfl<|.q .cr<|.zn<|.cond rfl (λh4=>?_) λh4=>?_
 refine .sr<|.mo rfl<|.mo rfl<|.mo rfl<|.bQ (ud v K T2 a b _ H (by omega) (by omega) (by omega)) (λu T3 e=>?_)
 obtain⟨rfl,ws,c8,c9⟩:=e
 refine .z<|.mo rfl<|.ia (b-1) .sub<|.mo rfl<|.mo rfl<|.ia (pv-a) .sub<|.ia ((b-1)-(pv-a)) .sub<|.az rfl<|.region<|.ag rfl<|.nil ?_
 ·exact aL ((b-1)-(pv-a),1,ws,T3) ⟨by simp only;omega,c8,A.trans c9⟩ kE.c.c.c.c.c.c.c.c.c rH
 refine .skip ?_
 ·exact aL (pv,d3,K,T2) ⟨⟨e2,e3⟩,H,A⟩ kE.c.c.c.c.c.c.c.c.c rH
 intro y hy
 obtain⟨q,f2,us,T4⟩:=y
 obtain⟨⟨b5,b6⟩,a7,I⟩:=hy
 simp only at b5 b6 a7 I⊢
 have e9:=I.length
 have e1:∀x∈us,ok x:=λx E=>b1 x (I.perm.mem_iff.1 E)
 refine aB<|.seq ?_
 refine bq.cut (X:=List ByteArray×ap) (λz=>OS 9 1 cO v z.1 z.2/\RP a b ys z.1) (λz=>[(0,v),(1,iN a),(2,iN b),(3,iN F),(8,.bool wb),(9,.bool wp),(10,.int .i64 ((b-a:Nat):Int)),(11,iN q)]) (λz=>[z.2]) ?_ ?_
 refine .sr<|.mo rfl<|.mo rfl<|.split (t:=62) rfl (λa5=>?_) (λa5=>?_)
 refine .gT a5<|.mo rfl<|.q (.bx a5)<|.mo rfl<|.split (t:=65) rfl (λO=>?_) (λO=>?_)
 refine .gT O<|.mo rfl<|.gT O<|.q .cr<|.q (.bx O)<|.zn<|.cond rfl (λh5=>?_) λh5=>?_
 refine .sr<|.mo rfl<|.mo rfl<|.mo rfl<|.bQ (tN v us T4 a b _ a7 (by omega) (by omega) (by omega) B e1 C (c6.rp I)) (λu T5 e=>?_)
 obtain⟨ms,mb,rfl,c5,b8,d0⟩:=e
 refine .zn<|.cond rfl (λh6=>?_) λh6=>?_
 refine .ret (qW (ba (bF (dm (bF (bm _ .none rH ?_))))))
 ·exact⟨_,rfl,rfl,ms,c5,L.trans ((I.trans b8).mono g i (by omega)),(a4.rp (I.trans b8) g i).mN (d0 (by assumption))⟩
 refine .skip ?_
 ·exact aL (ms,T5) ⟨c5,I.trans b8⟩ kE.c.c.c.c.c.c.c.c rH
 refine .skip ?_
 ·exact aL (us,T4) ⟨a7,I⟩ kE.c.c.c.c.c.c.c.c rH
 refine .gF O<|.gF O<|.q (.bs O)<|.zn<|.di<|.skip ?_
 ·exact aL (us,T4) ⟨a7,I⟩ kE.c.c.c.c.c.c.c.c rH
 refine .gF a5<|.q (.bs a5)<|.mo rfl<|.gX<|.gX<|.q .dG<|.zn<|.di<|.skip ?_
 ·exact aL (us,T4) ⟨a7,I⟩ kE.c.c.c.c.c.c.c.c rH
 intro y hy
 obtain⟨a1,T6⟩:=y
 obtain⟨a2,a3⟩:=hy
 simp only at a2 a3⊢
 have f0:=a3.length
 have Y:∀x∈a1,ok x:=λx E=>b1 x (a3.perm.mem_iff.1 E)
 have b7:RP s m xs a1:=L.trans (a3.mono g i (by omega))
 have c0:=a4.rp a3 g i
 have c1:=c6.rp a3
 obtain⟨p,Z⟩:∃x,a1[q]? =some x:=⟨_,aQ (by omega)⟩
 have f3:=Y p (aX Z)
 refine aB<|.seq<|.seq<|.dd 12 mixed (by kernel_rfl) ?_
 conv=>arg 6;dsimp only[List.take]
 refine .mo rfl<|.q .gtr<|.mo rfl<|.split (t:=75) rfl (λf=>?_) (λf=>?_)
 have d1:0<a:=by have:=bV f;omega
 obtain⟨w,hw⟩:∃x,a1[a-1]? =some x:=⟨_,aQ (by omega)⟩
 have f4:=Y w (aX hw)
 refine .gT f<|.mo rfl<|.gT f<|.mo rfl<|.gT f<|.ia (a-1) .sub<|.gT f ?_
 refine .aI (a-1) a2 hw (λf5=>?_)
 refine .gT f<|.lo rfl<|.gT f<|.mo rfl<|.gT f<|.mo rfl<|.gT f ?_
 refine .aI q a2 Z (λf6=>?_)
 refine .gT f<|.lo rfl<|.nil<|.gT f<|.bj (jh B w p _) (λu e=>?_)
 subst e
 refine .gT f<|.q .not<|.q (.bx f)<|.zn<|.cond rfl (λh7=>?_) λh7=>?_
 have d8:aS c w p=false:=by
  have c7:(!aS c w p)=true:=h7
  simpa using c7
 refine .sr<|.mo rfl<|.mo rfl<|.mo rfl<|.mo rfl<|.bQ (tL v a1 T6 a b q p _ a2 (by omega) ⟨b5,b6⟩ Z (by omega) (by omega) B Y C (c1.yp C d1 hw d8)) (λu M e=>?_)
 obtain⟨G,j,rfl,Q,r,k⟩:=e
 have b4:=k.lo
 have c3:=k.hi
 refine .ag rfl<|.z<|.mo rfl<|.az rfl<|.exit<|br<|bw ?_
 ·exact bu (j,b,F,_,_,G,M) ⟨⟨by simp only;omega,c3,i,J⟩,Q,b7.trans (r.mono g i (by omega)),(c0.rp r g i).wj C k⟩ (by simp only;omega) ((((((kE.d rfl).d rfl).d rfl).d rfl).d rfl).d rfl) rH
 refine .kn<|.sr<|.mo rfl<|.mo rfl<|.mo rfl<|.mo rfl<|.bQ (pJ v a1 T6 a b q p _ a2 (by omega) ⟨b5,b6⟩ Z (by omega) (by omega) B Y C) (λu M e=>?_)
 obtain⟨G,j,e4,rfl,Q,r,k⟩:=e
 have b4:=k.lo
 have c3:=k.hi
 have d6:=r.length
 have b2:∀x∈G,ok x:=λx E=>Y x (r.perm.mem_iff.1 E)
 have a9:=c0.rp r g i
 have a8:RP s m xs G:=b7.trans (r.mono g i (by omega))
 have c2:=c1.rp r
 refine .mo rfl<|.q .extract<|.q .extract<|.ag rfl<|.ag rfl<|.z<|.mo rfl<|.ag rfl<|.z<|.mo rfl<|.mo rfl<|.ia (j-a) .sub<|.mo rfl<|.mo rfl<|.ia (b-j) .sub<|.ag rfl<|.ag rfl<|.z<|.mo rfl<|.q (.i64 (((b-a)/8:Nat):Int) .quo ⟨by rw[adN (by omega)];omega,by omega,by omega⟩)<|.ag rfl<|.z<|.mo rfl<|.mo rfl<|.q .lss<|.zn<|.cond rfl (λh8=>?_) λh8=>?_
 refine .sr<|.mo rfl<|.mo rfl<|.q .geq<|.ag rfl<|.z<|.mo rfl<|.mo rfl<|.mo rfl<|.mo rfl<|.bQ (ih v G M a j F _ Q (by omega) (by omega) (by omega) J B b2 (c2.less (by omega)) (by omega)) (λu N e=>?_)
 obtain⟨rfl,rs,S,D,V⟩:=e
 have W:=a9.left C k D V g i (by omega)
 have U:=a8.trans (D.mono g (by omega) (by omega))
 refine .zn<|.region<|.mo rfl<|.ia (j+1) .add<|.ag rfl<|.nil<|bg ?_
 ·exact bu (j+1,b,F,_,_,rs,N) ⟨⟨by simp only;omega,by simp only;omega,by simp only;omega,J⟩,S,U,W⟩ (by simp only;omega) ((((((kE.d rfl).d rfl).d rfl).d rfl).d rfl).d rfl) rH
 refine .sr<|.mo rfl<|.mo rfl<|.q .geq<|.ag rfl<|.z<|.mo rfl<|.mo rfl<|.ia (j+1) .add<|.mo rfl<|.mo rfl<|.bQ (ih v G M (j+1) b F _ Q (by omega) (by omega) (by omega) J B b2 k.lb (by omega)) (λu N e=>?_)
 obtain⟨rfl,rs,S,D,V⟩:=e
 have W:=a9.right C k D V g i (by omega)
 have U:=a8.trans (D.mono (by omega) i (by omega))
 refine .zn<|.region<|.mo rfl<|.ag rfl<|.nil<|bg ?_
 ·exact bu (a,j,F,_,_,rs,N) ⟨⟨g,b4,by simp only;omega,J⟩,S,U,W⟩ (by simp only;omega) ((((((kE.d rfl).d rfl).d rfl).d rfl).d rfl).d rfl) rH
 refine .gF f<|.gF f<|.gF f<|.gF f<|.gF f<|.gF f<|.gF f<|.gF f<|.gF f<|.nil<|.gF f<|.gF f<|.q (.bs f)<|.zn<|.di<|.kn<|.sr<|.mo rfl<|.mo rfl<|.mo rfl<|.mo rfl<|.bQ (pJ v a1 T6 a b q p _ a2 (by omega) ⟨b5,b6⟩ Z (by omega) (by omega) B Y C) (λu M e=>?_)
 obtain⟨G,j,e4,rfl,Q,r,k⟩:=e
 have b4:=k.lo
 have c3:=k.hi
 have d6:=r.length
 have b2:∀x∈G,ok x:=λx E=>Y x (r.perm.mem_iff.1 E)
 have a9:=c0.rp r g i
 have a8:RP s m xs G:=b7.trans (r.mono g i (by omega))
 have c2:=c1.rp r
 refine .mo rfl<|.q .extract<|.q .extract<|.ag rfl<|.ag rfl<|.z<|.mo rfl<|.ag rfl<|.z<|.mo rfl<|.mo rfl<|.ia (j-a) .sub<|.mo rfl<|.mo rfl<|.ia (b-j) .sub<|.ag rfl<|.ag rfl<|.z<|.mo rfl<|.q (.i64 (((b-a)/8:Nat):Int) .quo ⟨by rw[adN (by omega)];omega,by omega,by omega⟩)<|.ag rfl<|.z<|.mo rfl<|.mo rfl<|.q .lss<|.zn<|.cond rfl (λh8=>?_) λh8=>?_
 refine .sr<|.mo rfl<|.mo rfl<|.q .geq<|.ag rfl<|.z<|.mo rfl<|.mo rfl<|.mo rfl<|.mo rfl<|.bQ (ih v G M a j F _ Q (by omega) (by omega) (by omega) J B b2 (c2.less (by omega)) (by omega)) (λu N e=>?_)
 obtain⟨rfl,rs,S,D,V⟩:=e
 have W:=a9.left C k D V g i (by omega)
 have U:=a8.trans (D.mono g (by omega) (by omega))
 refine .zn<|.region<|.mo rfl<|.ia (j+1) .add<|.ag rfl<|.nil<|bg ?_
 ·exact bu (j+1,b,F,_,_,rs,N) ⟨⟨by simp only;omega,by simp only;omega,by simp only;omega,J⟩,S,U,W⟩ (by simp only;omega) ((((((kE.d rfl).d rfl).d rfl).d rfl).d rfl).d rfl) rH
 refine .sr<|.mo rfl<|.mo rfl<|.q .geq<|.ag rfl<|.z<|.mo rfl<|.mo rfl<|.ia (j+1) .add<|.mo rfl<|.mo rfl<|.bQ (ih v G M (j+1) b F _ Q (by omega) (by omega) (by omega) J B b2 k.lb (by omega)) (λu N e=>?_)
 obtain⟨rfl,rs,S,D,V⟩:=e
 have W:=a9.right C k D V g i (by omega)
 have U:=a8.trans (D.mono (by omega) i (by omega))
 refine .zn<|.region<|.mo rfl<|.ag rfl<|.nil<|bg ?_
 ·exact bu (a,j,F,_,_,rs,N) ⟨⟨g,b4,by simp only;omega,J⟩,S,U,W⟩ (by simp only;omega) ((((((kE.d rfl).d rfl).d rfl).d rfl).d rfl).d rfl) rH
theorem tU(p:SO (aS c))(n:Nat):oY c ok n:=by
 induction n with
 |zero=>exact λv e T a b d R _ _ _ _ _ _ _ _ q=>by omega
 |succ n ih=>exact λv e T a b d R f g h i j k l m o=>tV n ih p v e T a b d R f g h i j k l m o
end
end SST
namespace SST
section
variable{c:ByteArray->ByteArray->Int}{ok:ByteArray->Prop}
theorem uz(v:Value)(xs:List ByteArray)(T:ap)(R:aw)(h:OS 9 1 cO v xs T)(j:xs.length<=1000000000)(i:gO c ok R)(k:∀x∈xs,ok x)(l:SO (aS c)):
  Spec prog 102 [v] R [T] λu H'=>∃T',H'=[T']/\u=.tuple #[]/\∃ys,OS 9 1 cO v ys T'/\ys.Perm xs/\SR (aS c) ys 0 ys.length:=by
 have g:Lib.bitLen xs.length<=1000000000:=by
  have o:=bitLen_le 64 xs.length
  have n:Lib.bitLen xs.length=Lib.bitLenAux 64 xs.length:=rfl
  omega
 refine Spec.body func102 rfl results102 ntmps102 rfl<|.sr<|.mo rfl<|.q (.fz h)<|.az rfl<|.region<|.mo rfl<|.mo rfl<|.mo rfl<|.q (bd.cast (v':=.int .u64 ((xs.length:Nat):Int)) .m4 (by rw[nS (by omega) (by omega)]))<|.bj (tm xs.length (by omega) _) (λu a=>?_)
 subst a
 refine .bQ (tU l (xs.length+1) v xs T 0 xs.length (Lib.bitLen xs.length) _ h (Nat.zero_le _) (adI _) j g i k (λd=>absurd d (by omega)) (by omega)) (λu m a=>?_)
 obtain⟨rfl,ys,e,b,f⟩:=a
 refine .nil<|fg _ .none rH ?_
 ·exact⟨_,rfl,rfl,ys,e,b.perm,b.length▸f⟩
end
end SST
end Go.Proofs.YtdljmchhecoakaaGreat
