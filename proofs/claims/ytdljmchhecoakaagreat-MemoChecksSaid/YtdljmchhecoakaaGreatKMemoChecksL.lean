/- What the law 'MemoChecks' uses. No condition. -/
import Derived.Test.YtdljmchhecoakaaGreatKMemoChecksB
import Derived.Test.YtdljmchhecoakaaGreatKMemoChecksF
import Derived.Test.YtdljmchhecoakaaGreatKMemoChecksH
import Derived.Test.YtdljmchhecoakaaGreatKMemoChecksI
import Derived.Test.YtdljmchhecoakaaGreatKMemoChecksK
namespace Go.Proofs.YtdljmchhecoakaaGreat
set_option linter.defProp false
def aef:=@Nat.le_refl
def aeg:=@List.getElem?_eq_some_iff
def aeh:=@if_pos
def aei:=@List.length_set
def aej:=@if_neg
def aek:=@List.filter_cons
def ael:=@Int.tdiv_eq_ediv_of_nonneg
def aem:=@Nat.le_trans
def aen:=@List.length_filter_le
def aeo:=@List.length_drop
def aep:=@List.length_map
def aeq:=@List.filter_append
def aer:=@List.map_append
def aes:=@List.take_length
def aet:=@decide_eq_true_eq
def aeu:=@Bool.and_eq_true
def aev:=@List.take_add_one
open Tryz
set_option linter.unusedVariables false
set_option maxRecDepth 4000
theorem wZ:∀(f x:Nat),x<2^f->x≠0->2^Lib.bitLenAux f x<=2*x/\x<2^Lib.bitLenAux f x
 |0,x,h,h0=>by simp at h;omega
 |f+1,x,h,h0=>by
  unfold Lib.bitLenAux
  rw[aej h0]
  by_cases a:x/2=0
  ·have:x=1:=by omega
   subst this
   have:Lib.bitLenAux f (1/2)=0:=by cases f<;>simp[Lib.bitLenAux]
   rw[this];omega
  ·have b:=wZ f (x/2) (by rw[Nat.pow_succ]at h;omega) a
   rw[Nat.add_comm,Nat.pow_succ]
   omega
theorem bitLen_le:∀(f x:Nat),Lib.bitLenAux f x<=f
 |0,x=>by simp[Lib.bitLenAux]
 |f+1,x=>by
  unfold Lib.bitLenAux
  split
  ·omega
  ·have:=bitLen_le f (x/2);omega
theorem zf(n:Nat)(h:n<2^63)(R:aA):Spec prog 167 [.int .u64 n] R [] λv H'=>v=.int .i64 (Lib.bitLen n:Nat)/\H'=[]:=by
 have:=Spec.zJ (λw=>B8 (n:Int) w (by omega) (by omega)) R
 simpa using this
theorem NZ(n:Nat)(b:n≠0)(h:n<=1000000000)(R:aA):Spec prog 251 [.int .i64 n] R [] λv H'=>(∃m:Nat,v=.int .u64 m/\n<m/\m<=2*n)/\H'=[]:=by
 have a:=wZ 64 n (by omega) b
 have g:=bitLen_le 64 n
 refine Spec.body func251 rfl results251 ntmps251 rfl<|.sr<|.ag rfl<|.z<|.mo rfl<|.q (bq.cast (v':=.int .u64 (n:Nat)) .rD (by rw[qZ (by omega) (by omega)]))<|.aQ (zf n (by omega) _) (λv d=>?_)
 subst d
 refine .q (bq.cast (v':=.int .u64 ((2^Lib.bitLen n:Nat):Int)) (.vQ) (by
  have e:min ((Lib.bitLen n:Nat):Int).toNat IntKind.u64.bits=Lib.bitLen n:=by
   unfold Lib.bitLen;simp[IntKind.bits];omega
  rw[e,Int.one_mul,qZ]
  ·congr 1
  ·exact Int.le_of_lt (Int.pow_pos (by omega))
  ·have f:(2^Lib.bitLen n:Nat)<=2*n:=a.1
   have c:((2:Int)^Lib.bitLen n)=((2^Lib.bitLen n:Nat):Int):=by push_cast;rfl
   rw[c];omega)) ?_
 refine .az rfl<|.ret (aP rfl ?_)
 ·exact⟨⟨2^Lib.bitLen n,rfl,a.2,a.1⟩,rfl⟩
theorem Pb(b:Nat)(z:Int)(R:aA):Spec prog 252 [pT b] R [bl b [.int .u64 z] 385] λv H'=>∃T',H'=[T']/\∃z',v=.int .u64 z'/\T'=(bl b [.int .u64 z'] 385):=by
 refine Spec.body func252 rfl results252 ntmps252 rfl<|.sr<|.ag rfl<|.zs<|.dY 9 mixed (by kernel_rfl) ?_
 conv=>arg 6;dsimp only[List.take]
 refine .mo rfl<|.nc rfl<|.lo rfl<|.mo rfl<|.nc rfl<|.lo rfl<|.q .vQ<|.q .wj<|.nc rfl<|.nil<|.ek rfl rfl<|.zs<|.dY 9 mixed (by kernel_rfl) ?_
 conv=>arg 6;dsimp only[List.take]
 refine .mo rfl<|.nc rfl<|.lo rfl<|.mo rfl<|.nc rfl<|.lo rfl<|.q .Qd<|.q .wj<|.nc rfl<|.nil<|.ek rfl rfl<|.zs<|.dY 9 mixed (by kernel_rfl) ?_
 conv=>arg 6;dsimp only[List.take]
 refine .mo rfl<|.nc rfl<|.lo rfl<|.mo rfl<|.nc rfl<|.lo rfl<|.q .vQ<|.q .wj<|.nc rfl<|.nil<|.ek rfl rfl<|.z<|.mo rfl<|.nc rfl<|.lo rfl<|.az rfl<|.ret (br _ (.one (.tmp rfl)) rH ?_)
 ·exact⟨_,rfl,_,rfl,rfl⟩
namespace STP
section
variable{c:aw->aw->Int}{ok:aw->Prop}{f:FuncId}{caps:List Value} [e:aT prog f]
theorem MH(v:Value)(xs:List aw)(T:av)(a b:Nat)(R:aA)(h:OS 119 7 aw.enc v xs T)(a2:a<=b)(H:b<=xs.length)(hl:xs.length<=1000000000)(N:iQ prog f caps R (λt:aw=>Value.agg t.enc.toArray) c ok)(I:∀x∈xs,ok x)(D:SO (bW c)):
  Spec prog 233 [v,.int .i64 a,.int .i64 b,.func (.func f) #[] caps.toArray] R [T] λu H'=>∃T',H'=[T']/\u=.tuple #[]/\∃ys,OS 119 7 aw.enc v ys T'/\RP a b xs ys/\SR (bW c) ys a b:=by
 have iv:=h.ay
 refine Spec.body func233 rfl results233 ntmps233 rfl<|.sr<|.mo rfl<|.ia (a+1) .add<|.az rfl<|.block<|.loop (X:=Nat×List aw×av) (λy=>(a+1<=y.1/\(y.1<=b\/y.1=a+1))/\OS 119 7 aw.enc v y.2.1 y.2.2/\RP a b xs y.2.1/\SR (bW c) y.2.1 a y.1) (λy=>[(0,v),(1,iN a),(2,iN b),(3,.func (.func f) #[] caps.toArray),(8,iN y.1)]) (λy=>[y.2.2]) (λy=>b-y.1) (a+1,xs,T) ⟨⟨by simp only;omega,.inr rfl⟩,h,.refl _,λi j n p F=>by simp only at F;omega⟩ kE.c.c.c.c.c rH ?_
 rintro⟨i,ys,L⟩ ⟨⟨O,Q⟩,B,z,C⟩
 simp only at O Q B z C⊢
 have a5:=z.length
 refine .seq<|.sr<|.mo rfl<|.mo rfl<|.q .lss<|.zn<|.cond rfl (λn=>?_) λn=>?_
 have a4:i<b:=by simp at n;omega
 refine .kn<|.seq<|.block<|.sr<|.mo rfl<|.az rfl<|.block<|.loop (X:=Nat×List aw×av) (λy=>(a<=y.1/\y.1<=i)/\OS 119 7 aw.enc v y.2.1 y.2.2/\RP a b xs y.2.1/\my (bW c) y.2.1 a y.1 (i+1)) (λy=>[(0,v),(1,iN a),(2,iN b),(3,.func (.func f) #[] caps.toArray),(8,iN i),(9,iN y.1)]) (λy=>[y.2.2]) (λy=>y.1) (i,ys,L) ⟨⟨by simp only;omega,aef _⟩,B,z,C.ins⟩ kE.c.c.c.c.c.c rH ?_
 rintro⟨j,r,E⟩ ⟨⟨S,U⟩,e,m,s⟩
 simp only at S U e m s⊢
 have a6:=m.length
 refine .seq<|.seq<|.dY 14 mixed (by kernel_rfl) ?_
 conv=>arg 6;dsimp only[List.take]
 refine .mo rfl<|.mo rfl<|.q .gtr<|.mo rfl<|.split (t:=21) rfl (λd=>?_) (λd=>?_)
 have G:a<j:=by have:=cL d;omega
 obtain⟨x,g⟩:∃x,r[j]? =some x:=⟨_,bk (by omega)⟩
 obtain⟨y,l⟩:∃x,r[j-1]? =some x:=⟨_,bk (by omega)⟩
 have Z:=I x (m.perm.mem_iff.1 (aR g))
 have a0:=I y (m.perm.mem_iff.1 (aR l))
 refine .gT d<|.mo rfl<|.gT d<|.mo rfl<|.gT d<|.mo rfl<|.gT d ?_
 refine .bh j e g (λa7=>?_)
 refine .gT d<|.q (.aL rfl)<|.gT d<|.mo rfl<|.gT d<|.mo rfl<|.gT d<|.ia (j-1) .sub<|.gT d ?_
 refine .bh (j-1) e l (λa8=>?_)
 refine .gT d<|.q (.aL rfl)<|.nil<|.gT d<|.gx (first:=[]) (captured:=caps) (vs:=[(λt:aw=>Value.agg t.enc.toArray) x,(λt:aw=>Value.agg t.enc.toArray) y]) (N x y Z a0 _ (λb o H=>.inl H)) (λu A=>?_)
 subst A
 refine .gT d<|.q .lss<|.q (.aU d)<|.zn<|.cond rfl (λp=>?_) λp=>?_
 refine .kn<|.seq<|.block<|.dz [15,17] mixed<|.tO 0 rfl .move<|.tO 1 rfl .move<|.tK 2 rfl .move<|.tK 3 rfl .move<|.take 4 rfl (.i64 ((j-1:Nat):Int) .sub ⟨by omega,by omega,by omega⟩) (by kernel_rfl)<|.tO 5 rfl .move<|.tO 6 rfl .move<|.jw 7 rfl (.i64 ((j-1:Nat):Int) .sub ⟨by omega,by omega,by omega⟩) (by kernel_rfl) ?_
 refine RA.bh 8 rfl (j-1) e l rfl rfl rfl (by kernel_rfl) (λa9=>?_)
 refine .tO 9 rfl (.aL rfl)<|.tO 10 rfl .move<|.tO 11 rfl .move ?_
 refine RA.bh 12 rfl (j) e g rfl rfl rfl (by kernel_rfl) (λb0=>?_)
 refine .tO 13 rfl (.aL rfl) ?_
 refine RA.bh 14 rfl (j) e g rfl rfl rfl (by kernel_rfl) (λb1=>?_)
 refine .sT 15 rfl<|.eK (j) e g y (λa1 W=>?_) (e.one _ (aR l))
 refine .nil (Next.mod rfl ?_)
 refine RA.bh 16 rfl (j-1) e l rfl rfl rfl (by kernel_rfl) (λb2=>?_)
 refine .sT 17 rfl ?_
 obtain⟨zz,Y⟩:∃u,(r.set (j) y)[j-1]? =some u:=⟨_,bk (by rw[aei];exact(aeg.1 l).1)⟩
 refine .eK (j-1) W Y x (λM J=>?_) (e.one _ (aR g))
 rw[<-iX g l]at J
 refine .nil<|Next.mod rfl<|RA.nil (by kernel_rfl)<|ba<|au<|.region<|.mo rfl<|.ia (j-1) .sub<|.ag rfl<|.nil ?_
 ·have V:bW c x y=true:=p
  exact bp (j-1,dM r j (j-1),M) ⟨⟨by simp only;omega,by simp only;omega⟩,J,m.step (by omega) (by omega) (by omega) (by omega) (by omega),s.step D (by omega) (by omega) G g l V⟩ (by simp only;omega) kE.c.c.c.c.c.c rH
 refine .exit<|bD<|bG<|bE<|ba<|au<|.region<|.mo rfl<|.ia (i+1) .add<|.ag rfl<|.nil ?_
 ·refine bp (i+1,r,E) ⟨⟨by simp only;omega,.inl (by simp only;omega)⟩,e,m,s.done D (by omega) (by omega) ?_⟩ (by simp only;omega) kE.c.c.c.c.c rH
  exact .inr ⟨G,λu w A K=>by
   rw[l]at A;rw[g]at K;cases A;cases K;exact p⟩
 refine .gF d<|.gF d<|.gF d<|.gF d<|.gF d<|.gF d<|.gF d<|.gF d<|.gF d<|.gF d<|.nil<|.gF d<|.gF d<|.q (.aN d)<|.zn<|.dA<|.exit<|bD<|bG<|bE<|ba<|au<|.region<|.mo rfl<|.ia (i+1) .add<|.ag rfl<|.nil ?_
 ·refine bp (i+1,r,E) ⟨⟨by simp only;omega,.inl (by simp only;omega)⟩,e,m,s.done D (by omega) (by omega) ?_⟩ (by simp only;omega) kE.c.c.c.c.c rH
  exact .inl (by have:=bI d;omega)
 refine .exit<|bD<|bG<|bE<|gC _ .none rH ?_
 ·have a3:b<=i:=by simp at n;omega
  exact⟨_,rfl,rfl,ys,B,z,λj k n p F=>C j k n p (by omega)⟩
theorem AS(v:Value)(xs:List aw)(T:av)(lo k d:Nat)(R:aA)(h:OS 119 7 aw.enc v xs T)(b0:lo<=k)(S:d+k<=xs.length)(hl:xs.length<=1000000000)(hf:iQ prog f caps R (λt:aw=>Value.agg t.enc.toArray) c ok)(a2:∀x∈xs,ok x)(I:SO (bW c)):
    Spec prog 257 [v,.int .i64 lo,.int .i64 k,.int .i64 d,.func (.func f) #[] caps.toArray] R [T] λu H'=>∃T',H'=[T']/\u=.tuple #[]/\∃ys,OS 119 7 aw.enc v ys T'/\RP d (d+k) xs ys/\
      (lU (λx y=>bW c y x) (xs.drop d) k lo lo->lv (λx y=>bW c y x) (ys.drop d) k lo):=by
  have iv:=h.ay
  have a7:=I.rev
  refine Spec.body func257 rfl results257 ntmps257 rfl<|.sr<|.mo rfl<|.az rfl<|.block<|.loop (X:=Nat×List aw×av) (λy=>(lo<=y.1/\y.1<=k)/\OS 119 7 aw.enc v y.2.1 y.2.2/\RP d (d+k) xs y.2.1/\(lU (λx y=>bW c y x) (xs.drop d) k lo lo->lU (λx y=>bW c y x) (y.2.1.drop d) k lo y.1)) (λy=>[(0,v),(2,iN k),(3,iN d),(4,.func (.func f) #[] caps.toArray),(10,iN y.1)]) (λy=>[y.2.2]) (λy=>k-y.1) (lo,xs,T) ⟨⟨aef _,b0⟩,h,.refl _,λh=>h⟩ kE.c.c.c.c.c rH ?_
  rintro⟨r,ys,T1⟩ ⟨⟨a4,b2⟩,l,C,Q⟩
  simp only at a4 b2 l C Q⊢
  have c0:=C.length
  have b9:(ys.drop d).length=ys.length-d:=aeo
  refine .block<|.sr<|.mo rfl<|.ia (2*r) .mul<|.ia (2*r+1) .add<|.ag rfl<|.zs<|.sr<|.mo rfl<|.mo rfl<|.q .geq<|.zn<|.cond rfl (λM=>?_) λM=>?_
  have b7:k<=2*r+1:=by have:=cL M;omega
  refine .exit (bD (lX (bG (bE ?_))))
  refine gC _ .none rH ?_
  ·refine⟨_,rfl,rfl,ys,l,C,λO=>(Q O).stop λa E G m u w g hw=>?_⟩
   (simp only[cx]at m;omega)
  have L:2*r+1<k:=by have:=bI M;omega
  obtain⟨K,B⟩:∃y,ys[d+r]? =some y:=⟨_,bk (by omega)⟩
  obtain⟨p,n⟩:∃y,ys[d+(2*r+1)]? =some y:=⟨_,bk (by omega)⟩
  have b5:=a2 K (C.perm.mem_iff.1 (aR B))
  have H:=a2 p (C.perm.mem_iff.1 (aR n))
  refine .kn<|.seq ?_
  refine bu.cut (X:=Nat×aw) (λz=>0<z.1/\z.1<k/\cx z.1=r/\ys[d+z.1]? =some z.2/\ok z.2/\∀a u,0<a->a<k->cx a=r->ys[d+a]? =some u->bW c z.2 u=false) (λz=>[(0,v),(2,iN k),(3,iN d),(4,.func (.func f) #[] caps.toArray),(10,iN r),(11,iN z.1)]) (λz=>[T1]) ?_ ?_
  refine .seq<|.dY 19 mixed (by kernel_rfl) ?_
  conv=>arg 6;dsimp only[List.take]
  refine .mo rfl<|.ia (2*r+2) .add<|.mo rfl<|.q .lss<|.mo rfl<|.split (t:=23) rfl (λe=>?_) (λe=>?_)
  have Z:2*r+2<k:=by have:=cL e;omega
  obtain⟨J,A⟩:∃y,ys[d+(2*r+2)]? =some y:=⟨_,bk (by omega)⟩
  have U:=a2 J (C.perm.mem_iff.1 (aR A))
  refine .gT e<|.mo rfl<|.gT e<|.mo rfl<|.gT e<|.mo rfl<|.gT e<|.mo rfl<|.gT e<|.ia (d+(2*r+1)) .add<|.gT e ?_
  refine .bh (d+(2*r+1)) l n (λc1=>?_)
  refine .gT e<|.q (.aL rfl)<|.gT e<|.mo rfl<|.gT e<|.mo rfl<|.gT e<|.mo rfl<|.gT e<|.ia (d+(2*r+1)) .add<|.gT e<|.ia (d+(2*r+2)) .add<|.gT e ?_
  refine .bh (d+(2*r+2)) l A (λc2=>?_)
  refine .gT e<|.q (.aL rfl)<|.nil<|.gT e<|.gx (first:=[]) (captured:=caps) (vs:=[(λt:aw=>Value.agg t.enc.toArray) p,(λt:aw=>Value.agg t.enc.toArray) J]) (hf p J H U _ (λb o S=>.inl S)) (λu g=>?_)
  subst g
  refine .gT e<|.q .lss<|.q (.aU e)<|.zn<|.cond rfl (λF=>?_) λF=>?_
  have a1:∀a u,0<a->a<k->cx a=r->ys[d+a]? =some u->bW c J u=false:=λa u E G m g=>by
    have:a=2*r+1\/a=2*r+2:=by simp only[cx]at m;omega
    rcases this with rfl|rfl
    ·rw[n]at g;cases g;exact I.nS F
    ·rw[A]at g;cases g;exact I.jZ _
  refine .region<|.mo rfl<|.ia (2*r+2) .add<|.ag rfl<|.nil ?_
  ·first
      |exact aD (2*r+2,J) ⟨by simp only;omega,Z,by simp only[cx];omega,A,U,a1⟩ kE.c.c.c.c.c.c rH
      |exact aD (2*r+1,p) ⟨by simp only;omega,L,by simp only[cx];omega,n,H,s⟩ kE.c.c.c.c.c.c rH
      |(have s:∀a u,0<a->a<k->cx a=r->ys[d+a]? =some u->bW c p u=false:=λa u E G m g=>by
           have:a=2*r+1\/a=2*r+2:=by simp only[cx]at m;omega
           rcases this with rfl|rfl
           ·rw[n]at g;cases g;exact I.jZ _
           ·rw[A]at g;cases g;exact F
        exact aD (2*r+1,p) ⟨by simp only;omega,L,by simp only[cx];omega,n,H,s⟩ kE.c.c.c.c.c.c rH)
  refine .skip ?_
  ·first
      |exact aD (2*r+2,J) ⟨by simp only;omega,Z,by simp only[cx];omega,A,U,a1⟩ kE.c.c.c.c.c.c rH
      |exact aD (2*r+1,p) ⟨by simp only;omega,L,by simp only[cx];omega,n,H,s⟩ kE.c.c.c.c.c.c rH
      |(have s:∀a u,0<a->a<k->cx a=r->ys[d+a]? =some u->bW c p u=false:=λa u E G m g=>by
           have:a=2*r+1\/a=2*r+2:=by simp only[cx]at m;omega
           rcases this with rfl|rfl
           ·rw[n]at g;cases g;exact I.jZ _
           ·rw[A]at g;cases g;exact F
        exact aD (2*r+1,p) ⟨by simp only;omega,L,by simp only[cx];omega,n,H,s⟩ kE.c.c.c.c.c.c rH)
  have s:∀a u,0<a->a<k->cx a=r->ys[d+a]? =some u->bW c p u=false:=λa u E G m g=>by
    have:a=2*r+1:=by have:=bI e;simp only[cx]at m;omega
    subst this
    rw[n]at g;cases g;exact I.jZ _
  refine .gF e<|.gF e<|.gF e<|.gF e<|.gF e<|.gF e<|.gF e<|.gF e<|.gF e<|.gF e<|.gF e<|.gF e<|.gF e<|.gF e<|.nil<|.gF e<|.gF e<|.q (.aN e)<|.zn<|.dA<|.skip ?_
  ·first
      |exact aD (2*r+2,J) ⟨by simp only;omega,Z,by simp only[cx];omega,A,U,a1⟩ kE.c.c.c.c.c.c rH
      |exact aD (2*r+1,p) ⟨by simp only;omega,L,by simp only[cx];omega,n,H,s⟩ kE.c.c.c.c.c.c rH
      |(have s:∀a u,0<a->a<k->cx a=r->ys[d+a]? =some u->bW c p u=false:=λa u E G m g=>by
           have:a=2*r+1\/a=2*r+2:=by simp only[cx]at m;omega
           rcases this with rfl|rfl
           ·rw[n]at g;cases g;exact I.jZ _
           ·rw[A]at g;cases g;exact F
        exact aD (2*r+1,p) ⟨by simp only;omega,L,by simp only[cx];omega,n,H,s⟩ kE.c.c.c.c.c.c rH)
  intro y hy
  obtain⟨j,x⟩:=y
  obtain⟨W,a3,Y,D,a6,a0⟩:=hy
  simp only at W a3 Y D a6 a0⊢
  have b8:r<j:=Y▸fO W
  refine au<|.seq<|.seq<|.dY 13 mixed (by kernel_rfl) ?_
  conv=>arg 6;dsimp only[List.take]
  refine .mo rfl<|.mo rfl<|.mo rfl<|.mo rfl<|.ia (d+r) .add ?_
  refine .bh (d+r) l B (λc3=>?_)
  refine .q (.aL rfl)<|.mo rfl<|.mo rfl<|.mo rfl<|.ia (d+j) .add ?_
  refine .bh (d+j) l D (λc4=>?_)
  refine .q (.aL rfl)<|.nil<|.gx (first:=[]) (captured:=caps) (vs:=[(λt:aw=>Value.agg t.enc.toArray) K,(λt:aw=>Value.agg t.enc.toArray) x]) (hf K x b5 a6 _ (λb o S=>.inl S)) (λu g=>?_)
  subst g
  refine .q .lss<|.q .not<|.zn<|.cond rfl (λN=>?_) λN=>?_
  refine .ret (aJ (bA (cW (bA (br _ .none rH ?_)))))
  ·refine⟨_,rfl,rfl,ys,l,C,λO=>(Q O).stop λa E G m u w g hw=>?_⟩
   (rw[lZ]at g hw
    rw[B]at g;cases g
    have V:(!bW c K x)=true:=N
    exact a7.la _ _ _ (a0 a w E G m hw) (by simpa using V))
  refine .kn<|.seq<|.dz [21,23] mixed<|.tO 0 rfl .move<|.tO 1 rfl .move<|.tO 2 rfl .move<|.jw 3 rfl (.i64 ((d+r:Nat):Int) .add ⟨by omega,by omega,by omega⟩) (by kernel_rfl)<|.tK 4 rfl .move<|.tK 5 rfl .move<|.tK 6 rfl .move<|.take 7 rfl (.i64 ((d+j:Nat):Int) .add ⟨by omega,by omega,by omega⟩) (by kernel_rfl)<|.tO 8 rfl .move<|.tO 9 rfl .move<|.tO 10 rfl .move<|.jw 11 rfl (.i64 ((d+j:Nat):Int) .add ⟨by omega,by omega,by omega⟩) (by kernel_rfl) ?_
  refine RA.bh 12 rfl (d+j) l D rfl rfl rfl (by kernel_rfl) (λc5=>?_)
  refine .tO 13 rfl (.aL rfl)<|.tO 14 rfl .move<|.tO 15 rfl .move<|.tO 16 rfl .move<|.jw 17 rfl (.i64 ((d+r:Nat):Int) .add ⟨by omega,by omega,by omega⟩) (by kernel_rfl) ?_
  refine RA.bh 18 rfl (d+r) l B rfl rfl rfl (by kernel_rfl) (λc6=>?_)
  refine .tO 19 rfl (.aL rfl) ?_
  refine RA.bh 20 rfl (d+r) l B rfl rfl rfl (by kernel_rfl) (λc7=>?_)
  refine .sT 21 rfl<|.eK (d+r) l B x (λb6 b3=>?_) (l.one _ (aR D))
  refine .nil (Next.mod rfl ?_)
  refine RA.bh 22 rfl (d+j) l D rfl rfl rfl (by kernel_rfl) (λc8=>?_)
  refine .sT 23 rfl ?_
  obtain⟨zz,b4⟩:∃u,(ys.set (d+r) x)[d+j]? =some u:=⟨_,bk (by rw[aei];exact(aeg.1 D).1)⟩
  refine .eK (d+j) b3 b4 K (λa8 a5=>?_) (l.one _ (aR B))
  rw[<-iX B D]at a5
  refine .nil<|Next.mod rfl<|RA.nil (by kernel_rfl)<|au<|.region<|.mo rfl<|.ag rfl<|.nil<|ba ?_
  ·have b1:bW c K x=true:=by
      have V:(!bW c K x)=false:=N
      simpa using V
   have a9:=xD (xs:=ys) (f:=d) (i:=r) (j:=j) (by omega) (by omega)
   exact bp (j,dM ys (d+r) (d+j),a8) ⟨⟨by simp only;omega,by simp only;omega⟩,a5,C.step (by omega) (by omega) (by omega) (by omega) (by omega),λO=>by
     simp only
     rw[a9]
     exact(Q O).step a7 a4 W a3 (by omega) Y (by rw[lZ];exact D) (by rw[lZ];exact B) b1 λa z M F N h4=>a0 a z M F N (by rw[<-lZ];exact h4)⟩ (by simp only;omega) kE.c.c.c.c.c rH
end
end STP
namespace STP
section
variable{c:aw->aw->Int}{ok:aw->Prop}{f:FuncId}{caps:List Value} [e:aT prog f]
theorem My(v:Value)(xs:List aw)(T:av)(a b:Nat)(R:aA)(h:OS 119 7 aw.enc v xs T)(a8:a<=b)(hb:b<=xs.length)(hl:xs.length<=1000000000)(M:iQ prog f caps R (λt:aw=>Value.agg t.enc.toArray) c ok)(N:∀x∈xs,ok x)(G:SO (bW c)):
  Spec prog 234 [v,.int .i64 a,.int .i64 b,.func (.func f) #[] caps.toArray] R [T] λu H'=>∃T',H'=[T']/\u=.tuple #[]/\∃ys,OS 119 7 aw.enc v ys T'/\RP a b xs ys/\SR (bW c) ys a b:=by
 have a6:=G.rev
 obtain⟨n,hn⟩:∃n,b=a+n:=⟨b-a,by omega⟩
 subst hn
 refine Spec.body func234 rfl results234 ntmps234 rfl<|.sr<|.mo rfl<|.ag rfl<|.z<|.ag rfl<|.z<|.mo rfl<|.mo rfl<|.ia (n) .sub<|.ag rfl<|.zs<|.sr<|.mo rfl<|.q (.i64 ((n:Int)-1) .sub ⟨rfl,by omega,by omega⟩)<|.q (.i64 (((n-1)/2:Nat):Int) .quo ⟨Bd,by omega,by omega⟩)<|.az rfl<|.block<|.loop (X:=Nat×Int×List aw×av) (λy=>(y.2.1=(y.1:Int)-1/\y.1<=n+1)/\OS 119 7 aw.enc v y.2.2.1 y.2.2.2/\RP a (a+n) xs y.2.2.1/\lv (λx y=>bW c y x) (y.2.2.1.drop a) n y.1) (λy=>[(0,v),(3,.func (.func f) #[] caps.toArray),(8,iN a),(9,.int .i64 ((0:Nat):Int)),(10,iN n),(11,.int .i64 y.2.1)]) (λy=>[y.2.2.2]) (λy=>y.1) ((n-1)/2+1,(((n-1)/2:Nat):Int),xs,T) ⟨⟨by simp only;omega,by simp only;omega⟩,h,.refl _,λk V hk hp=>by simp only[cx]at hp;omega⟩ kE.c.c.c.c.c.c rH ?_
 rintro⟨m,z,ys,H⟩ ⟨⟨hz,hm⟩,C,r,B⟩
 simp only at hz hm C r B⊢
 have a9:=r.length
 refine .seq<|.sr<|.mo rfl<|.q .geq<|.zn<|.cond rfl (λo=>?_) λo=>?_
 have a3:0<=z:=cL o
 obtain⟨k,rfl⟩:∃k,m=k+1:=⟨m-1,by omega⟩
 obtain rfl:z=(k:Int):=by omega
 refine .kn<|.seq<|.block<|.region<|.mo rfl<|.mo rfl<|.mo rfl<|.mo rfl<|.mo rfl<|.dT (AS (c:=c) (ok:=ok) v ys H k n a _ C (by omega) (by omega) (by omega) M (λx e=>N x (r.perm.mem_iff.1 e)) G) (λu I F=>?_)
 obtain⟨rfl,g,d,l,p⟩:=F
 refine .nil<|ba<|au<|.region<|.mo rfl<|.q (.i64 ((k:Int)-1) .sub ⟨rfl,by omega,by omega⟩)<|.ag rfl<|.nil ?_
 ·exact bp (k,(k:Int)-1,g,I) ⟨⟨rfl,by simp only;omega⟩,d,r.trans l,p B.hole⟩ (by simp only;omega) kE.c.c.c.c.c.c rH
 have E:m=0:=by have:=bI o;omega
 subst E
 refine .exit<|bD<|bG<|bE<|au<|.sr<|.mo rfl<|.q (.i64 ((n:Int)-1) .sub ⟨rfl,by omega,by omega⟩)<|.az rfl<|.block<|.loop (X:=Nat×Int×List aw×av) (λy=>(y.2.1=(y.1:Int)-1/\y.1<=n)/\OS 119 7 aw.enc v y.2.2.1 y.2.2.2/\RP a (a+n) xs y.2.2.1/\lv (λx y=>bW c y x) (y.2.2.1.drop a) y.1 0/\OX (bW c) y.2.2.1 a (a+n) a (a+y.1)) (λy=>[(0,v),(3,.func (.func f) #[] caps.toArray),(8,iN a),(9,.int .i64 ((0:Nat):Int)),(10,iN n),(12,.int .i64 y.2.1)]) (λy=>[y.2.2.2]) (λy=>y.1) (n,(n:Int)-1,ys,H) ⟨⟨rfl,aef _⟩,C,r,B,OX.start⟩ kE.c.c.c.c.c.c rH ?_
 rintro⟨m,Q,g,I⟩ ⟨⟨a4,a1⟩,d,l,p,D⟩
 simp only at a4 a1 d l p D⊢
 have b0:=l.length
 refine .seq<|.sr<|.mo rfl<|.q .geq<|.zn<|.cond rfl (λA=>?_) λA=>?_
 have a3:0<=Q:=cL A
 obtain⟨k,rfl⟩:∃k,m=k+1:=⟨m-1,by omega⟩
 obtain rfl:Q=(k:Int):=by omega
 obtain⟨x,e⟩:∃x,g[a]? =some x:=⟨_,bk (by omega)⟩
 obtain⟨y,s⟩:∃x,g[a+k]? =some x:=⟨_,bk (by omega)⟩
 refine .kn<|.seq<|.block<|.seq<|.dz [17,19] mixed<|.tO 0 rfl .move<|.tO 1 rfl .move<|.tK 2 rfl .move<|.tK 3 rfl .move<|.tK 4 rfl .move<|.take 5 rfl (.i64 ((a+k:Nat):Int) .add ⟨by omega,by omega,by omega⟩) (by kernel_rfl)<|.tO 6 rfl .move<|.tO 7 rfl .move<|.tO 8 rfl .move<|.jw 9 rfl (.i64 ((a+k:Nat):Int) .add ⟨by omega,by omega,by omega⟩) (by kernel_rfl) ?_
 refine RA.bh 10 rfl (a+k) d s rfl rfl rfl (by kernel_rfl) (λb1=>?_)
 refine .tO 11 rfl (.aL rfl)<|.tO 12 rfl .move<|.tO 13 rfl .move ?_
 refine RA.bh 14 rfl (a) d e rfl rfl rfl (by kernel_rfl) (λb2=>?_)
 refine .tO 15 rfl (.aL rfl) ?_
 refine RA.bh 16 rfl (a) d e rfl rfl rfl (by kernel_rfl) (λb3=>?_)
 refine .sT 17 rfl<|.eK (a) d e y (λa7 a2=>?_) (d.one _ (aR s))
 refine .nil (Next.mod rfl ?_)
 refine RA.bh 18 rfl (a+k) d s rfl rfl rfl (by kernel_rfl) (λb4=>?_)
 refine .sT 19 rfl ?_
 obtain⟨zz,a5⟩:∃u,(g.set (a) y)[a+k]? =some u:=⟨_,bk (by rw[aei];exact(aeg.1 s).1)⟩
 refine .eK (a+k) a2 a5 x (λU O=>?_) (d.one _ (aR e))
 rw[<-iX e s]at O
 refine .nil<|Next.mod rfl<|RA.nil (by kernel_rfl)<|au<|.region<|.mo rfl<|.mo rfl<|.mo rfl<|.mo rfl<|.mo rfl ?_
 have L:=xD (xs:=g) (f:=a) (i:=0) (j:=k) (by omega) (by omega)
 have J:=l.step (i:=a) (j:=a+k) (by omega) (by omega) (by omega) (by omega) (by omega)
 have a0:=OX.last (m:=a+k) (x:=x) D (by omega) (by omega) (by omega) e (λj w o W hw=>lv.top a6 p (by rw[aeo];omega) (x:=x) (by rw[lZ];exact e) (j-a) w (by omega) (by rw[lZ,show a+(j-a)=j by omega];exact hw))
 refine .dT (AS (c:=c) (ok:=ok) v (dM g a (a+k)) U 0 k a _ O (by omega) (by rw[oE];omega) (by rw[oE];omega) M (λx e=>N x (J.perm.mem_iff.1 e)) G) (λu S F=>?_)
 obtain⟨rfl,ws,Z,K,Y⟩:=F
 refine .nil<|ba<|au<|.region<|.mo rfl<|.q (.i64 ((k:Int)-1) .sub ⟨rfl,by omega,by omega⟩)<|.ag rfl<|.nil ?_
 ·exact bp (k,(k:Int)-1,ws,S) ⟨⟨rfl,by simp only;omega⟩,Z,J.trans (K.mono (aef a) (by omega) (by rw[oE];omega)),Y (p.MB λj V hj=>by
   rw[Nat.add_zero]at L
   rw[L,gE (by rw[aeo];omega) (by rw[aeo];omega),aej (by omega),aej (by omega)]),a0.rp K (aef _) (by omega)⟩ (by simp only;omega) kE.c.c.c.c.c.c rH
 refine .exit<|bD<|bG<|bE<|gC _ .none rH ?_
 ·have E:m=0:=by have:=bI A;omega
  subst E
  exact⟨_,rfl,rfl,g,d,l,D.sW λi j o A W=>by omega⟩
theorem OQ(v:Value)(xs:List aw)(T:av)(a b:Nat)(R:aA)(k:Value)(D:One k)(h:OS 119 7 aw.enc v xs T)(B:a<b)(C:b<=xs.length)(E:xs.length<=1000000000):
  Spec prog 237 [v,.int .i64 a,.int .i64 b,k] R [T] λu H'=>∃T',H'=[T']/\u=.tuple #[]/\∃ys,OS 119 7 aw.enc v ys T'/\RP a b xs ys:=by
 refine Spec.body func237 rfl results237 ntmps237 rfl<|.sr<|.mo rfl<|.ag rfl<|.z<|.mo rfl<|.ia (b-1) .sub<|.az rfl<|.block<|.loop (X:=Nat×Nat×List aw×av) (λy=>(a<=y.1/\y.1<=y.2.1+1/\y.2.1<b)/\OS 119 7 aw.enc v y.2.2.1 y.2.2.2/\RP a b xs y.2.2.1) (λy=>[(0,v),(8,iN y.1),(9,iN y.2.1)]) (λy=>[y.2.2.2]) (λy=>b-y.1) (a,b-1,xs,T) ⟨⟨aef _,by simp only;omega,by simp only;omega⟩,h,.refl _⟩ kE.c.c.c rH ?_
 rintro⟨i,j,ys,w⟩ ⟨⟨o,p,r⟩,d,g⟩
 simp only at o p r d g⊢
 have F:=g.length
 refine .seq<|.sr<|.mo rfl<|.mo rfl<|.q .lss<|.zn<|.cond rfl (λl=>?_) λl=>?_
 have G:i<j:=cK l
 obtain⟨x,e⟩:∃x,ys[i]? =some x:=⟨_,bk (by omega)⟩
 obtain⟨y,f⟩:∃x,ys[j]? =some x:=⟨_,bk (by omega)⟩
 refine .kn<|.block<|.seq<|.dz [13,15] mixed<|.tO 0 rfl .move<|.tO 1 rfl .move<|.tK 2 rfl .move<|.tK 3 rfl .move<|.tO 4 rfl .move<|.tO 5 rfl .move ?_
 refine RA.bh 6 rfl (j) d f rfl rfl rfl (by kernel_rfl) (λH=>?_)
 refine .tO 7 rfl (.aL rfl)<|.tO 8 rfl .move<|.tO 9 rfl .move ?_
 refine RA.bh 10 rfl (i) d e rfl rfl rfl (by kernel_rfl) (λI=>?_)
 refine .tO 11 rfl (.aL rfl) ?_
 refine RA.bh 12 rfl (i) d e rfl rfl rfl (by kernel_rfl) (λJ=>?_)
 refine .sT 13 rfl<|.eK (i) d e y (λA s=>?_) (d.one _ (aR f))
 refine .nil (Next.mod rfl ?_)
 refine RA.bh 14 rfl (j) d f rfl rfl rfl (by kernel_rfl) (λK=>?_)
 refine .sT 15 rfl ?_
 obtain⟨L,t⟩:∃u,(ys.set (i) y)[j]? =some u:=⟨_,bk (by rw[aei];exact(aeg.1 f).1)⟩
 refine .eK (j) s t x (λn m=>?_) (d.one _ (aR e))
 rw[<-iX e f]at m
 refine .nil<|Next.mod rfl<|RA.nil (by kernel_rfl)<|au<|.sr<|.mo rfl<|.ia (i+1) .add<|.az rfl<|.region<|.mo rfl<|.ia (j-1) .sub<|.ag rfl<|.nil<|ba ?_
 ·exact bp (i+1,j-1,dM ys i j,n) ⟨⟨by simp only;omega,by simp only;omega,by simp only;omega⟩,m,g.step (by omega) (by omega) (by omega) (by omega) (by omega)⟩ (by simp only;omega) kE.c.c.c rH
 refine .exit<|bD<|bG<|bE<|gC _ .none rH ?_
 ·exact⟨_,rfl,rfl,ys,d,g⟩
theorem Ca(v:Value)(xs:List aw)(T:av)(a b:Nat)(R:aA)(s:Value)(V:One s)(h:OS 119 7 aw.enc v xs T)(S:a<=b)(U:b<=xs.length)(Y:xs.length<=1000000000):
  Spec prog 235 [v,.int .i64 a,.int .i64 b,s] R [T] λu H'=>∃T',H'=[T']/\u=.tuple #[]/\∃ys,OS 119 7 aw.enc v ys T'/\RP a b xs ys:=by
 have iv:=h.ay
 obtain⟨n,J⟩:∃n,b=a+n:=⟨b-a,by omega⟩
 subst J
 refine Spec.body func235 rfl results235 ntmps235 rfl<|.sr<|.mo rfl<|.mo rfl<|.ia (n) .sub<|.ag rfl<|.z<|.mo rfl<|.q .geq<|.zn<|.cond rfl (λt=>?_) λt=>?_
 have a2:8<=n:=by have:=cL t;omega
 obtain⟨q,D⟩:∃q,q=n/4:=⟨_,rfl⟩
 refine .sr<|.mo rfl<|.q .rD ?_
 refine .rn (λe=>?_)
 refine .ek rfl rfl<|.z<|.mo rfl<|.aQ (NZ n (by omega) (by omega) _) (λu r=>?_)
 obtain⟨j,rfl,a0,a1⟩:=r
 refine .ag rfl<|.z<|.mo rfl<|.mo rfl<|.q (.i64 ((q:Nat):Int) .quo ⟨by rw[D,ael (by omega)];omega,by omega,by omega⟩)<|.ia (q*2) .mul<|.ia (a+q*2) .add<|.ia (a+q*2-1) .sub<|.az rfl<|.block<|.loop (X:=Nat×Int×List aw×av) (λy=>(a+q*2-1<=y.1/\y.1<=a+q*2+2)/\OS 119 7 aw.enc v y.2.2.1 y.2.2.2/\RP a (a+n) xs y.2.2.1) (λy=>[(0,v),(1,iN a),(8,iN n),(9,pT e),(10,.int .u64 (j:Nat)),(11,iN y.1)]) (λy=>[bl e [.int .u64 y.2.1] 385,y.2.2.2]) (λy=>a+q*2+2-y.1) (a+q*2-1,_,xs,T) ⟨⟨aef _,by simp only;omega⟩,h,.refl _⟩ kE.c.c.c.c.c.c rH ?_
 rintro⟨i,z,ys,F⟩ ⟨⟨H,I⟩,d,k⟩
 simp only at H I d k⊢
 have Z:=k.length
 refine .seq<|.sr<|.mo rfl<|.mo rfl<|.mo rfl<|.q (.i64 ((q:Nat):Int) .quo ⟨by rw[D,ael (by omega)];omega,by omega,by omega⟩)<|.ia (q*2) .mul<|.ia (a+q*2) .add<|.ia (a+q*2+1) .add<|.q .leq<|.zn<|.cond rfl (λA=>?_) λA=>?_
 have W:i<=a+q*2+1:=by have:=cL A;omega
 refine .kn<|.seq<|.block<|.sr<|.dT (Pb e z _) (λu O r=>?_)
 obtain⟨l,rfl,rfl⟩:=r
 refine .mo rfl<|.q (bq.cast (v':=.int .u64 ((j-1:Nat):Int)) .sub (by rw[qZ (by omega) (by omega)];congr 1;omega)) ?_
 have B:=BW (z:=l) (q:=((j-1:Nat):Int)) (by omega) (by omega)
 obtain⟨o,C⟩:∃o:Nat,IntKind.u64.wrap (BitVec.ofInt IntKind.u64.bits l&&&BitVec.ofInt IntKind.u64.bits ((j-1:Nat):Int)).toNat=(o:Int):=⟨_,(Int.toNat_of_nonneg B.1).symm⟩
 refine .q (bq.cast (v':=.int .u64 ((o:Nat):Int)) .BV (by rw[C])) ?_
 rw[C]at B
 refine .q (bq.cast (v':=.int .i64 ((o:Nat):Int)) .rD (by rw[Rn (by omega) (by omega)]))<|.ag rfl<|.zs ?_
 refine bu.cut (X:=Nat) (λp=>p<n) (λp=>[(0,v),(1,iN a),(8,iN n),(9,pT e),(10,.int .u64 (j:Nat)),(11,iN i),(12,iN p)]) (λ_=>[bl e [.int .u64 l] 385,F]) ?_ ?_
 refine .sr<|.mo rfl<|.mo rfl<|.q .geq<|.zn<|.cond rfl (λm=>?_) λm=>?_
 have K:n<=o:=by have:=cL m;omega
 refine .region<|.mo rfl<|.mo rfl<|.ia (o-n) .sub<|.ag rfl<|.nil ?_
 ·exact aD (o-n) (by omega) kE.c.c.c.c.c.c.c rH
 have K:o<n:=by have:=bI m;omega
 refine .skip ?_
 ·exact aD o (by omega) kE.c.c.c.c.c.c.c rH
 intro y M
 have a3:y<n:=M
 obtain⟨p,rfl⟩:∃p,p=y:=⟨_,rfl⟩
 obtain⟨x,g⟩:∃x,ys[i]? =some x:=⟨_,bk (by omega)⟩
 obtain⟨w,f⟩:∃x,ys[a+p]? =some x:=⟨_,bk (by omega)⟩
 refine au<|.dz [17,19] mixed<|.tO 0 rfl .move<|.tO 1 rfl .move<|.tK 2 rfl .move<|.tK 3 rfl .move<|.tK 4 rfl .move<|.take 5 rfl (.i64 ((a+p:Nat):Int) .add ⟨by omega,by omega,by omega⟩) (by kernel_rfl)<|.tO 6 rfl .move<|.tO 7 rfl .move<|.tO 8 rfl .move<|.jw 9 rfl (.i64 ((a+p:Nat):Int) .add ⟨by omega,by omega,by omega⟩) (by kernel_rfl) ?_
 refine RA.bh 10 rfl (a+p) d f rfl rfl rfl (by kernel_rfl) (λa4=>?_)
 refine .tO 11 rfl (.aL rfl)<|.tO 12 rfl .move<|.tO 13 rfl .move ?_
 refine RA.bh 14 rfl (i) d g rfl rfl rfl (by kernel_rfl) (λa5=>?_)
 refine .tO 15 rfl (.aL rfl) ?_
 refine RA.bh 16 rfl (i) d g rfl rfl rfl (by kernel_rfl) (λa6=>?_)
 refine .sT 17 rfl<|.eK (i) d g w (λQ L=>?_) (d.one _ (aR f))
 refine .nil (Next.mod rfl ?_)
 refine RA.bh 18 rfl (a+p) d f rfl rfl rfl (by kernel_rfl) (λa7=>?_)
 refine .sT 19 rfl ?_
 obtain⟨zz,N⟩:∃u,(ys.set (i) w)[a+p]? =some u:=⟨_,bk (by rw[aei];exact(aeg.1 f).1)⟩
 refine .eK (a+p) L N x (λG E=>?_) (d.one _ (aR g))
 rw[<-iX g f]at E
 refine .nil<|Next.mod rfl<|RA.nil (by kernel_rfl)<|ba<|au<|.region<|.mo rfl<|.ia (i+1) .add<|.ag rfl<|.nil ?_
 ·exact bp (i+1,l,dM ys i (a+p),G) ⟨⟨by simp only;omega,by simp only;omega⟩,E,k.step (by omega) (by omega) (by omega) (by omega) (by omega)⟩ (by simp only;omega) kE.c.c.c.c.c.c rH
 refine .exit<|bD<|bG<|bE<|gC _ .none (aK [1]) ?_
 ·exact⟨_,rfl,rfl,ys,d,k⟩
 refine .skip<|gC _ .none rH ?_
 ·exact⟨_,rfl,rfl,xs,h,.refl _⟩
end
end STP
namespace STP
section
variable{c:aw->aw->Int}{ok:aw->Prop}{f:FuncId}{caps:List Value} [e:aT prog f]
theorem Om(v:Value)(xs:List aw)(T:av)(a b:Nat)(R:aA)(h:OS 119 7 aw.enc v xs T)(b5:a<b)(O:b<=xs.length)(hl:xs.length<=1000000000)(hf:iQ prog f caps R (λt:aw=>Value.agg t.enc.toArray) c ok)(Q:∀x∈xs,ok x)(so:SO (bW c))(c4:LB (bW c) xs a b):
  Spec prog 238 [v,.int .i64 a,.int .i64 b,.func (.func f) #[] caps.toArray] R [T] λu H'=>∃T',H'=[T']/\∃ys m,u=.bool m/\OS 119 7 aw.enc v ys T'/\RP a b xs ys/\(m=true->SR (bW c) ys a b):=by
 refine Spec.body func238 rfl results238 ntmps238 rfl ?_
 refine .sr<|.ag rfl<|.z<|.mo rfl ?_
 refine .ia (a+1) .add ?_
 refine .ag rfl<|.zs<|.sr<|.az rfl<|.block ?_
 refine .loop (X:=Nat×Nat×List aw×av) (λy=>(y.1<=5/\a+1<=y.2.1/\y.2.1<=b)/\OS 119 7 aw.enc v y.2.2.1 y.2.2.2/\RP a b xs y.2.2.1/\SR (bW c) y.2.2.1 a y.2.1) (λy=>[(0,v),(1,iN a),(2,iN b),(3,.func (.func f) #[] caps.toArray),(9,iN y.2.1),(10,iN y.1)]) (λy=>[y.2.2.2]) (λy=>5-y.1) (0,a+1,xs,T) ⟨⟨by omega,aef _,b5⟩,h,.refl _,λi j Z h2 N=>by simp only at N;omega⟩ kE.c.c.c.c.c.c rH ?_
 rintro⟨n,i,ys,T1⟩ ⟨⟨hn,H,I⟩,r,K,D⟩
 simp only at hn H I r K D⊢
 have c8:=K.length
 refine .seq<|.sr<|.mo rfl<|.q .lss<|.zn ?_
 refine .cond rfl (λZ=>?_) λZ=>?_
 have d1:n<5:=cK Z
 refine .kn<|.seq<|.block<|.seq ?_
 refine bu.cut (X:=Nat) (λi=>(a+1<=i/\i<=b)/\SR (bW c) ys a i) (λi=>[(0,v),(1,iN a),(2,iN b),(3,.func (.func f) #[] caps.toArray),(9,iN i),(10,iN n)]) (λ_=>[T1]) ?_ ?_
 refine .block ?_
 refine .loop (X:=Nat) (λi=>(a+1<=i/\i<=b)/\SR (bW c) ys a i) (λi=>[(0,v),(1,iN a),(2,iN b),(3,.func (.func f) #[] caps.toArray),(9,iN i),(10,iN n)]) (λ_=>[T1]) (λi=>b-i) i ⟨⟨H,I⟩,D⟩ kE.c.c.c.c.c.c rH ?_
 clear H I D
 rintro i ⟨⟨H,I⟩,D⟩
 refine .seq<|.seq ?_
 refine .dY 14 mixed (by kernel_rfl) ?_
 conv=>arg 6;dsimp only[List.take]
 refine .mo rfl<|.mo rfl<|.q .lss<|.mo rfl ?_
 refine .split (t:=22) rfl (λe=>?_) (λe=>?_)
 have c3:i<b:=by have:=cL e;omega
 obtain⟨x,E⟩:∃x,ys[i]? =some x:=⟨_,bk (by omega)⟩
 obtain⟨y,A⟩:∃x,ys[i-1]? =some x:=⟨_,bk (by omega)⟩
 have c6:=Q x (K.perm.mem_iff.1 (aR E))
 have c7:=Q y (K.perm.mem_iff.1 (aR A))
 refine .gT e<|.mo rfl<|.gT e<|.mo rfl<|.gT e<|.mo rfl<|.gT e ?_
 refine .bh i r E (λe1=>?_)
 refine .gT e<|.q (.aL rfl)<|.gT e<|.mo rfl<|.gT e<|.mo rfl<|.gT e ?_
 refine .ia (i-1) .sub ?_
 refine .gT e ?_
 refine .bh (i-1) r A (λe2=>?_)
 refine .gT e<|.q (.aL rfl)<|.nil<|.gT e ?_
 refine .gx (first:=[]) (captured:=caps) (vs:=[(λt:aw=>Value.agg t.enc.toArray) x,(λt:aw=>Value.agg t.enc.toArray) y]) (hf x y c6 c7 _ (λb o O=>.inl O)) (λu F=>?_)
 subst F
 refine .gT e<|.q .lss<|.gT e<|.q .not<|.q (.aU e) ?_
 refine .zn ?_
 refine .cond rfl (λh2=>?_) λh2=>?_
 refine .kn<|.block<|.region<|.mo rfl ?_
 refine .ia (i+1) .add ?_
 refine .ag rfl<|.nil<|ba ?_
 ·have c5:bW c x y=false:=by
   have b8:(!bW c x y)=true:=h2
   simpa using b8
  exact bp (i+1) ⟨⟨by omega,by omega⟩,D.snoc so (by omega) (by omega) λu w F W=>by
   rw[A]at F;rw[E]at W;cases F;cases W;exact c5⟩ (by omega) kE.c.c.c.c.c.c rH
 refine .exit<|bD<|bG<|bE ?_
 exact aD i ⟨⟨H,I⟩,D⟩ kE.c.c.c.c.c.c rH
 refine .gF e<|.gF e<|.gF e<|.gF e<|.gF e<|.gF e<|.gF e<|.gF e<|.gF e<|.gF e<|.nil<|.gF e<|.gF e<|.gF e<|.q (.aN e) ?_
 refine .zn<|.dA<|.exit<|bD<|bG<|bE ?_
 exact aD i ⟨⟨H,I⟩,D⟩ kE.c.c.c.c.c.c rH
 intro x E
 obtain⟨d,b6⟩:∃d,d=x:=⟨_,rfl⟩
 rw[<-b6]at E⊢
 clear b6 x H I D
 obtain⟨⟨H,I⟩,D⟩:=E
 refine au<|.seq<|.sr<|.mo rfl<|.mo rfl<|.q .cr<|.zn ?_
 refine .cond rfl (λN=>?_) λN=>?_
 refine .sr<|.az rfl ?_
 refine .ret (aJ (bA (aJ (cW (bA (aJ (br _ (.one (.tmp rfl)) rH ?_)))))))
 ·have c2:d=b:=by
   have b9:((d:Int)=b):=by simpa using N
   omega
  exact⟨_,rfl,ys,true,rfl,r,K,λ_=>c2▸D⟩
 have c3:d<b:=by
  have b9:¬((d:Int)=b):=by simpa using N
  omega
 obtain⟨x,E⟩:∃x,ys[d]? =some x:=⟨_,bk (by omega)⟩
 obtain⟨y,A⟩:∃x,ys[d-1]? =some x:=⟨_,bk (by omega)⟩
 refine .kn<|.seq<|.sr<|.mo rfl<|.mo rfl ?_
 refine .ia (b-a) .sub ?_
 refine .q .lss<|.zn ?_
 refine .cond rfl (λh4=>?_) λh4=>?_
 refine .sr<|.az rfl ?_
 refine .ret (aJ (bA (aJ (cW (bA (aJ (br _ (.one (.tmp rfl)) rH ?_)))))))
 ·exact⟨_,rfl,ys,false,rfl,r,K,λh=>by cases h⟩
 refine .kn<|.seq<|.dz [15,17] mixed ?_
 refine .tO 0 rfl .move<|.tO 1 rfl .move<|.tK 2 rfl .move<|.tK 3 rfl .move ?_
 refine .take 4 rfl (.i64 ((d-1:Nat):Int) .sub ⟨by omega,by omega,by omega⟩) (by kernel_rfl) ?_
 refine .tO 5 rfl .move<|.tO 6 rfl .move ?_
 refine .jw 7 rfl (.i64 ((d-1:Nat):Int) .sub ⟨by omega,by omega,by omega⟩) (by kernel_rfl) ?_
 refine RA.bh 8 rfl (d-1) r A rfl rfl rfl (by kernel_rfl) (λe3=>?_)
 refine .tO 9 rfl (.aL rfl)<|.tO 10 rfl .move<|.tO 11 rfl .move ?_
 refine RA.bh 12 rfl (d) r E rfl rfl rfl (by kernel_rfl) (λe4=>?_)
 refine .tO 13 rfl (.aL rfl) ?_
 refine RA.bh 14 rfl (d) r E rfl rfl rfl (by kernel_rfl) (λe5=>?_)
 refine .sT 15 rfl ?_
 refine .eK (d) r E y (λb0 V=>?_) (r.one _ (aR A))
 refine .nil (Next.mod rfl ?_)
 refine RA.bh 16 rfl (d-1) r A rfl rfl rfl (by kernel_rfl) (λe6=>?_)
 refine .sT 17 rfl ?_
 obtain⟨zz,Y⟩:∃u,(ys.set (d) y)[d-1]? =some u:=⟨_,bk (by rw[aei];exact(aeg.1 A).1)⟩
 refine .eK (d-1) V Y x (λM J=>?_) (r.one _ (aR E))
 rw[<-iX E A]at J
 refine .nil (Next.mod rfl ?_)
 refine RA.nil (by kernel_rfl) ?_
 have b2:=K.step (i:=d) (j:=d-1) (by omega) (by omega) (by omega) (by omega) (by omega)
 have c0:=D.QF (by omega)
 clear D
 refine au<|.seq ?_
 refine bu.cut (X:=List aw×av) (λz=>OS 119 7 aw.enc v z.1 z.2/\RP a b xs z.1/\SR (bW c) z.1 a d) (λ_=>[(0,v),(1,iN a),(2,iN b),(3,.func (.func f) #[] caps.toArray),(9,iN d),(10,iN n)]) (λz=>[z.2]) ?_ ?_
 refine .sr<|.mo rfl<|.mo rfl ?_
 refine .ia (d-a) .sub ?_
 refine .q .geq<|.zn ?_
 refine .cond rfl (λh5=>?_) λh5=>?_
 refine .sr<|.mo rfl ?_
 refine .ia (d-1) .sub ?_
 refine .az rfl<|.block ?_
 refine .loop (X:=Nat×List aw×av) (λz=>(a<=z.1/\z.1<=d-1)/\OS 119 7 aw.enc v z.2.1 z.2.2/\RP a b xs z.2.1/\my (bW c) z.2.1 a z.1 d) (λz=>[(0,v),(1,iN a),(2,iN b),(3,.func (.func f) #[] caps.toArray),(9,iN d),(10,iN n),(11,iN z.1)]) (λz=>[z.2.2]) (λz=>z.1) (d-1,dM ys d (d-1),M) ⟨⟨by simp only;omega,aef _⟩,J,b2,c0⟩ kE.c.c.c.c.c.c.c rH ?_
 rintro⟨q,G,U⟩ ⟨⟨a6,a7⟩,l,C,a0⟩
 simp only at a6 a7 l C a0⊢
 have c9:=C.length
 refine .seq<|.sr<|.mo rfl<|.q .geq<|.zn ?_
 refine .cond rfl (λh6=>?_) λh6=>?_
 have d2:1<=q:=by have:=cL h6;omega
 obtain⟨s,g⟩:∃x,G[q]? =some x:=⟨_,bk (by omega)⟩
 obtain⟨t,k⟩:∃x,G[q-1]? =some x:=⟨_,bk (by omega)⟩
 have a8:=Q s (C.perm.mem_iff.1 (aR g))
 have a9:=Q t (C.perm.mem_iff.1 (aR k))
 refine .kn<|.seq<|.block<|.seq<|.seq ?_
 refine .dY 10 mixed (by kernel_rfl) ?_
 conv=>arg 6;dsimp only[List.take]
 refine .mo rfl<|.mo rfl<|.mo rfl ?_
 refine .bh q l g (λe7=>?_)
 refine .q (.aL rfl)<|.mo rfl<|.mo rfl ?_
 refine .ia (q-1) .sub ?_
 refine .bh (q-1) l k (λe8=>?_)
 refine .q (.aL rfl)<|.nil ?_
 refine .gx (first:=[]) (captured:=caps) (vs:=[(λt:aw=>Value.agg t.enc.toArray) s,(λt:aw=>Value.agg t.enc.toArray) t]) (hf s t a8 a9 _ (λb o O=>.inl O)) (λu F=>?_)
 subst F
 refine .q .lss<|.q .not<|.zn ?_
 refine .cond rfl (λh7=>?_) λh7=>?_
 have a4:SR (bW c) G a d:=a0.done so (by omega) (by omega) (by
  have a2:(!bW c s t)=true:=h7
  rcases Nat.lt_or_ge a q with hh|hh
  ·exact .inr ⟨hh,λu w F W=>by rw[k]at F;rw[g]at W;cases F;cases W;simpa using a2⟩
  ·exact .inl (by omega))
 refine .exit (bD (lX (bD (bG (bE ?_)))))
 ·exact aD (G,U) ⟨l,C,a4⟩ kE.c.c.c.c.c.c rH
 have a5:bW c s t=true:=by
  have a2:(!bW c s t)=false:=h7
  simpa using a2
 have c1:a<q:=by
  rcases Nat.lt_or_ge a q with hh|hh
  ·exact hh
  ·have ea:q=a:=by omega
   subst ea
   have:=(c4.rp C) (by omega) q (aef _) b5 t s k g
   rw[this]at a5;cases a5
 refine .kn<|.dz [15,17] mixed ?_
 refine .tO 0 rfl .move<|.tO 1 rfl .move<|.tK 2 rfl .move<|.tK 3 rfl .move ?_
 refine .take 4 rfl (.i64 ((q-1:Nat):Int) .sub ⟨by omega,by omega,by omega⟩) (by kernel_rfl) ?_
 refine .tO 5 rfl .move<|.tO 6 rfl .move ?_
 refine .jw 7 rfl (.i64 ((q-1:Nat):Int) .sub ⟨by omega,by omega,by omega⟩) (by kernel_rfl) ?_
 refine RA.bh 8 rfl (q-1) l k rfl rfl rfl (by kernel_rfl) (λe9=>?_)
 refine .tO 9 rfl (.aL rfl)<|.tO 10 rfl .move<|.tO 11 rfl .move ?_
 refine RA.bh 12 rfl (q) l g rfl rfl rfl (by kernel_rfl) (λf0=>?_)
 refine .tO 13 rfl (.aL rfl) ?_
 refine RA.bh 14 rfl (q) l g rfl rfl rfl (by kernel_rfl) (λf1=>?_)
 refine .sT 15 rfl ?_
 refine .eK (q) l g t (λb0 V=>?_) (l.one _ (aR k))
 refine .nil (Next.mod rfl ?_)
 refine RA.bh 16 rfl (q-1) l k rfl rfl rfl (by kernel_rfl) (λd4=>?_)
 refine .sT 17 rfl ?_
 obtain⟨zz,Y⟩:∃u,(G.set (q) t)[q-1]? =some u:=⟨_,bk (by rw[aei];exact(aeg.1 k).1)⟩
 refine .eK (q-1) V Y s (λM J=>?_) (l.one _ (aR g))
 rw[<-iX g k]at J
 refine .nil (Next.mod rfl ?_)
 refine RA.nil (by kernel_rfl) ?_
 refine ba<|au<|.region<|.mo rfl ?_
 refine .ia (q-1) .sub ?_
 refine .ag rfl<|.nil ?_
 ·exact bp (q-1,dM G q (q-1),M) ⟨⟨by simp only;omega,by simp only;omega⟩,J,C.step (by omega) (by omega) (by omega) (by omega) (by omega),a0.step so (by omega) (by omega) c1 g k a5⟩ (by simp only;omega) kE.c.c.c.c.c.c.c rH
 have a4:SR (bW c) G a d:=a0.done so (by omega) (by omega) (.inl (by have:=bI h6;omega))
 refine .exit<|bD<|bG<|bE ?_
 ·exact aD (G,U) ⟨l,C,a4⟩ kE.c.c.c.c.c.c rH
 refine .skip ?_
 ·exact aD (dM ys d (d-1),M) ⟨J,b2,λp q Z h2 N=>by have:=bI h5;omega⟩ kE.c.c.c.c.c.c rH
 intro y A
 obtain⟨G,U⟩:=y
 obtain⟨l,C,a3⟩:=A
 simp only at l C a3⊢
 refine au ?_
 refine bu.cut (X:=List aw×av) (λz=>OS 119 7 aw.enc v z.1 z.2/\RP a b xs z.1/\SR (bW c) z.1 a d) (λ_=>[(0,v),(1,iN a),(2,iN b),(3,.func (.func f) #[] caps.toArray),(9,iN d),(10,iN n)]) (λz=>[z.2]) ?_ ?_
 refine .sr<|.mo rfl<|.mo rfl ?_
 refine .ia (b-d) .sub ?_
 refine .q .geq<|.zn ?_
 refine .cond rfl (λh8=>?_) λh8=>?_
 refine .sr<|.mo rfl ?_
 refine .ia (d+1) .add ?_
 refine .az rfl<|.block ?_
 refine .loop (X:=Nat×List aw×av) (λz=>(d+1<=z.1/\z.1<=b)/\OS 119 7 aw.enc v z.2.1 z.2.2/\RP a b xs z.2.1/\SR (bW c) z.2.1 a d) (λz=>[(0,v),(1,iN a),(2,iN b),(3,.func (.func f) #[] caps.toArray),(9,iN d),(10,iN n),(12,iN z.1)]) (λz=>[z.2.2]) (λz=>b-z.1) (d+1,G,U) ⟨⟨aef _,by simp only;omega⟩,l,C,a3⟩ kE.c.c.c.c.c.c.c rH ?_
 rintro⟨q,S,T4⟩ ⟨⟨a6,a7⟩,B,L,a1⟩
 simp only at a6 a7 B L a1⊢
 have d0:=L.length
 refine .seq<|.sr<|.mo rfl<|.mo rfl<|.q .lss<|.zn ?_
 refine .cond rfl (λh9=>?_) λh9=>?_
 have d3:q<b:=cK h9
 obtain⟨s,g⟩:∃x,S[q]? =some x:=⟨_,bk (by omega)⟩
 obtain⟨t,k⟩:∃x,S[q-1]? =some x:=⟨_,bk (by omega)⟩
 have a8:=Q s (L.perm.mem_iff.1 (aR g))
 have a9:=Q t (L.perm.mem_iff.1 (aR k))
 refine .kn<|.seq<|.block<|.seq<|.seq ?_
 refine .dY 10 mixed (by kernel_rfl) ?_
 conv=>arg 6;dsimp only[List.take]
 refine .mo rfl<|.mo rfl<|.mo rfl ?_
 refine .bh q B g (λd5=>?_)
 refine .q (.aL rfl)<|.mo rfl<|.mo rfl ?_
 refine .ia (q-1) .sub ?_
 refine .bh (q-1) B k (λd6=>?_)
 refine .q (.aL rfl)<|.nil ?_
 refine .gx (first:=[]) (captured:=caps) (vs:=[(λt:aw=>Value.agg t.enc.toArray) s,(λt:aw=>Value.agg t.enc.toArray) t]) (hf s t a8 a9 _ (λb o O=>.inl O)) (λu F=>?_)
 subst F
 refine .q .lss<|.q .not<|.zn ?_
 refine .cond rfl (λb7=>?_) λb7=>?_
 refine .exit (bD (lX (bD (bG (bE ?_)))))
 ·exact aD (S,T4) ⟨B,L,a1⟩ kE.c.c.c.c.c.c rH
 refine .kn<|.dz [15,17] mixed ?_
 refine .tO 0 rfl .move<|.tO 1 rfl .move<|.tK 2 rfl .move<|.tK 3 rfl .move ?_
 refine .take 4 rfl (.i64 ((q-1:Nat):Int) .sub ⟨by omega,by omega,by omega⟩) (by kernel_rfl) ?_
 refine .tO 5 rfl .move<|.tO 6 rfl .move ?_
 refine .jw 7 rfl (.i64 ((q-1:Nat):Int) .sub ⟨by omega,by omega,by omega⟩) (by kernel_rfl) ?_
 refine RA.bh 8 rfl (q-1) B k rfl rfl rfl (by kernel_rfl) (λd7=>?_)
 refine .tO 9 rfl (.aL rfl)<|.tO 10 rfl .move<|.tO 11 rfl .move ?_
 refine RA.bh 12 rfl (q) B g rfl rfl rfl (by kernel_rfl) (λd8=>?_)
 refine .tO 13 rfl (.aL rfl) ?_
 refine RA.bh 14 rfl (q) B g rfl rfl rfl (by kernel_rfl) (λd9=>?_)
 refine .sT 15 rfl ?_
 refine .eK (q) B g t (λb0 V=>?_) (B.one _ (aR k))
 refine .nil (Next.mod rfl ?_)
 refine RA.bh 16 rfl (q-1) B k rfl rfl rfl (by kernel_rfl) (λe0=>?_)
 refine .sT 17 rfl ?_
 obtain⟨zz,Y⟩:∃u,(S.set (q) t)[q-1]? =some u:=⟨_,bk (by rw[aei];exact(aeg.1 k).1)⟩
 refine .eK (q-1) V Y s (λM J=>?_) (B.one _ (aR g))
 rw[<-iX g k]at J
 refine .nil (Next.mod rfl ?_)
 refine RA.nil (by kernel_rfl) ?_
 refine ba<|au<|.region<|.mo rfl ?_
 refine .ia (q+1) .add ?_
 refine .ag rfl<|.nil ?_
 ·exact bp (q+1,dM S q (q-1),M) ⟨⟨by simp only;omega,by simp only;omega⟩,J,L.step (by omega) (by omega) (by omega) (by omega) (by omega),a1.QG (by omega) (by omega) (by omega) (by omega)⟩ (by simp only;omega) kE.c.c.c.c.c.c.c rH
 refine .exit<|bD<|bG<|bE ?_
 ·exact aD (S,T4) ⟨B,L,a1⟩ kE.c.c.c.c.c.c rH
 refine .skip ?_
 ·exact aD (G,U) ⟨l,C,a3⟩ kE.c.c.c.c.c.c rH
 intro y A
 obtain⟨us,T5⟩:=y
 obtain⟨b1,b3,b4⟩:=A
 simp only at b1 b3 b4⊢
 refine ba<|au<|.region<|.mo rfl ?_
 refine .ia (n+1) .add ?_
 refine .ag rfl<|.nil ?_
 ·exact bp (n+1,d,us,T5) ⟨⟨by simp only;omega,H,I⟩,b1,b3,b4⟩ (by simp only;omega) kE.c.c.c.c.c.c rH
 refine .exit<|bD<|bG<|bE<|au<|.sr<|.az rfl ?_
 refine .ret (br _ (.one (.tmp rfl)) rH ?_)
 ·exact⟨_,rfl,ys,false,rfl,r,K,λh=>by cases h⟩
end
end STP
namespace STP
section
variable{c:aw->aw->Int}{ok:aw->Prop}{f:FuncId}{caps:List Value} [e:aT prog f]
theorem u3(v:Value)(xs:List aw)(a b lo d g:Nat)(s:Int)(R:aA)(h:RS R 7 aw.enc v xs)(i:lo<=a/\a<d)(e:lo<=b/\b<d)(B:d<=xs.length)(n:iQ prog f caps R (λt:aw=>Value.agg t.enc.toArray) c ok)(j:∀x∈xs,ok x):
  Spec prog 270 [v,.int .i64 a,.int .i64 b,pT g,.func (.func f) #[] caps.toArray] R [bl g [.int .i64 s] 3] λu H'=>∃T',H'=[T']/\∃(s':Int) (p q:Nat),u=.tuple [.int .i64 p,.int .i64 q].toArray/\T'=(bl g [.int .i64 s'] 3)/\(lo<=p/\p<d)/\(lo<=q/\q<d):=by
 obtain⟨x,k⟩:∃x,xs[b]? =some x:=⟨_,bk (by omega)⟩
 obtain⟨y,l⟩:∃x,xs[a]? =some x:=⟨_,bk (by omega)⟩
 have w:=j x (aR k)
 have A:=j y (aR l)
 refine Spec.body func270 rfl results270 ntmps270 rfl<|.sr<|.ag rfl<|.ag rfl<|.zs<|.seq<|.dY 9 mixed (by kernel_rfl) ?_
 conv=>arg 6;dsimp only[List.take]
 refine .mo rfl<|.mo rfl<|.mo rfl ?_
 refine .bF b h k (λC=>?_)
 refine .q (.aL rfl)<|.mo rfl<|.mo rfl ?_
 refine .bF a h l (λD=>?_)
 refine .q (.aL rfl)<|.nil<|.gx (first:=[]) (captured:=caps) (vs:=[(λt:aw=>Value.agg t.enc.toArray) x,(λt:aw=>Value.agg t.enc.toArray) y]) (n x y w A _ (λb o e=>.inl e)) (λu r=>?_)
 subst r
 refine .q .lss<|.zn<|.cond rfl (λm=>?_) λm=>?_
 refine .sr<|.mo rfl<|.nc rfl<|.lo rfl<|.q .add<|.nc rfl<|.ek rfl rfl<|.z<|.mo rfl<|.mo rfl<|.ag rfl<|.az rfl<|.ret (aJ (br _ (.two (.tmp rfl) (.tmp rfl)) rH ?_))
 ·exact⟨_,rfl,_,b,a,rfl,rfl,e,i⟩
 refine .kn<|.sr<|.mo rfl<|.mo rfl<|.ag rfl<|.az rfl<|.ret (br _ (.two (.tmp rfl) (.tmp rfl)) rH ?_)
 ·exact⟨_,rfl,_,a,b,rfl,rfl,i,e⟩
theorem zx(v:Value)(xs:List aw)(a b d lo e g:Nat)(s:Int)(R:aA)(h:RS R 7 aw.enc v xs)(m:lo<=a/\a<e)(n:lo<=b/\b<e)(o:lo<=d/\d<e)(k:e<=xs.length)(j:iQ prog f caps R (λt:aw=>Value.agg t.enc.toArray) c ok)(l:∀x∈xs,ok x):
  Spec prog 259 [v,.int .i64 a,.int .i64 b,.int .i64 d,pT g,.func (.func f) #[] caps.toArray] R [bl g [.int .i64 s] 3] λu H'=>∃T',H'=[T']/\∃(s':Int) (p:Nat),u=.int .i64 p/\T'=(bl g [.int .i64 s'] 3)/\(lo<=p/\p<e):=by
 refine Spec.body func259 rfl results259 ntmps259 rfl<|.sr<|.ag rfl<|.z<|.mo rfl<|.mo rfl<|.mo rfl<|.mo rfl<|.mo rfl<|.dT (u3 v xs a b lo e g s _ h m n k j l) (λu I i=>?_)
 obtain⟨F,B,D,rfl,rfl,r,y⟩:=i
 refine .mo rfl<|.q .extract<|.q .extract<|.ag rfl<|.ag rfl<|.z<|.mo rfl<|.mo rfl<|.mo rfl<|.mo rfl<|.mo rfl<|.dT (u3 v xs D d lo e g F _ h y o k j l) (λu J i=>?_)
 obtain⟨G,C,O,rfl,rfl,w,M⟩:=i
 refine .mo rfl<|.q .extract<|.q .extract<|.ag rfl<|.ag rfl<|.z<|.mo rfl<|.mo rfl<|.mo rfl<|.mo rfl<|.mo rfl<|.dT (u3 v xs B C lo e g G _ h r w k j l) (λu K i=>?_)
 obtain⟨H,N,E,rfl,rfl,L,A⟩:=i
 refine .mo rfl<|.q .extract<|.q .extract<|.ag rfl<|.ag rfl<|.z<|.mo rfl<|.az rfl<|.ret (br _ (.one (.tmp rfl)) rH ?_)
 ·exact⟨_,rfl,H,E,rfl,rfl,A⟩
theorem uM(v:Value)(xs:List aw)(a lo d b:Nat)(s:Int)(R:aA)(h:RS R 7 aw.enc v xs)(o:lo+1<=a/\a+1<d)(g:d<=xs.length)(q:xs.length<=1000000000)(e:iQ prog f caps R (λt:aw=>Value.agg t.enc.toArray) c ok)(i:∀x∈xs,ok x):
  Spec prog 258 [v,.int .i64 a,pT b,.func (.func f) #[] caps.toArray] R [bl b [.int .i64 s] 3] λu H'=>∃T',H'=[T']/\∃(s':Int) (p:Nat),u=.int .i64 p/\T'=(bl b [.int .i64 s'] 3)/\(lo<=p/\p<d):=by
 refine Spec.body func258 rfl results258 ntmps258 rfl<|.sr<|.ag rfl<|.z<|.mo rfl<|.mo rfl<|.ia (a-1) .sub<|.mo rfl<|.mo rfl<|.ia (a+1) .add<|.mo rfl<|.mo rfl<|.dT (zx v xs (a-1) a (a+1) lo d b s _ h (by omega) (by omega) (by omega) g e i) (λu n k=>?_)
 obtain⟨m,l,rfl,rfl,j⟩:=k
 refine .az rfl<|.ret (br _ (.one (.tmp rfl)) rH ?_)
 ·exact⟨_,rfl,m,l,rfl,rfl,j⟩
theorem choose_spec(v:Value)(xs:List aw)(a b:Nat)(R:aA)(h:RS R 7 aw.enc v xs)(Y:a<b)(l:b<=xs.length)(w:xs.length<=1000000000)(m:iQ prog f caps R (λt:aw=>Value.agg t.enc.toArray) c ok)(o:∀x∈xs,ok x):
  Spec prog 236 [v,.int .i64 a,.int .i64 b,.func (.func f) #[] caps.toArray] R [] λu H'=>(∃(p:Nat) (t:Int),u=.tuple [.int .i64 p,.int .i64 t].toArray/\a<=p/\p<b)/\H'=[]:=by
 have iv:=h.ay
 obtain⟨n,I⟩:∃n,b=a+n:=⟨b-a,by omega⟩
 subst I
 obtain⟨q,A⟩:∃q,q=n/4:=⟨_,rfl⟩
 refine Spec.body func236 rfl results236 ntmps236 rfl<|.sr<|.ag rfl<|.ag rfl<|.z<|.mo rfl<|.mo rfl<|.ia (n) .sub<|.ag rfl<|.z ?_
 refine .rn (λe=>?_)
 refine .z<|.mo rfl<|.mo rfl<|.q (.i64 ((q:Nat):Int) .quo ⟨by rw[A,ael (by omega)];omega,by omega,by omega⟩)<|.ia (q) .mul<|.ia (a+q) .add<|.ag rfl<|.z<|.mo rfl<|.mo rfl<|.q (.i64 ((q:Nat):Int) .quo ⟨by rw[A,ael (by omega)];omega,by omega,by omega⟩)<|.ia (q*2) .mul<|.ia (a+q*2) .add<|.ag rfl<|.z<|.mo rfl<|.mo rfl<|.q (.i64 ((q:Nat):Int) .quo ⟨by rw[A,ael (by omega)];omega,by omega,by omega⟩)<|.ia (q*3) .mul<|.ia (a+q*3) .add<|.ag rfl<|.zs ?_
 refine bu.cut (X:=Nat×Int) (λz=>a<=z.1/\z.1<a+n) (λz=>[(11,pT e),(13,iN z.1)]) (λz=>[bl e [.int .i64 z.2] 3]) ?_ ?_
 refine .sr<|.mo rfl<|.q .geq<|.zn<|.cond rfl (λB=>?_) λB=>?_
 have a0:8<=n:=by have:=cL B;omega
 refine .seq ?_
 refine bu.cut (X:=Nat×Nat×Nat×Int) (λz=>(a<=z.1/\z.1<a+n)/\(a<=z.2.1/\z.2.1<a+n)/\(a<=z.2.2.1/\z.2.2.1<a+n)) (λz=>[(0,v),(3,.func (.func f) #[] caps.toArray),(11,pT e),(12,iN z.1),(13,iN z.2.1),(14,iN z.2.2.1)]) (λz=>[bl e [.int .i64 z.2.2.2] 3]) ?_ ?_
 refine .sr<|.mo rfl<|.q .geq<|.zn<|.cond rfl (λC=>?_) λC=>?_
 have Z:50<=n:=by have:=cL C;omega
 refine .sr<|.mo rfl<|.mo rfl<|.mo rfl<|.dT (uM v xs (a+q) a (a+n) e 0 _ h (by omega) l w m o) (λu r g=>?_)
 obtain⟨T,N,rfl,rfl,J⟩:=g
 refine .ag rfl<|.z<|.mo rfl<|.mo rfl<|.mo rfl<|.dT (uM v xs (a+q*2) a (a+n) e T _ h (by omega) l w m o) (λu r g=>?_)
 obtain⟨U,O,rfl,rfl,K⟩:=g
 refine .az rfl<|.region<|.mo rfl<|.mo rfl<|.mo rfl<|.dT (uM v xs (a+q*3) a (a+n) e U _ h (by omega) l w m o) (λu r g=>?_)
 obtain⟨V,Q,rfl,rfl,L⟩:=g
 refine .ag rfl<|.nil ?_
 ·exact aD (N,O,Q,V) ⟨J,K,L⟩ kE.c.c.c.c.c.c rH
 refine .skip ?_
 ·exact aD (a+q,a+q*2,a+q*3,0) ⟨by simp only;omega,by simp only;omega,by simp only;omega⟩ kE.c.c.c.c.c.c rH
 intro y d
 obtain⟨i,j,k,s⟩:=y
 obtain⟨D,E,F⟩:=d
 simp only at D E F⊢
 refine au<|.region<|.mo rfl<|.mo rfl<|.mo rfl<|.mo rfl<|.mo rfl<|.dT (zx v xs i j k a (a+n) e s _ h D E F l m o) (λu r g=>?_)
 obtain⟨W,S,rfl,rfl,M⟩:=g
 refine .ag rfl<|.nil ?_
 ·exact aD (S,W) M kE.c.c rH
 refine .skip ?_
 ·exact aD (a+q*2,0) (by simp only;omega) kE.c.c rH
 intro y d
 obtain⟨p,s⟩:=y
 simp only at d⊢
 refine au<|.sr<|.lo rfl<|.zn<|.block<|.sr<|.q .cr<|.az rfl<|.cond rfl (λG=>?_) λG=>?_
 refine .sr<|.mo rfl<|.ag rfl<|.az rfl<|.ret (bA (br _ (.two (.tmp rfl) (.tmp rfl)) (.none _) ?_))
 ·exact⟨⟨p,_,rfl,d.1,d.2⟩,rfl⟩
 refine .sr<|.q .cr<|.az rfl<|.cond rfl (λH=>?_) λH=>?_
 refine .sr<|.mo rfl<|.ag rfl<|.az rfl<|.ret (bA (br _ (.two (.tmp rfl) (.tmp rfl)) (.none _) ?_))
 ·exact⟨⟨p,_,rfl,d.1,d.2⟩,rfl⟩
 refine .sr<|.mo rfl<|.ag rfl<|.az rfl<|.ret (bA (br _ (.two (.tmp rfl) (.tmp rfl)) (.none _) ?_))
 ·exact⟨⟨p,_,rfl,d.1,d.2⟩,rfl⟩
end
end STP
namespace STP
section
variable{c:aw->aw->Int}{ok:aw->Prop}{f:FuncId}{caps:List Value} [e:aT prog f]
theorem Ol(v:Value)(xs:List aw)(T:av)(a b m:Nat)(p:aw)(R:aA)(h:OS 119 7 aw.enc v xs T)(b2:a<b)(hm:a<=m/\m<b)(z:xs[m]? =some p)(L:b<=xs.length)(hl:xs.length<=1000000000)(hf:iQ prog f caps R (λt:aw=>Value.agg t.enc.toArray) c ok)(Z:∀x∈xs,ok x)(so:SO (bW c))
  (b8:∀(k:Nat) (x:aw),a<=k->k<b->xs[k]? =some x->bW c x p=false):
  Spec prog 239 [v,.int .i64 a,.int .i64 b,.int .i64 m,.func (.func f) #[] caps.toArray] R [T] λu H'=>∃T',H'=[T']/\∃ys mid,u=iN mid/\OS 119 7 aw.enc v ys T'/\RP a b xs ys/\tp (bW c) ys a mid b p:=by
 have iv:=h.ay
 obtain⟨x0,B⟩:∃x,xs[a]? =some x:=⟨_,bk (by omega)⟩
 have a9:=Z p (aR z)
 refine Spec.body func239 rfl results239 ntmps239 rfl<|.sr<|.ag rfl<|.zs<|.dz [13,15] mixed<|.tO 0 rfl .move<|.tO 1 rfl .move<|.tK 2 rfl .move<|.tK 3 rfl .move<|.tO 4 rfl .move<|.tO 5 rfl .move ?_
 refine RA.bh 6 rfl (m) h z rfl rfl rfl (by kernel_rfl) (λd2=>?_)
 refine .tO 7 rfl (.aL rfl)<|.tO 8 rfl .move<|.tO 9 rfl .move ?_
 refine RA.bh 10 rfl (a) h B rfl rfl rfl (by kernel_rfl) (λd3=>?_)
 refine .tO 11 rfl (.aL rfl) ?_
 refine RA.bh 12 rfl (a) h B rfl rfl rfl (by kernel_rfl) (λd4=>?_)
 refine .sT 13 rfl<|.eK (a) h B p (λb0 a0=>?_) (h.one _ (aR z))
 refine .nil (Next.mod rfl ?_)
 refine RA.bh 14 rfl (m) h z rfl rfl rfl (by kernel_rfl) (λd5=>?_)
 refine .sT 15 rfl ?_
 obtain⟨zz,a1⟩:∃u,(xs.set (a) p)[m]? =some u:=⟨_,bk (by rw[aei];exact(aeg.1 z).1)⟩
 refine .eK (m) a0 a1 x0 (λO H=>?_) (h.one _ (aR B))
 rw[<-iX B z]at H
 refine .nil<|Next.mod rfl<|RA.nil (by kernel_rfl) ?_
 have b1:RP a b xs (dM xs a m):=(RP.refl xs).step (by omega) (by omega) (by omega) (by omega) (by omega)
 have b3:(dM xs a m)[a]? =some p:=by
  rw[gE (by omega) (by omega)]
  by_cases Y:a=m
  ·rw[aeh Y,B, <-z, <-Y,B]
  ·rw[aej Y,aeh rfl,z]
 refine au<|.sr<|.mo rfl<|.ia (a+1) .add<|.mo rfl<|.ia (b-1) .sub<|.ag rfl<|.ag rfl<|.zs<|.block<|.loop (X:=Nat×Nat×List aw×av) (λy=>OS 119 7 aw.enc v y.2.2.1 y.2.2.2/\RP a b xs y.2.2.1/\PQ (λx=> !bW c p x) y.2.2.1 a y.1 y.2.1 b p) (λy=>[(0,v),(1,iN a),(4,.func (.func f) #[] caps.toArray),(11,iN y.1),(12,iN y.2.1)]) (λy=>[y.2.2.2]) (λy=>y.2.1+1-y.1) (a+1,b-1,dM xs a m,O) ⟨H,b1,.start b2 b3⟩ kE.c.c.c.c.c rH ?_
 rintro⟨i,j,ys,J⟩ ⟨n,A,G⟩
 simp only at n A G⊢
 have d1:=A.length
 have c5:=G.i0
 have c7:=G.ij
 have c9:=G.jb
 have a8:=G.at_
 refine .block<|.seq ?_
 refine bu.cut (X:=Nat) (λr=>i<=r/\PQ (λx=> !bW c p x) ys a r j b p/\∀x,r<=j->ys[r]? =some x->(!bW c p x)=false) (λr=>[(0,v),(1,iN a),(4,.func (.func f) #[] caps.toArray),(11,.int .i64 (r:Nat)),(12,iN j)]) (λ_=>[J]) ?_ ?_
 refine .block<|.loop (X:=Nat) (λr=>i<=r/\PQ (λx=> !bW c p x) ys a r j b p) (λr=>[(0,v),(1,iN a),(4,.func (.func f) #[] caps.toArray),(11,.int .i64 (r:Nat)),(12,iN j)]) (λ_=>[J]) (λr=>j+1-r) i ⟨aef _,G⟩ kE.c.c.c.c.c rH ?_
 rintro E ⟨a3,V⟩
 refine .seq<|.seq<|.dY 13 mixed (by kernel_rfl) ?_
 conv=>arg 6;dsimp only[List.take]
 refine .mo rfl<|.mo rfl<|.q .leq<|.mo rfl<|.split (t:=34) rfl (λd=>?_) (λd=>?_)
 have b6:E<=j:=by have:=cL d;omega
 obtain⟨x2,M⟩:∃x,ys[E]? =some x:=⟨_,bk (by omega)⟩
 have c3:=Z x2 (A.perm.mem_iff.1 (aR M))
 refine .gT d<|.mo rfl<|.gT d<|.mo rfl<|.gT d<|.mo rfl<|.gT d ?_
 refine .bh a n a8 (λd6=>?_)
 refine .gT d<|.q (.aL rfl)<|.gT d<|.mo rfl<|.gT d<|.mo rfl<|.gT d ?_
 refine .bh E n M (λd7=>?_)
 refine .gT d<|.q (.aL rfl)<|.nil<|.gT d<|.gx (first:=[]) (captured:=caps) (vs:=[(λt:aw=>Value.agg t.enc.toArray) p,(λt:aw=>Value.agg t.enc.toArray) x2]) (hf p x2 a9 c3 _ (λb o L=>.inl L)) (λu hu=>?_)
 subst hu
 refine .gT d<|.q .lss<|.gT d<|.q .not<|.q (.aU d)<|.zn<|.cond rfl (λQ=>?_) λQ=>?_
 refine .kn<|.block<|.region<|.mo rfl<|.ia (E+1) .add<|.ag rfl<|.nil<|ba ?_
 ·exact bp (E+1) ⟨by omega,V.inc b6 M Q⟩ (by omega) kE.c.c.c.c.c rH
 refine .exit<|bD<|bG<|bE ?_
 exact aD E ⟨a3,V,λx l C=>by rw[M]at C;cases C;exact Q⟩ kE.c.c.c.c.c rH
 refine .gF d<|.gF d<|.gF d<|.gF d<|.gF d<|.gF d<|.gF d<|.gF d<|.gF d<|.nil<|.gF d<|.gF d<|.gF d<|.q (.aN d)<|.zn<|.dA<|.exit<|bD<|bG<|bE ?_
 exact aD E ⟨a3,V,λx l C=>by have:=bI d;omega⟩ kE.c.c.c.c.c rH
 intro x l
 obtain⟨g,a4⟩:∃g,g=x:=⟨_,rfl⟩
 rw[<-a4]at l⊢
 clear a4 x
 obtain⟨c6,a2,c1⟩:=l
 refine au<|.seq ?_
 refine bu.cut (X:=Nat) (λs=>s<=j/\PQ (λx=> !bW c p x) ys a g s b p/\∀x,g<=s->ys[s]? =some x->(!bW c p x)=true) (λs=>[(0,v),(1,iN a),(4,.func (.func f) #[] caps.toArray),(11,iN g),(12,.int .i64 (s:Nat))]) (λ_=>[J]) ?_ ?_
 refine .block<|.loop (X:=Nat) (λs=>s<=j/\PQ (λx=> !bW c p x) ys a g s b p) (λs=>[(0,v),(1,iN a),(4,.func (.func f) #[] caps.toArray),(11,iN g),(12,.int .i64 (s:Nat))]) (λ_=>[J]) (λs=>s) j ⟨aef _,a2⟩ kE.c.c.c.c.c rH ?_
 rintro F ⟨a5,W⟩
 have b5:=a2.i0
 refine .seq<|.seq<|.dY 13 mixed (by kernel_rfl) ?_
 conv=>arg 6;dsimp only[List.take]
 refine .mo rfl<|.mo rfl<|.q .leq<|.mo rfl<|.split (t:=53) rfl (λe=>?_) (λe=>?_)
 have b7:g<=F:=by have:=cL e;omega
 obtain⟨I,N⟩:∃x,ys[F]? =some x:=⟨_,bk (by omega)⟩
 have c4:=Z I (A.perm.mem_iff.1 (aR N))
 refine .gT e<|.mo rfl<|.gT e<|.mo rfl<|.gT e<|.mo rfl<|.gT e ?_
 refine .bh a n a8 (λd8=>?_)
 refine .gT e<|.q (.aL rfl)<|.gT e<|.mo rfl<|.gT e<|.mo rfl<|.gT e ?_
 refine .bh F n N (λd9=>?_)
 refine .gT e<|.q (.aL rfl)<|.nil<|.gT e<|.gx (first:=[]) (captured:=caps) (vs:=[(λt:aw=>Value.agg t.enc.toArray) p,(λt:aw=>Value.agg t.enc.toArray) I]) (hf p I a9 c4 _ (λb o L=>.inl L)) (λu hu=>?_)
 subst hu
 refine .gT e<|.q .lss<|.q (.aU e)<|.zn<|.cond rfl (λS=>?_) λS=>?_
 refine .kn<|.block<|.region<|.mo rfl<|.ia (F-1) .sub<|.ag rfl<|.nil<|ba ?_
 ·have b9:bW c p I=true:=S
  exact bp (F-1) ⟨by omega,W.dec b7 N (by rw[b9];rfl)⟩ (by omega) kE.c.c.c.c.c rH
 refine .exit<|bD<|bG<|bE ?_
 exact aD F ⟨a5,W,λx l C=>by have hh:bW c p I=false:=S;rw[N]at C;cases C;rw[hh];rfl⟩ kE.c.c.c.c.c rH
 refine .gF e<|.gF e<|.gF e<|.gF e<|.gF e<|.gF e<|.gF e<|.gF e<|.gF e<|.nil<|.gF e<|.gF e<|.q (.aN e)<|.zn<|.dA<|.exit<|bD<|bG<|bE ?_
 exact aD F ⟨a5,W,λx l C=>by have:=bI e;omega⟩ kE.c.c.c.c.c rH
 intro x l
 obtain⟨w,a6⟩:∃w,w=x:=⟨_,rfl⟩
 rw[<-a6]at l⊢
 clear a6 x
 obtain⟨d0,K,c2⟩:=l
 have b5:=K.i0
 have c8:=K.ij
 refine au<|.seq<|.sr<|.mo rfl<|.mo rfl<|.q .gtr<|.zn<|.cond rfl (λU=>?_) λU=>?_
 refine .exit (bD (lX (bG (bE ?_))))
 refine au<|.sr<|.mo rfl<|.az rfl<|.ret (br _ (.one (.tmp rfl)) rH ?_)
 ·have b4:w<g:=cK U
  exact⟨_,rfl,ys,g,rfl,n,A,K.Md so b4 (A.all (p:=λx=>bW c x p=false) b8)⟩
 have a7:g<=w:=by have:=bI U;omega
 obtain⟨x,l⟩:∃x,ys[g]? =some x:=⟨_,bk (by omega)⟩
 obtain⟨y,D⟩:∃x,ys[w]? =some x:=⟨_,bk (by omega)⟩
 have c0:=K.sw a7 (by omega) l D (c1 x (by omega) l) (c2 y a7 D)
 refine .kn<|.seq<|.dz [13,15] mixed<|.tO 0 rfl .move<|.tO 1 rfl .move<|.tK 2 rfl .move<|.tK 3 rfl .move<|.tO 4 rfl .move<|.tO 5 rfl .move ?_
 refine RA.bh 6 rfl (w) n D rfl rfl rfl (by kernel_rfl) (λe0=>?_)
 refine .tO 7 rfl (.aL rfl)<|.tO 8 rfl .move<|.tO 9 rfl .move ?_
 refine RA.bh 10 rfl (g) n l rfl rfl rfl (by kernel_rfl) (λe1=>?_)
 refine .tO 11 rfl (.aL rfl) ?_
 refine RA.bh 12 rfl (g) n l rfl rfl rfl (by kernel_rfl) (λe2=>?_)
 refine .sT 13 rfl<|.eK (g) n l y (λb0 a0=>?_) (n.one _ (aR D))
 refine .nil (Next.mod rfl ?_)
 refine RA.bh 14 rfl (w) n D rfl rfl rfl (by kernel_rfl) (λe3=>?_)
 refine .sT 15 rfl ?_
 obtain⟨zz,a1⟩:∃u,(ys.set (g) y)[w]? =some u:=⟨_,bk (by rw[aei];exact(aeg.1 D).1)⟩
 refine .eK (w) a0 a1 x (λO H=>?_) (n.one _ (aR l))
 rw[<-iX l D]at H
 refine .nil<|Next.mod rfl<|RA.nil (by kernel_rfl)<|au<|.sr<|.mo rfl<|.ia (g+1) .add<|.az rfl<|.region<|.mo rfl<|.ia (w-1) .sub<|.ag rfl<|.nil<|ba ?_
 ·exact bp (g+1,w-1,dM ys g w,O) ⟨H,A.step (by omega) (by omega) (by omega) (by omega) (by omega),c0.2⟩ (by simp only;omega) kE.c.c.c.c.c rH
theorem zZ(v:Value)(xs:List aw)(T:av)(a b m:Nat)(p:aw)(R:aA)(h:OS 119 7 aw.enc v xs T)(d8:a<b)(hm:a<=m/\m<b)(N:xs[m]? =some p)(M:b<=xs.length)(hl:xs.length<=1000000000)(hf:iQ prog f caps R (λt:aw=>Value.agg t.enc.toArray) c ok)(a4:∀x∈xs,ok x)(so:SO (bW c)):
  Spec prog 240 [v,.int .i64 a,.int .i64 b,.int .i64 m,.func (.func f) #[] caps.toArray] R [T] λu H'=>∃T',H'=[T']/\∃ys mid z,u=.tuple [iN mid,.bool z].toArray/\OS 119 7 aw.enc v ys T'/\RP a b xs ys/\Part (bW c) ys a mid b p:=by
 obtain⟨x0,S⟩:∃x,xs[a]? =some x:=⟨_,bk (by omega)⟩
 have b4:=a4 p (aR N)
 refine Spec.body func240 rfl results240 ntmps240 rfl ?_
 refine .sr<|.ag rfl<|.ag rfl<|.zs<|.dz [13,15] mixed ?_
 refine .tO 0 rfl .move<|.tO 1 rfl .move<|.tK 2 rfl .move<|.tK 3 rfl .move<|.tO 4 rfl .move<|.tO 5 rfl .move ?_
 refine RA.bh 6 rfl (m) h N rfl rfl rfl (by kernel_rfl) (λj6=>?_)
 refine .tO 7 rfl (.aL rfl)<|.tO 8 rfl .move<|.tO 9 rfl .move ?_
 refine RA.bh 10 rfl (a) h S rfl rfl rfl (by kernel_rfl) (λj7=>?_)
 refine .tO 11 rfl (.aL rfl) ?_
 refine RA.bh 12 rfl (a) h S rfl rfl rfl (by kernel_rfl) (λj8=>?_)
 refine .sT 13 rfl ?_
 refine .eK (a) h S p (λa7 J=>?_) (h.one _ (aR N))
 refine .nil (Next.mod rfl ?_)
 refine RA.bh 14 rfl (m) h N rfl rfl rfl (by kernel_rfl) (λk0=>?_)
 refine .sT 15 rfl ?_
 obtain⟨zz,K⟩:∃u,(xs.set (a) p)[m]? =some u:=⟨_,bk (by rw[aei];exact(aeg.1 N).1)⟩
 refine .eK (m) J K x0 (λO D=>?_) (h.one _ (aR S))
 rw[<-iX S N]at D
 refine .nil (Next.mod rfl ?_)
 refine RA.nil (by kernel_rfl) ?_
 have a1:RP a b xs (dM xs a m):=(RP.refl xs).step (by omega) (by omega) (by omega) (by omega) (by omega)
 have I:(dM xs a m)[a]? =some p:=by
  rw[gE (by omega) (by omega)]
  by_cases hk:a=m
  ·rw[aeh hk,S, <-N, <-hk,S]
  ·rw[aej hk,aeh rfl,N]
 obtain⟨C,d3⟩:∃C,C=dM xs a m:=⟨_,rfl⟩
 rw[<-d3]at D a1 I
 obtain⟨T0,d7⟩:∃T0,T0=O:=⟨_,rfl⟩
 rw[<-d7]at D⊢
 have g9:=a1.length
 have w:=D
 clear D
 have d6:PQ (λx=>bW c x p) C a (a+1) (b-1) b p:=.start d8 I
 clear d3
 refine au<|.sr<|.mo rfl ?_
 refine .ia (a+1) .add ?_
 refine .mo rfl ?_
 refine .ia (b-1) .sub ?_
 refine .ag rfl<|.ag rfl<|.zs ?_
 refine bu.cut (X:=Nat) (λr=>PQ (λx=>bW c x p) C a r (b-1) b p/\∀x,r<=b-1->C[r]? =some x->bW c x p=false) (λr=>[(0,v),(1,iN a),(4,.func (.func f) #[] caps.toArray),(12,.int .i64 (r:Nat)),(13,.int .i64 ((b-1:Nat):Int))]) (λ_=>[T0]) ?_ ?_
 refine .block ?_
 refine .loop (X:=Nat) (λr=>PQ (λx=>bW c x p) C a r (b-1) b p) (λr=>[(0,v),(1,iN a),(4,.func (.func f) #[] caps.toArray),(12,.int .i64 (r:Nat)),(13,.int .i64 ((b-1:Nat):Int))]) (λ_=>[T0]) (λr=>b-r) (a+1) d6 kE.c.c.c.c.c rH ?_
 rintro W b5
 refine .seq<|.seq ?_
 refine .dY 13 mixed (by kernel_rfl) ?_
 conv=>arg 6;dsimp only[List.take]
 refine .mo rfl<|.mo rfl<|.q .leq<|.mo rfl ?_
 refine .split (t:=35) rfl (λl=>?_) (λl=>?_)
 have e2:W<=b-1:=by have:=cL l;omega
 obtain⟨x2,b0⟩:∃x,C[W]? =some x:=⟨_,bk (by omega)⟩
 have f4:=a4 x2 (a1.perm.mem_iff.1 (aR b0))
 refine .gT l<|.mo rfl<|.gT l<|.mo rfl<|.gT l<|.mo rfl<|.gT l ?_
 refine .bh W w b0 (λk1=>?_)
 refine .gT l<|.q (.aL rfl)<|.gT l<|.mo rfl<|.gT l<|.mo rfl<|.gT l ?_
 refine .bh a w I (λk4=>?_)
 refine .gT l<|.q (.aL rfl)<|.nil<|.gT l ?_
 refine .gx (first:=[]) (captured:=caps) (vs:=[(λt:aw=>Value.agg t.enc.toArray) x2,(λt:aw=>Value.agg t.enc.toArray) p]) (hf x2 p f4 b4 _ (λb o M=>.inl M)) (λu Q=>?_)
 subst Q
 refine .gT l<|.q .lss<|.q (.aU l) ?_
 refine .zn ?_
 refine .cond rfl (λh1=>?_) λh1=>?_
 refine .kn<|.block<|.region<|.mo rfl ?_
 refine .ia (W+1) .add ?_
 refine .ag rfl<|.nil<|ba ?_
 ·exact bp (W+1) (b5.inc e2 b0 h1) (by omega) kE.c.c.c.c.c rH
 refine .exit<|bD<|bG<|bE ?_
 exact aD W ⟨b5,λx g E=>by rw[b0]at E;cases E;exact h1⟩ kE.c.c.c.c.c rH
 refine .gF l<|.gF l<|.gF l<|.gF l<|.gF l<|.gF l<|.gF l<|.gF l<|.gF l<|.nil<|.gF l<|.gF l<|.q (.aN l) ?_
 refine .zn<|.dA<|.exit<|bD<|bG<|bE ?_
 exact aD W ⟨b5,λx g E=>by have:=bI l;omega⟩ kE.c.c.c.c.c rH
 intro x g
 obtain⟨A,c2⟩:∃A,A=x:=⟨_,rfl⟩
 rw[<-c2]at g⊢
 clear c2 x
 obtain⟨c0,f0⟩:=g
 refine au<|.seq ?_
 refine bu.cut (X:=Nat) (λn=>n<=b-1/\PQ (λx=>bW c x p) C a A n b p/\∀x,A<=n->C[n]? =some x->bW c x p=true) (λn=>[(0,v),(1,iN a),(4,.func (.func f) #[] caps.toArray),(12,iN A),(13,.int .i64 (n:Nat))]) (λ_=>[T0]) ?_ ?_
 refine .block ?_
 refine .loop (X:=Nat) (λn=>n<=b-1/\PQ (λx=>bW c x p) C a A n b p) (λn=>[(0,v),(1,iN a),(4,.func (.func f) #[] caps.toArray),(12,iN A),(13,.int .i64 (n:Nat))]) (λ_=>[T0]) (λn=>n) (b-1) ⟨aef _,c0⟩ kE.c.c.c.c.c rH ?_
 rintro Y ⟨c3,b6⟩
 have e0:=c0.i0
 refine .seq<|.seq ?_
 refine .dY 13 mixed (by kernel_rfl) ?_
 conv=>arg 6;dsimp only[List.take]
 refine .mo rfl<|.mo rfl<|.q .leq<|.mo rfl ?_
 refine .split (t:=53) rfl (λe=>?_) (λe=>?_)
 have e3:A<=Y:=by have:=cL e;omega
 obtain⟨x4,b1⟩:∃x,C[Y]? =some x:=⟨_,bk (by omega)⟩
 have f5:=a4 x4 (a1.perm.mem_iff.1 (aR b1))
 refine .gT e<|.mo rfl<|.gT e<|.mo rfl<|.gT e<|.mo rfl<|.gT e ?_
 refine .bh Y w b1 (λk5=>?_)
 refine .gT e<|.q (.aL rfl)<|.gT e<|.mo rfl<|.gT e<|.mo rfl<|.gT e ?_
 refine .bh a w I (λk6=>?_)
 refine .gT e<|.q (.aL rfl)<|.nil<|.gT e ?_
 refine .gx (first:=[]) (captured:=caps) (vs:=[(λt:aw=>Value.agg t.enc.toArray) x4,(λt:aw=>Value.agg t.enc.toArray) p]) (hf x4 p f5 b4 _ (λb o M=>.inl M)) (λu Q=>?_)
 subst Q
 refine .gT e<|.q .lss<|.gT e<|.q .not<|.q (.aU e) ?_
 refine .zn ?_
 refine .cond rfl (λh2=>?_) λh2=>?_
 refine .kn<|.block<|.region<|.mo rfl ?_
 refine .ia (Y-1) .sub ?_
 refine .ag rfl<|.nil<|ba ?_
 ·have e6:bW c x4 p=false:=by
   have d4:(!bW c x4 p)=true:=h2
   simpa using d4
  exact bp (Y-1) ⟨by omega,b6.dec e3 b1 e6⟩ (by omega) kE.c.c.c.c.c rH
 refine .exit<|bD<|bG<|bE ?_
 exact aD Y ⟨c3,b6,λx g E=>by
  have hh:(!bW c x4 p)=false:=h2
  rw[b1]at E;cases E
  simpa using hh⟩ kE.c.c.c.c.c rH
 refine .gF e<|.gF e<|.gF e<|.gF e<|.gF e<|.gF e<|.gF e<|.gF e<|.gF e<|.nil<|.gF e<|.gF e<|.gF e<|.q (.aN e) ?_
 refine .zn<|.dA<|.exit<|bD<|bG<|bE ?_
 exact aD Y ⟨c3,b6,λx g E=>by have:=bI e;omega⟩ kE.c.c.c.c.c rH
 intro x g
 obtain⟨s,c4⟩:∃s,s=x:=⟨_,rfl⟩
 rw[<-c4]at g⊢
 clear c4 x
 obtain⟨g6,a8,f1⟩:=g
 have e0:=a8.i0
 have g0:=a8.ij
 refine au<|.seq<|.sr<|.mo rfl<|.mo rfl<|.q .gtr<|.zn ?_
 refine .cond rfl (λh3=>?_) λh3=>?_
 have d9:s<A:=cK h3
 obtain⟨y,G⟩:∃x,C[s]? =some x:=⟨_,bk (by omega)⟩
 refine .seq<|.dz [13,15] mixed ?_
 refine .tO 0 rfl .move<|.tO 1 rfl .move<|.tK 2 rfl .move<|.tK 3 rfl .move<|.tO 4 rfl .move<|.tO 5 rfl .move ?_
 refine RA.bh 6 rfl (a) w I rfl rfl rfl (by kernel_rfl) (λk7=>?_)
 refine .tO 7 rfl (.aL rfl)<|.tO 8 rfl .move<|.tO 9 rfl .move ?_
 refine RA.bh 10 rfl (s) w G rfl rfl rfl (by kernel_rfl) (λk8=>?_)
 refine .tO 11 rfl (.aL rfl) ?_
 refine RA.bh 12 rfl (s) w G rfl rfl rfl (by kernel_rfl) (λk9=>?_)
 refine .sT 13 rfl ?_
 refine .eK (s) w G p (λa7 J=>?_) (w.one _ (aR I))
 refine .nil (Next.mod rfl ?_)
 refine RA.bh 14 rfl (a) w I rfl rfl rfl (by kernel_rfl) (λl0=>?_)
 refine .sT 15 rfl ?_
 obtain⟨zz,K⟩:∃u,(C.set (s) p)[a]? =some u:=⟨_,bk (by rw[aei];exact(aeg.1 I).1)⟩
 refine .eK (a) J K y (λO D=>?_) (w.one _ (aR G))
 rw[<-iX G I]at D
 refine .nil (Next.mod rfl ?_)
 refine RA.nil (by kernel_rfl) ?_
 refine au<|.sr<|.mo rfl<|.ag rfl<|.az rfl ?_
 refine .ret (aJ (br _ (.two (.tmp rfl) (.tmp rfl)) rH ?_))
 ·exact⟨_,rfl,dM C s a,s,true,rfl,D,a1.step (by omega) (by omega) (by omega) (by omega) (by omega),a8.fin d9 (by omega)⟩
 have c8:A<=s:=by have:=bI h3;omega
 obtain⟨x,g⟩:∃x,C[A]? =some x:=⟨_,bk (by omega)⟩
 obtain⟨y,G⟩:∃x,C[s]? =some x:=⟨_,bk (by omega)⟩
 have e8:=a8.sw c8 (by omega) g G (f0 x (by omega) g) (f1 y c8 G)
 refine .kn<|.seq<|.dz [13,15] mixed ?_
 refine .tO 0 rfl .move<|.tO 1 rfl .move<|.tK 2 rfl .move<|.tK 3 rfl .move<|.tO 4 rfl .move<|.tO 5 rfl .move ?_
 refine RA.bh 6 rfl (s) w G rfl rfl rfl (by kernel_rfl) (λl1=>?_)
 refine .tO 7 rfl (.aL rfl)<|.tO 8 rfl .move<|.tO 9 rfl .move ?_
 refine RA.bh 10 rfl (A) w g rfl rfl rfl (by kernel_rfl) (λl2=>?_)
 refine .tO 11 rfl (.aL rfl) ?_
 refine RA.bh 12 rfl (A) w g rfl rfl rfl (by kernel_rfl) (λl3=>?_)
 refine .sT 13 rfl ?_
 refine .eK (A) w g y (λa7 J=>?_) (w.one _ (aR G))
 refine .nil (Next.mod rfl ?_)
 refine RA.bh 14 rfl (s) w G rfl rfl rfl (by kernel_rfl) (λh7=>?_)
 refine .sT 15 rfl ?_
 obtain⟨zz,K⟩:∃u,(C.set (A) y)[s]? =some u:=⟨_,bk (by rw[aei];exact(aeg.1 G).1)⟩
 refine .eK (s) J K x (λO D=>?_) (w.one _ (aR g))
 rw[<-iX g G]at D
 refine .nil (Next.mod rfl ?_)
 refine RA.nil (by kernel_rfl) ?_
 refine au<|.sr<|.mo rfl ?_
 refine .ia (A+1) .add ?_
 refine .ag rfl<|.z<|.mo rfl ?_
 refine .ia (s-1) .sub ?_
 refine .ag rfl<|.zs ?_
 refine bu.cut (X:=Nat×Nat×List aw×av) (λy=>OS 119 7 aw.enc v y.2.2.1 y.2.2.2/\RP a b xs y.2.2.1/\PQ (λx=>bW c x p) y.2.2.1 a y.1 y.2.1 b p/\y.2.1<y.1) (λy=>[(0,v),(1,iN a),(4,.func (.func f) #[] caps.toArray),(12,iN y.1),(13,iN y.2.1)]) (λy=>[y.2.2.2]) ?_ ?_
 refine .block ?_
 refine .loop (X:=Nat×Nat×List aw×av) (λy=>OS 119 7 aw.enc v y.2.2.1 y.2.2.2/\RP a b xs y.2.2.1/\PQ (λx=>bW c x p) y.2.2.1 a y.1 y.2.1 b p) (λy=>[(0,v),(1,iN a),(4,.func (.func f) #[] caps.toArray),(12,iN y.1),(13,iN y.2.1)]) (λy=>[y.2.2.2]) (λy=>y.2.1+1-y.1) (A+1,s-1,dM C A s,O) ⟨D,a1.step (by omega) (by omega) (by omega) (by omega) (by omega),e8.2⟩ kE.c.c.c.c.c rH ?_
 rintro⟨i,j,ys,T1⟩ ⟨F,a2,a3⟩
 simp only at F a2 a3⊢
 have g8:=a2.length
 have f9:=a3.ij
 have g4:=a3.jb
 have d2:=a3.at_
 refine .block<|.seq ?_
 refine bu.cut (X:=Nat) (λr=>i<=r/\PQ (λx=>bW c x p) ys a r j b p/\∀x,r<=j->ys[r]? =some x->bW c x p=false) (λr=>[(0,v),(1,iN a),(4,.func (.func f) #[] caps.toArray),(12,.int .i64 (r:Nat)),(13,iN j)]) (λ_=>[T1]) ?_ ?_
 refine .block ?_
 refine .loop (X:=Nat) (λr=>i<=r/\PQ (λx=>bW c x p) ys a r j b p) (λr=>[(0,v),(1,iN a),(4,.func (.func f) #[] caps.toArray),(12,.int .i64 (r:Nat)),(13,iN j)]) (λ_=>[T1]) (λr=>j+1-r) i ⟨aef _,a3⟩ kE.c.c.c.c.c rH ?_
 rintro k2 ⟨c6,b8⟩
 refine .seq<|.seq ?_
 refine .dY 13 mixed (by kernel_rfl) ?_
 conv=>arg 6;dsimp only[List.take]
 refine .mo rfl<|.mo rfl<|.q .leq<|.mo rfl ?_
 refine .split (t:=108) rfl (λk=>?_) (λk=>?_)
 have e4:k2<=j:=by have:=cL k;omega
 obtain⟨x6,b2⟩:∃x,ys[k2]? =some x:=⟨_,bk (by omega)⟩
 have f6:=a4 x6 (a2.perm.mem_iff.1 (aR b2))
 refine .gT k<|.mo rfl<|.gT k<|.mo rfl<|.gT k<|.mo rfl<|.gT k ?_
 refine .bh k2 F b2 (λh8=>?_)
 refine .gT k<|.q (.aL rfl)<|.gT k<|.mo rfl<|.gT k<|.mo rfl<|.gT k ?_
 refine .bh a F d2 (λh9=>?_)
 refine .gT k<|.q (.aL rfl)<|.nil<|.gT k ?_
 refine .gx (first:=[]) (captured:=caps) (vs:=[(λt:aw=>Value.agg t.enc.toArray) x6,(λt:aw=>Value.agg t.enc.toArray) p]) (hf x6 p f6 b4 _ (λb o M=>.inl M)) (λu Q=>?_)
 subst Q
 refine .gT k<|.q .lss<|.q (.aU k) ?_
 refine .zn ?_
 refine .cond rfl (λh4=>?_) λh4=>?_
 refine .kn<|.block<|.region<|.mo rfl ?_
 refine .ia (k2+1) .add ?_
 refine .ag rfl<|.nil<|ba ?_
 ·exact bp (k2+1) ⟨by omega,b8.inc e4 b2 h4⟩ (by omega) kE.c.c.c.c.c rH
 refine .exit<|bD<|bG<|bE ?_
 exact aD k2 ⟨c6,b8,λx g E=>by rw[b2]at E;cases E;exact h4⟩ kE.c.c.c.c.c rH
 refine .gF k<|.gF k<|.gF k<|.gF k<|.gF k<|.gF k<|.gF k<|.gF k<|.gF k<|.nil<|.gF k<|.gF k<|.q (.aN k) ?_
 refine .zn<|.dA<|.exit<|bD<|bG<|bE ?_
 exact aD k2 ⟨c6,b8,λx g E=>by have:=bI k;omega⟩ kE.c.c.c.c.c rH
 intro x g
 obtain⟨B,c7⟩:∃B,B=x:=⟨_,rfl⟩
 rw[<-c7]at g⊢
 clear c7 x
 obtain⟨g3,c1,f2⟩:=g
 refine au<|.seq ?_
 refine bu.cut (X:=Nat) (λn=>n<=j/\PQ (λx=>bW c x p) ys a B n b p/\∀x,B<=n->ys[n]? =some x->bW c x p=true) (λn=>[(0,v),(1,iN a),(4,.func (.func f) #[] caps.toArray),(12,iN B),(13,.int .i64 (n:Nat))]) (λ_=>[T1]) ?_ ?_
 refine .block ?_
 refine .loop (X:=Nat) (λn=>n<=j/\PQ (λx=>bW c x p) ys a B n b p) (λn=>[(0,v),(1,iN a),(4,.func (.func f) #[] caps.toArray),(12,iN B),(13,.int .i64 (n:Nat))]) (λ_=>[T1]) (λn=>n) j ⟨aef _,c1⟩ kE.c.c.c.c.c rH ?_
 rintro m2 ⟨d0,b9⟩
 have e1:=c1.i0
 refine .seq<|.seq ?_
 refine .dY 13 mixed (by kernel_rfl) ?_
 conv=>arg 6;dsimp only[List.take]
 refine .mo rfl<|.mo rfl<|.q .leq<|.mo rfl ?_
 refine .split (t:=126) rfl (λd=>?_) (λd=>?_)
 have e5:B<=m2:=by have:=cL d;omega
 obtain⟨x7,b3⟩:∃x,ys[m2]? =some x:=⟨_,bk (by omega)⟩
 have f7:=a4 x7 (a2.perm.mem_iff.1 (aR b3))
 refine .gT d<|.mo rfl<|.gT d<|.mo rfl<|.gT d<|.mo rfl<|.gT d ?_
 refine .bh m2 F b3 (λi1=>?_)
 refine .gT d<|.q (.aL rfl)<|.gT d<|.mo rfl<|.gT d<|.mo rfl<|.gT d ?_
 refine .bh a F d2 (λi4=>?_)
 refine .gT d<|.q (.aL rfl)<|.nil<|.gT d ?_
 refine .gx (first:=[]) (captured:=caps) (vs:=[(λt:aw=>Value.agg t.enc.toArray) x7,(λt:aw=>Value.agg t.enc.toArray) p]) (hf x7 p f7 b4 _ (λb o M=>.inl M)) (λu Q=>?_)
 subst Q
 refine .gT d<|.q .lss<|.gT d<|.q .not<|.q (.aU d) ?_
 refine .zn ?_
 refine .cond rfl (λh5=>?_) λh5=>?_
 refine .kn<|.block<|.region<|.mo rfl ?_
 refine .ia (m2-1) .sub ?_
 refine .ag rfl<|.nil<|ba ?_
 ·have e7:bW c x7 p=false:=by
   have d5:(!bW c x7 p)=true:=h5
   simpa using d5
  exact bp (m2-1) ⟨by omega,b9.dec e5 b3 e7⟩ (by omega) kE.c.c.c.c.c rH
 refine .exit<|bD<|bG<|bE ?_
 exact aD m2 ⟨d0,b9,λx g E=>by
  have hh:(!bW c x7 p)=false:=h5
  rw[b3]at E;cases E
  simpa using hh⟩ kE.c.c.c.c.c rH
 refine .gF d<|.gF d<|.gF d<|.gF d<|.gF d<|.gF d<|.gF d<|.gF d<|.gF d<|.nil<|.gF d<|.gF d<|.gF d<|.q (.aN d) ?_
 refine .zn<|.dA<|.exit<|bD<|bG<|bE ?_
 exact aD m2 ⟨d0,b9,λx g E=>by have:=bI d;omega⟩ kE.c.c.c.c.c rH
 intro x g
 obtain⟨H,d1⟩:∃H,H=x:=⟨_,rfl⟩
 rw[<-d1]at g⊢
 clear d1 x
 obtain⟨g7,a9,f3⟩:=g
 have e1:=a9.i0
 have g1:=a9.ij
 refine au<|.seq<|.sr<|.mo rfl<|.mo rfl<|.q .gtr<|.zn ?_
 refine .cond rfl (λh6=>?_) λh6=>?_
 refine .exit (bD (lX (bG (bE ?_))))
 exact aD (B,H,ys,T1) ⟨F,a2,a9,by have:=cL h6;simp only;omega⟩ kE.c.c.c.c.c rH
 have c9:B<=H:=by have:=bI h6;omega
 obtain⟨x8,U⟩:∃x,ys[B]? =some x:=⟨_,bk (by omega)⟩
 obtain⟨y8,V⟩:∃x,ys[H]? =some x:=⟨_,bk (by omega)⟩
 have e9:=a9.sw c9 (by omega) U V (f2 x8 (by omega) U) (f3 y8 c9 V)
 refine .kn<|.seq<|.dz [13,15] mixed ?_
 refine .tO 0 rfl .move<|.tO 1 rfl .move<|.tK 2 rfl .move<|.tK 3 rfl .move<|.tO 4 rfl .move<|.tO 5 rfl .move ?_
 refine RA.bh 6 rfl (H) F V rfl rfl rfl (by kernel_rfl) (λi5=>?_)
 refine .tO 7 rfl (.aL rfl)<|.tO 8 rfl .move<|.tO 9 rfl .move ?_
 refine RA.bh 10 rfl (B) F U rfl rfl rfl (by kernel_rfl) (λi6=>?_)
 refine .tO 11 rfl (.aL rfl) ?_
 refine RA.bh 12 rfl (B) F U rfl rfl rfl (by kernel_rfl) (λi7=>?_)
 refine .sT 13 rfl ?_
 refine .eK (B) F U y8 (λa7 J=>?_) (F.one _ (aR V))
 refine .nil (Next.mod rfl ?_)
 refine RA.bh 14 rfl (H) F V rfl rfl rfl (by kernel_rfl) (λi8=>?_)
 refine .sT 15 rfl ?_
 obtain⟨zz,K⟩:∃u,(ys.set (B) y8)[H]? =some u:=⟨_,bk (by rw[aei];exact(aeg.1 V).1)⟩
 refine .eK (H) J K x8 (λO D=>?_) (F.one _ (aR U))
 rw[<-iX U V]at D
 refine .nil (Next.mod rfl ?_)
 refine RA.nil (by kernel_rfl) ?_
 refine au<|.sr<|.mo rfl ?_
 refine .ia (B+1) .add ?_
 refine .az rfl<|.region<|.mo rfl ?_
 refine .ia (H-1) .sub ?_
 refine .ag rfl<|.nil<|ba ?_
 ·exact bp (B+1,H-1,dM ys B H,O) ⟨D,a2.step (by omega) (by omega) (by omega) (by omega) (by omega),e9.2⟩ (by simp only;omega) kE.c.c.c.c.c rH
 intro x g
 obtain⟨i9,Z,zs,T9⟩:=x
 obtain⟨L,b7,a0,c5⟩:=g
 simp only at L b7 a0 c5⊢
 have h0:=b7.length
 have g2:=a0.ij
 have f8:=a0.i0
 have g5:=a0.jb
 have a5:=a0.at_
 obtain⟨y9,a6⟩:∃x,zs[Z]? =some x:=⟨_,bk (by omega)⟩
 refine au<|.seq<|.dz [13,15] mixed ?_
 refine .tO 0 rfl .move<|.tO 1 rfl .move<|.tK 2 rfl .move<|.tK 3 rfl .move<|.tO 4 rfl .move<|.tO 5 rfl .move ?_
 refine RA.bh 6 rfl (a) L a5 rfl rfl rfl (by kernel_rfl) (λj0=>?_)
 refine .tO 7 rfl (.aL rfl)<|.tO 8 rfl .move<|.tO 9 rfl .move ?_
 refine RA.bh 10 rfl (Z) L a6 rfl rfl rfl (by kernel_rfl) (λj1=>?_)
 refine .tO 11 rfl (.aL rfl) ?_
 refine RA.bh 12 rfl (Z) L a6 rfl rfl rfl (by kernel_rfl) (λj4=>?_)
 refine .sT 13 rfl ?_
 refine .eK (Z) L a6 p (λa7 J=>?_) (L.one _ (aR a5))
 refine .nil (Next.mod rfl ?_)
 refine RA.bh 14 rfl (a) L a5 rfl rfl rfl (by kernel_rfl) (λj5=>?_)
 refine .sT 15 rfl ?_
 obtain⟨zz,K⟩:∃u,(zs.set (Z) p)[a]? =some u:=⟨_,bk (by rw[aei];exact(aeg.1 a5).1)⟩
 refine .eK (a) J K y9 (λO D=>?_) (L.one _ (aR a6))
 rw[<-iX a6 a5]at D
 refine .nil (Next.mod rfl ?_)
 refine RA.nil (by kernel_rfl) ?_
 refine au<|.sr<|.mo rfl<|.ag rfl<|.az rfl ?_
 refine .ret (br _ (.two (.tmp rfl) (.tmp rfl)) rH ?_)
 ·exact⟨_,rfl,dM zs Z a,Z,false,rfl,D,b7.step (by omega) (by omega) (by omega) (by omega) (by omega),a0.fin c5 (by omega)⟩
end
end STP
namespace STP
section
variable{c:aw->aw->Int}{ok:aw->Prop}{f:FuncId}{caps:List Value} [e:aT prog f]
def wA(c:aw->aw->Int)(ok:aw->Prop)(f:FuncId)(caps:List Value)(n:Nat):Prop:=∀(v:Value) (xs:List aw) (T:av) (a b qC:Nat) (R:aA),OS 119 7 aw.enc v xs T->a<=b->b<=xs.length->xs.length<=1000000000->qC<=1000000000->iQ prog f caps R (λt:aw=>Value.agg t.enc.toArray) c ok->(∀x∈xs,ok x)->LB (bW c) xs a b->b-a<n->
  Spec prog 185 [v,.int .i64 a,.int .i64 b,.int .i64 qC,.func (.func f) #[] caps.toArray] R [T] λu H'=>∃T',H'=[T']/\u=.tuple #[]/\∃ys,OS 119 7 aw.enc v ys T'/\RP a b xs ys/\SR (bW c) ys a b
theorem Oo(n:Nat)(ih:wA c ok f caps n)(D:SO (bW c))(v:Value)(xs:List aw)(T:av)(A r c4:Nat)(R:aA)(h:OS 119 7 aw.enc v xs T)(d2:A<=r)(hb:r<=xs.length)(hl:xs.length<=1000000000)(d7:c4<=1000000000)(C:iQ prog f caps R (λt:aw=>Value.agg t.enc.toArray) c ok)(d9:∀x∈xs,ok x)(d5:LB (bW c) xs A r)(hn:r-A<n+1):
  Spec prog 185 [v,.int .i64 A,.int .i64 r,.int .i64 c4,.func (.func f) #[] caps.toArray] R [T] λu H'=>∃T',H'=[T']/\u=.tuple #[]/\∃ys,OS 119 7 aw.enc v ys T'/\RP A r xs ys/\SR (bW c) ys A r:=by
 have iv:=h.ay
 refine Spec.body func185 rfl results185 ntmps185 rfl<|.sr<|.ag rfl<|.z<|.az rfl<|.block<|.loop (X:=Nat×Nat×Nat×Bool×Bool×List aw×av) (λy=>(A<=y.1/\y.1<=y.2.1/\y.2.1<=r/\y.2.2.1<=1000000000)/\OS 119 7 aw.enc v y.2.2.2.2.2.1 y.2.2.2.2.2.2/\RP A r xs y.2.2.2.2.2.1/\OX (bW c) y.2.2.2.2.2.1 A r y.1 y.2.1) (λy=>[(0,v),(1,iN y.1),(2,iN y.2.1),(3,iN y.2.2.1),(4,.func (.func f) #[] caps.toArray),(10,.bool y.2.2.2.1),(11,.bool y.2.2.2.2.1)]) (λy=>[y.2.2.2.2.2.2]) (λy=>y.2.1-y.1) (A,r,c4,true,true,xs,T) ⟨⟨aef _,d2,aef _,d7⟩,h,.refl _,.start⟩ kE.c.c.c.c.c.c.c rH ?_
 rintro⟨a,b,l,wb,wp,ys,T1⟩ ⟨⟨i,b3,j,d4⟩,a6,M,a4⟩
 simp only at i b3 j d4 a6 M a4⊢
 have e9:=M.length
 have b1:∀x∈ys,ok x:=λx F=>d9 x (M.perm.mem_iff.1 F)
 have c6:=a4.lb (d5.rp M) i j
 refine .block<|.sr<|.mo rfl<|.mo rfl<|.ia (b-a) .sub<|.ag rfl<|.zs<|.sr<|.mo rfl<|.q .leq<|.zn<|.cond rfl (λh1=>?_) λh1=>?_
 refine .sr<|.mo rfl<|.mo rfl<|.mo rfl<|.mo rfl<|.dT (MH v ys T1 a b _ a6 b3 (by omega) (by omega) C b1 D) (λu T2 g=>?_)
 obtain⟨rfl,L,I,B,b9⟩:=g
 refine .zn<|.ret (aJ (bA (cW (bA (br _ .none rH ?_)))))
 ·exact⟨_,rfl,rfl,L,I,M.trans (B.mono i j (by omega)),(a4.rp B i j).sW b9⟩
 have f3:12<b-a:=by have:=bI h1;omega
 refine .kn<|.seq<|.sr<|.mo rfl<|.q .cr<|.zn<|.cond rfl (λh2=>?_) λh2=>?_
 refine .sr<|.mo rfl<|.mo rfl<|.mo rfl<|.mo rfl<|.dT (My v ys T1 a b _ a6 b3 (by omega) (by omega) C b1 D) (λu T2 g=>?_)
 obtain⟨rfl,L,I,B,b9⟩:=g
 refine .zn<|.ret (aJ (bA (cW (bA (br _ .none rH ?_)))))
 ·exact⟨_,rfl,rfl,L,I,M.trans (B.mono i j (by omega)),(a4.rp B i j).sW b9⟩
 have e8:0<l:=by
  have e7:¬((l:Int)=0):=by simpa using h2
  omega
 refine .kn<|.seq ?_
 refine bu.cut (X:=Nat×List aw×av) (λz=>z.1<=1000000000/\OS 119 7 aw.enc v z.2.1 z.2.2/\RP a b ys z.2.1) (λz=>[(0,v),(1,iN a),(2,iN b),(3,iN z.1),(4,.func (.func f) #[] caps.toArray),(10,.bool wb),(11,.bool wp),(12,.int .i64 ((b-a:Nat):Int))]) (λz=>[z.2.2]) ?_ ?_
 refine .sr<|.mo rfl<|.q .not<|.zn<|.cond rfl (λh3=>?_) λh3=>?_
 refine .sr<|.mo rfl<|.mo rfl<|.mo rfl<|.mo rfl<|.dT (Ca v ys T1 a b _ (.func (.func f) #[] caps.toArray) inferInstance a6 b3 (by omega) (by omega)) (λu T2 g=>?_)
 obtain⟨rfl,L,I,B⟩:=g
 refine .zn<|.region<|.mo rfl<|.ia (l-1) .sub<|.ag rfl<|.nil ?_
 ·exact aD (l-1,L,T2) ⟨by simp only;omega,I,B⟩ kE.c.c.c.c.c.c.c.c rH
 refine .skip ?_
 ·exact aD (l,ys,T1) ⟨by simp only;omega,a6,.refl _⟩ kE.c.c.c.c.c.c.c.c rH
 intro y hy
 obtain⟨G,L,T2⟩:=y
 obtain⟨K,I,B⟩:=hy
 simp only at K I B⊢
 have f0:=B.length
 have e0:∀x∈L,ok x:=λx F=>b1 x (B.perm.mem_iff.1 F)
 refine au<|.sr<|.mo rfl<|.mo rfl<|.mo rfl<|.mo rfl<|.aQ (choose_spec v L a b _ (I.rs λp hp=>.inr (by simpa using hp)) (by omega) (by omega) (by omega) (C.mono λb o hb=>.inl hb) e0) (λu g=>?_)
 obtain⟨pv,d3,rfl,e2,e3⟩:=g
 refine .mo rfl<|.q .extract<|.q .extract<|.ag rfl<|.ag rfl<|.zs ?_
 refine bu.cut (X:=Nat×Int×List aw×av) (λz=>(a<=z.1/\z.1<b)/\OS 119 7 aw.enc v z.2.2.1 z.2.2.2/\RP a b ys z.2.2.1) (λz=>[(0,v),(1,iN a),(2,iN b),(3,iN G),(4,.func (.func f) #[] caps.toArray),(10,.bool wb),(11,.bool wp),(12,.int .i64 ((b-a:Nat):Int)),(13,iN z.1),(14,.int .i64 z.2.1)]) (λz=>[z.2.2.2]) ?_ ?_
 refine .sr<|.mo rfl<|.q .cr<|.zn<|.cond rfl (λh4=>?_) λh4=>?_
 refine .sr<|.mo rfl<|.mo rfl<|.mo rfl<|.mo rfl<|.dT (OQ v L T2 a b _ (.func (.func f) #[] caps.toArray) inferInstance I (by omega) (by omega) (by omega)) (λu T3 g=>?_)
 obtain⟨rfl,ws,c8,c9⟩:=g
 refine .z<|.mo rfl<|.ia (b-1) .sub<|.mo rfl<|.mo rfl<|.ia (pv-a) .sub<|.ia ((b-1)-(pv-a)) .sub<|.az rfl<|.region<|.ag rfl<|.nil ?_
 ·exact aD ((b-1)-(pv-a),1,ws,T3) ⟨by simp only;omega,c8,B.trans c9⟩ kE.c.c.c.c.c.c.c.c.c.c rH
 refine .skip ?_
 ·exact aD (pv,d3,L,T2) ⟨⟨e2,e3⟩,I,B⟩ kE.c.c.c.c.c.c.c.c.c.c rH
 intro y hy
 obtain⟨q,f4,us,T4⟩:=y
 obtain⟨⟨b5,b6⟩,a7,J⟩:=hy
 simp only at b5 b6 a7 J⊢
 have f1:=J.length
 have e1:∀x∈us,ok x:=λx F=>b1 x (J.perm.mem_iff.1 F)
 refine au<|.seq ?_
 refine bu.cut (X:=List aw×av) (λz=>OS 119 7 aw.enc v z.1 z.2/\RP a b ys z.1) (λz=>[(0,v),(1,iN a),(2,iN b),(3,iN G),(4,.func (.func f) #[] caps.toArray),(10,.bool wb),(11,.bool wp),(12,.int .i64 ((b-a:Nat):Int)),(13,iN q)]) (λz=>[z.2]) ?_ ?_
 refine .sr<|.mo rfl<|.mo rfl<|.split (t:=69) rfl (λa5=>?_) (λa5=>?_)
 refine .gT a5<|.mo rfl<|.q (.aU a5)<|.mo rfl<|.split (t:=72) rfl (λQ=>?_) (λQ=>?_)
 refine .gT Q<|.mo rfl<|.gT Q<|.q .cr<|.q (.aU Q)<|.zn<|.cond rfl (λh5=>?_) λh5=>?_
 refine .sr<|.mo rfl<|.mo rfl<|.mo rfl<|.mo rfl<|.dT (Om v us T4 a b _ a7 (by omega) (by omega) (by omega) C e1 D (c6.rp J)) (λu T5 g=>?_)
 obtain⟨ms,mb,rfl,c5,b8,d0⟩:=g
 refine .zn<|.cond rfl (λh6=>?_) λh6=>?_
 refine .ret (pa (aJ (bA (cW (bA (br _ .none rH ?_))))))
 ·exact⟨_,rfl,rfl,ms,c5,M.trans ((J.trans b8).mono i j (by omega)),(a4.rp (J.trans b8) i j).sW (d0 (by assumption))⟩
 refine .skip ?_
 ·exact aD (ms,T5) ⟨c5,J.trans b8⟩ kE.c.c.c.c.c.c.c.c.c rH
 refine .skip ?_
 ·exact aD (us,T4) ⟨a7,J⟩ kE.c.c.c.c.c.c.c.c.c rH
 refine .gF Q<|.gF Q<|.q (.aN Q)<|.zn<|.dA<|.skip ?_
 ·exact aD (us,T4) ⟨a7,J⟩ kE.c.c.c.c.c.c.c.c.c rH
 refine .gF a5<|.q (.aN a5)<|.mo rfl<|.gX<|.gX<|.q .dq<|.zn<|.dA<|.skip ?_
 ·exact aD (us,T4) ⟨a7,J⟩ kE.c.c.c.c.c.c.c.c.c rH
 intro y hy
 obtain⟨a1,T6⟩:=y
 obtain⟨a2,a3⟩:=hy
 simp only at a2 a3⊢
 have f2:=a3.length
 have Z:∀x∈a1,ok x:=λx F=>b1 x (a3.perm.mem_iff.1 F)
 have b7:RP A r xs a1:=M.trans (a3.mono i j (by omega))
 have c0:=a4.rp a3 i j
 have c1:=c6.rp a3
 obtain⟨p,hp⟩:∃x,a1[q]? =some x:=⟨_,bk (by omega)⟩
 have e4:=Z p (aR hp)
 refine au<|.seq<|.seq<|.dY 13 mixed (by kernel_rfl) ?_
 conv=>arg 6;dsimp only[List.take]
 refine .mo rfl<|.q .gtr<|.mo rfl<|.split (t:=83) rfl (λe=>?_) (λe=>?_)
 have d1:0<a:=by have:=cL e;omega
 obtain⟨w,hw⟩:∃x,a1[a-1]? =some x:=⟨_,bk (by omega)⟩
 have e5:=Z w (aR hw)
 refine .gT e<|.mo rfl<|.gT e<|.mo rfl<|.gT e<|.mo rfl<|.gT e<|.ia (a-1) .sub<|.gT e ?_
 refine .bh (a-1) a2 hw (λf5=>?_)
 refine .gT e<|.q (.aL rfl)<|.gT e<|.mo rfl<|.gT e<|.mo rfl<|.gT e ?_
 refine .bh q a2 hp (λf6=>?_)
 refine .gT e<|.q (.aL rfl)<|.nil<|.gT e<|.gx (first:=[]) (captured:=caps) (vs:=[(λt:aw=>Value.agg t.enc.toArray) w,(λt:aw=>Value.agg t.enc.toArray) p]) (C w p e5 e4 _ (λb o hb=>.inl hb)) (λu g=>?_)
 subst g
 refine .gT e<|.q .lss<|.gT e<|.q .not<|.q (.aU e)<|.zn<|.cond rfl (λh7=>?_) λh7=>?_
 have d8:bW c w p=false:=by
  have c7:(!bW c w p)=true:=h7
  simpa using c7
 refine .sr<|.mo rfl<|.mo rfl<|.mo rfl<|.mo rfl<|.mo rfl<|.dT (Ol v a1 T6 a b q p _ a2 (by omega) ⟨b5,b6⟩ hp (by omega) (by omega) C Z D (c1.NY D d1 hw d8)) (λu N g=>?_)
 obtain⟨H,k,rfl,S,s,m⟩:=g
 have b4:=m.lo
 have c3:=m.hi
 refine .ag rfl<|.z<|.mo rfl<|.az rfl<|.exit<|bD<|bE ?_
 ·exact bp (k,b,G,_,_,H,N) ⟨⟨by simp only;omega,c3,j,K⟩,S,b7.trans (s.mono i j (by omega)),(c0.rp s i j).CU D m⟩ (by simp only;omega) (((((((kE.d rfl).d rfl).d rfl).d rfl).d rfl).d rfl).d rfl) rH
 refine .kn<|.sr<|.mo rfl<|.mo rfl<|.mo rfl<|.mo rfl<|.mo rfl<|.dT (zZ v a1 T6 a b q p _ a2 (by omega) ⟨b5,b6⟩ hp (by omega) (by omega) C Z D) (λu N g=>?_)
 obtain⟨H,k,e6,rfl,S,s,m⟩:=g
 have b4:=m.lo
 have c3:=m.hi
 have d6:=s.length
 have b2:∀x∈H,ok x:=λx F=>Z x (s.perm.mem_iff.1 F)
 have a9:=c0.rp s i j
 have a8:RP A r xs H:=b7.trans (s.mono i j (by omega))
 have c2:=c1.rp s
 refine .mo rfl<|.q .extract<|.q .extract<|.ag rfl<|.ag rfl<|.z<|.mo rfl<|.ag rfl<|.z<|.mo rfl<|.mo rfl<|.ia (k-a) .sub<|.mo rfl<|.mo rfl<|.ia (b-k) .sub<|.ag rfl<|.ag rfl<|.z<|.mo rfl<|.q (.i64 (((b-a)/8:Nat):Int) .quo ⟨by rw[ael (by omega)];omega,by omega,by omega⟩)<|.ag rfl<|.z<|.mo rfl<|.mo rfl<|.q .lss<|.zn<|.cond rfl (λh8=>?_) λh8=>?_
 refine .sr<|.mo rfl<|.mo rfl<|.q .geq<|.ag rfl<|.z<|.mo rfl<|.mo rfl<|.mo rfl<|.mo rfl<|.mo rfl<|.dT (ih v H N a k G _ S (by omega) (by omega) (by omega) K C b2 (c2.less (by omega)) (by omega)) (λu O g=>?_)
 obtain⟨rfl,rs,U,E,W⟩:=g
 have Y:=a9.left D m E W i j (by omega)
 have V:=a8.trans (E.mono i (by omega) (by omega))
 refine .zn<|.region<|.mo rfl<|.ia (k+1) .add<|.ag rfl<|.nil<|ba ?_
 ·exact bp (k+1,b,G,_,_,rs,O) ⟨⟨by simp only;omega,by simp only;omega,by simp only;omega,K⟩,U,V,Y⟩ (by simp only;omega) (((((((kE.d rfl).d rfl).d rfl).d rfl).d rfl).d rfl).d rfl) rH
 refine .sr<|.mo rfl<|.mo rfl<|.q .geq<|.ag rfl<|.z<|.mo rfl<|.mo rfl<|.ia (k+1) .add<|.mo rfl<|.mo rfl<|.mo rfl<|.dT (ih v H N (k+1) b G _ S (by omega) (by omega) (by omega) K C b2 m.lb (by omega)) (λu O g=>?_)
 obtain⟨rfl,rs,U,E,W⟩:=g
 have Y:=a9.right D m E W i j (by omega)
 have V:=a8.trans (E.mono (by omega) j (by omega))
 refine .zn<|.region<|.mo rfl<|.ag rfl<|.nil<|ba ?_
 ·exact bp (a,k,G,_,_,rs,O) ⟨⟨i,b4,by simp only;omega,K⟩,U,V,Y⟩ (by simp only;omega) (((((((kE.d rfl).d rfl).d rfl).d rfl).d rfl).d rfl).d rfl) rH
 refine .gF e<|.gF e<|.gF e<|.gF e<|.gF e<|.gF e<|.gF e<|.gF e<|.gF e<|.gF e<|.nil<|.gF e<|.gF e<|.gF e<|.q (.aN e)<|.zn<|.dA<|.kn<|.sr<|.mo rfl<|.mo rfl<|.mo rfl<|.mo rfl<|.mo rfl<|.dT (zZ v a1 T6 a b q p _ a2 (by omega) ⟨b5,b6⟩ hp (by omega) (by omega) C Z D) (λu N g=>?_)
 obtain⟨H,k,e6,rfl,S,s,m⟩:=g
 have b4:=m.lo
 have c3:=m.hi
 have d6:=s.length
 have b2:∀x∈H,ok x:=λx F=>Z x (s.perm.mem_iff.1 F)
 have a9:=c0.rp s i j
 have a8:RP A r xs H:=b7.trans (s.mono i j (by omega))
 have c2:=c1.rp s
 refine .mo rfl<|.q .extract<|.q .extract<|.ag rfl<|.ag rfl<|.z<|.mo rfl<|.ag rfl<|.z<|.mo rfl<|.mo rfl<|.ia (k-a) .sub<|.mo rfl<|.mo rfl<|.ia (b-k) .sub<|.ag rfl<|.ag rfl<|.z<|.mo rfl<|.q (.i64 (((b-a)/8:Nat):Int) .quo ⟨by rw[ael (by omega)];omega,by omega,by omega⟩)<|.ag rfl<|.z<|.mo rfl<|.mo rfl<|.q .lss<|.zn<|.cond rfl (λh8=>?_) λh8=>?_
 refine .sr<|.mo rfl<|.mo rfl<|.q .geq<|.ag rfl<|.z<|.mo rfl<|.mo rfl<|.mo rfl<|.mo rfl<|.mo rfl<|.dT (ih v H N a k G _ S (by omega) (by omega) (by omega) K C b2 (c2.less (by omega)) (by omega)) (λu O g=>?_)
 obtain⟨rfl,rs,U,E,W⟩:=g
 have Y:=a9.left D m E W i j (by omega)
 have V:=a8.trans (E.mono i (by omega) (by omega))
 refine .zn<|.region<|.mo rfl<|.ia (k+1) .add<|.ag rfl<|.nil<|ba ?_
 ·exact bp (k+1,b,G,_,_,rs,O) ⟨⟨by simp only;omega,by simp only;omega,by simp only;omega,K⟩,U,V,Y⟩ (by simp only;omega) (((((((kE.d rfl).d rfl).d rfl).d rfl).d rfl).d rfl).d rfl) rH
 refine .sr<|.mo rfl<|.mo rfl<|.q .geq<|.ag rfl<|.z<|.mo rfl<|.mo rfl<|.ia (k+1) .add<|.mo rfl<|.mo rfl<|.mo rfl<|.dT (ih v H N (k+1) b G _ S (by omega) (by omega) (by omega) K C b2 m.lb (by omega)) (λu O g=>?_)
 obtain⟨rfl,rs,U,E,W⟩:=g
 have Y:=a9.right D m E W i j (by omega)
 have V:=a8.trans (E.mono (by omega) j (by omega))
 refine .zn<|.region<|.mo rfl<|.ag rfl<|.nil<|ba ?_
 ·exact bp (a,k,G,_,_,rs,O) ⟨⟨i,b4,by simp only;omega,K⟩,U,V,Y⟩ (by simp only;omega) (((((((kE.d rfl).d rfl).d rfl).d rfl).d rfl).d rfl).d rfl) rH
theorem On(q:SO (bW c))(n:Nat):wA c ok f caps n:=by
 induction n with
 |zero=>exact λv e T a b d R _ _ _ _ _ _ _ _ r=>by omega
 |succ n ih=>exact λv e T a b d R g h i j k l m o p=>Oo n ih q v e T a b d R g h i j k l m o p
end
end STP
namespace STP
section
variable{c:aw->aw->Int}{ok:aw->Prop}{f:FuncId}{caps:List Value} [e:aT prog f]
theorem AV(v:Value)(xs:List aw)(T:av)(R:aA)(h:OS 119 7 aw.enc v xs T)(k:xs.length<=1000000000)(j:iQ prog f caps R (λt:aw=>Value.agg t.enc.toArray) c ok)(l:∀x∈xs,ok x)(m:SO (bW c)):
  Spec prog 131 [v,.func (.func f) #[] caps.toArray] R [T] λu H'=>∃T',H'=[T']/\u=.tuple #[]/\∃ys,OS 119 7 aw.enc v ys T'/\ys.Perm xs/\SR (bW c) ys 0 ys.length:=by
 have i:Lib.bitLen xs.length<=1000000000:=by
  have p:=bitLen_le 64 xs.length
  have o:Lib.bitLen xs.length=Lib.bitLenAux 64 xs.length:=rfl
  omega
 refine Spec.body func131 rfl results131 ntmps131 rfl<|.sr<|.mo rfl<|.q (.eR h)<|.az rfl<|.region<|.mo rfl<|.mo rfl<|.mo rfl<|.q (bq.cast (v':=.int .u64 ((xs.length:Nat):Int)) .rD (by rw[qZ (by omega) (by omega)]))<|.aQ (zf xs.length (by omega) _) (λu a=>?_)
 subst a
 refine .mo rfl<|.dT (On m (xs.length+1) v xs T 0 xs.length (Lib.bitLen xs.length) _ h (Nat.zero_le _) (aef _) k i j l (λd=>absurd d (by omega)) (by omega)) (λu n a=>?_)
 obtain⟨rfl,ys,e,b,g⟩:=a
 refine .nil<|gC _ .none rH ?_
 ·exact⟨_,rfl,rfl,ys,e,b.perm,b.length▸g⟩
end
end STP
set_option linter.unusedSimpArgs false
def gZ(a b:aw):Int:=if gz a b then-1 else if gz b a then 1 else 0
theorem sf:bW gZ=bW kH:=by
 funext a b
 unfold bW gZ
 by_cases c:gz a b=true
 ·rw[aeh c];unfold gz at c;rw[c];rfl
 ·rw[aej c]
  unfold gz at c
  have d:decide (kH a b<0)=false:=by simpa using c
  rw[d]
  split<;>rfl
theorem Oi(a b:aw)(R:aA):Spec prog 132 [.agg a.enc.toArray,.agg b.enc.toArray] R [] λv H'=>v=.int .i64 (gZ a b)/\H'=[]:=by
 refine Spec.body func132 rfl results132 ntmps132 rfl<|.sr ?_
 refine .cg rfl (λf=>?_)
 refine .cg rfl (λg=>?_)
 refine .ag rfl<|.zs<|.block<|.sr<|.q (.aL rfl)<|.q (.aL rfl)<|.aQ (Bf a b _) (λv e=>?_)
 subst e
 refine .az rfl<|.cond rfl (λc=>?_) λc=>?_
 refine .sr<|.az rfl<|.ret (bA (aJ (aP rfl ?_)))
 ·exact⟨by unfold gZ;rw[aeh c],rfl⟩
 refine .sr<|.q (.aL rfl)<|.q (.aL rfl)<|.aQ (Bf b a _) (λv e=>?_)
 subst e
 refine .az rfl<|.cond rfl (λd=>?_) λd=>?_
 refine .sr<|.az rfl<|.ret (bA (aJ (aP rfl ?_)))
 ·exact⟨by unfold gZ;rw[aej (by rw[c];simp),aeh d],rfl⟩
 refine .skip<|ba<|au<|.sr<|.az rfl<|.ret (aP rfl ?_)
 ·exact⟨by unfold gZ;rw[aej (by rw[c];simp),aej (by rw[d];simp)],rfl⟩
abbrev nv(ys:List aw):Prop:=ys.Pairwise λp q=>bW kH q p=false
theorem zX(R:aA):iQ prog 132 [] R (λt:aw=>Value.agg t.enc.toArray) gZ (λ_=>True):=λx y _ _ a _=>Oi x y a
theorem zW:SO (bW gZ):=by rw[sf];exact kh.so
theorem wW(v:Value)(F:List RB)(r:Int)(R:aA)(f:RS R 1 tS v F)(l:∀p∈F,PC R (.pointer (some ⟨p.1,0,none⟩)) p.2.enc)(M:F.length<=5000):
  Spec prog 129 [v,.int .u64 r] R [] λu H'=>∃T,H'=[T]/\∃ys,OS 119 7 aw.enc u ys T/\ys.Perm ((F.filter λp=>p.2.there r).map (·.2.t))/\nv ys:=by
 obtain⟨J,I,rfl⟩:=f.val
 refine Spec.gj (H':=[[]]) (by simp)<|Spec.body func129 rfl results129 ntmps129 rfl<|.sr<|.ag rfl<|.z<|.ag rfl<|.zs<|.sr<|.mo rfl<|.q (.bK f)<|.mo rfl<|.zn<|.block<|.loop (X:=Nat×Value×av) (λy=>y.1<=F.length/\OS 119 7 aw.enc y.2.1 (((F.take y.1).filter λp=>p.2.there r).map (·.2.t)) y.2.2) (λy=>[(1,.int .u64 r),(5,y.2.1),(8,.slice J F.length I),(9,iN F.length),(10,iN y.1)]) (λy=>[y.2.2]) (λy=>F.length-y.1) (0,sZ,[]) ⟨Nat.zero_le _,OS.nil⟩ kE.c.c.c.c.c rH ?_
 rintro⟨i,n,j⟩ ⟨A,a⟩
 simp only at A a⊢
 have O:=a.ay
 have C:(((F.take i).filter λp=>p.2.there r).map (·.2.t)).length<=5000:=by
  rw[aep]
  exact aem (aen _ _) (by rw[List.length_take];omega)
 refine .sr<|.q .lss<|.zs<|.cond rfl (λd=>?_) λd=>?_
 have g:i<F.length:=cK d
 obtain⟨⟨b,x⟩,h⟩:=ca g
 have S:PC R (pT b) x.enc:=l _ (aR h)
 have m:F.take (i+1)=F.take i++[(b,x)]:=by rw[aev,h];rfl
 refine .kn<|.seq<|.block<|.sr ?_
 refine .bF i f h (λQ=>?_)
 refine .lo rfl<|.ag rfl<|.z<|.mo rfl ?_
 refine .nc rfl<|.q (.aL rfl)<|.mo rfl ?_
 refine .aQ (QY x r _) (λv H=>?_)
 subst H
 refine .zn<|.cond rfl (λe=>?_) λe=>?_
 refine .region<|.mo rfl<|.mo rfl<|.nc rfl<|.fa rfl<|.q (.loadT rfl) ?_
 refine .fq (λL=>?_)
 refine .append a (RS.lits (xs:=[x.t]) rfl (by simp[aw.enc]) (by simp[aw.enc,ay])) (by simp only[List.length_singleton];omega) (λK s w=>?_)
 refine .ag rfl<|.nil<|ba<|au<|.region<|.ia (i+1) .add<|.mo rfl<|.nil ?_
 ·exact bp (i+1,K,s) ⟨g,by simp only;rw[m,aeq,aer,aek,aeh e];exact w⟩ (by simp only;omega) kE.c.c.c.c.c (aK [1])
 refine .skip<|ba<|au<|.region<|.ia (i+1) .add<|.mo rfl<|.nil ?_
 ·exact bp (i+1,n,j) ⟨g,by simp only;rw[m,aeq,aer,aek,aej (by rw[e];simp)];simpa using a⟩ (by simp only;omega) kE.c.c.c.c.c rH
 have B:i=F.length:=by have:=bI d;omega
 subst B
 rw[aes]at a C
 refine .exit<|bD<|bG<|bE<|au<|.sr<|.mo rfl<|.dT (STP.AV (caps:=[]) n _ j _ a (by omega) (zX _) (λp l=>trivial) zW) (λu o G=>?_)
 obtain⟨rfl,ys,k,D,E⟩:=G
 have N:=k.ay
 refine .z<|.mo rfl<|.az rfl<|.ret (br _ (.one (.tmp rfl)) (.one [0] _) ?_)
 ·exact⟨o,by simp[take],ys,k,D,by have:=E.ordered;rw[sf]at this;exact this⟩
theorem yq{α:Type} [DecidableEq α]{k:α}:∀{l:List α},l.Nodup->k∈l->l.Perm (k::l.filter λk'=>decide (k'≠k))
 |[],_,h=>by cases h
 |x::l,hn,h=>by
  have b:=List.nodup_cons.1 hn
  by_cases a:x=k
  ·subst a
   have:l.filter (λk'=>decide (k'≠x))=l:=List.filter_eq_self.2 λy f=>by
    have:y≠x:=λe=>b.1 (e▸f)
    simp[this]
   rw[aek]
   simp only[ne_eq,not_true_eq_false,decide_false,Bool.false_eq_true,if_false]
   have c:l.filter (λk'=> !decide (k'=x))=l:=by simpa using this
   simp only[decide_not,c]
   exact .refl _
  ·have d:k∈l:=by
    rcases List.mem_cons.1 h with e|h
    ·exact absurd e.symm a
    ·exact h
   have:=(yq b.2 d).cons x
   rw[aek,aeh (by simp[a])]
   exact this.trans (List.Perm.swap k x _)
theorem yr{α:Type}{a b c:α->Bool}:∀L:List α,(∀x∈L,c x=(a x||b x)/\¬(a x=true/\b x=true))->(L.filter c).Perm (L.filter a++L.filter b)
 |[],_=>by simp
 |x::L,h=>by
  obtain⟨e,f⟩:=h x (by simp)
  have d:=yr L λy g=>h y (by simp[g])
  rw[aek,aek,aek,e]
  cases ha:a x<;>cases hb:b x
  ·simpa using d
  ·simpa using(d.cons x).trans List.perm_middle.symm
  ·simpa using d.cons x
  ·exact absurd ⟨ha,hb⟩ f
def Af(S:cE)(f:aw)(r:Int)(ys:List aw):Prop:=ys.Perm (if scan S r then mT S f r else [])/\nv ys
theorem Ai{R:aA}{g:Nat}{S:cE}{ps:List RB}{vf vr:Value}{C:List (aW×(Value×av))}{Mr:List (Sub×(Value×av))}(h:SV R g S ps vf vr C Mr)(hl:S.rows.length<=4096)(f:aw)(r:Int):
  Spec prog 73 [pT g,.agg f.enc.toArray,.int .u64 r] R [] λu H'=>∃T,H'=[T]/\∃w ys,u=.tuple [w,.int .i64 (if scan S r then 0 else 12)].toArray/\OS 119 7 aw.enc w ys T/\Af S f r ys:=by
 have pc:=h.pc
 have c4:=h.of
 have c5:=h.or
 have a1:ps.length<=4096:=by rw[<-h.eq,aep]at hl;exact hl
 refine Spec.gj (H':=[[],[]]) (by simp)<|Spec.body func73 rfl results73 ntmps73 rfl<|.sr ?_
 refine .cg rfl (λm=>?_)
 refine .ag rfl<|.ag rfl<|.zs<|.block<|.sr<|.mo rfl<|.aQ (h.mono λb o e=>.inl e).ok (λv l=>?_)
 subst l
 refine .q .not<|.az rfl<|.dA<|.sr<|.mo rfl<|.mo rfl<|.aQ ((h.mono λb o e=>.inl e).can r) (λv l=>?_)
 subst l
 refine .q .not<|.az rfl<|.cond rfl (λD=>?_) λD=>?_
 refine .sr<|.ag rfl<|.az rfl<|.ret (bA (aJ (br _ (.two (.tmp rfl) (.tmp rfl)) ((aK [1])) ?_)))
 ·have i:scan S r=false:=by simpa using D
  exact⟨[],by simp[take],_,[],by rw[i];rfl,OS.nil,by rw[i];exact .refl _,List.Pairwise.nil⟩
 have i:scan S r=true:=by simpa using D
 refine .skip<|ba<|au<|.sr<|.ag rfl<|.zs<|.sr<|.mo rfl<|.nc rfl<|.fa rfl<|.lo rfl ?_
 refine .range h.mf (λ_ _=>.inl) rfl (λM a5 a9=>?_)
 refine .zn<|.block ?_
 refine .loop (X:=List aw×List aW×Value×av×av) (λy=>y.2.1.Nodup/\y.1.Perm ((ps.filter λp=>(p.2.there r&&gl f p.2.t)&&decide (p.2.t.di∉y.2.1)).map (·.2.t))/\OS 119 7 aw.enc y.2.2.1 y.1 y.2.2.2.1/\It R (λk:aW=>.agg k.enc.toArray) (λp:Value×av=>p.1) vf C M y.2.1 y.2.2.2.2) (λy=>[(2,.int .u64 r),(4,pT m),(8,y.2.2.1),(26,M)]) (λy=>[bl m f.enc 49,y.2.2.2.1,y.2.2.2.2]) (λy=>y.2.1.length) ([],C.map (·.1),sZ,[],a5) ⟨h.nf,by
  rw[List.filter_eq_nil_iff.2 λp s=>by simp[h.af p s]];exact .refl _,OS.nil,a9⟩ kE.c.c.c.c ((aK [1,1,0])) ?_
 rintro⟨B,O,vo,U,Ti⟩ ⟨K,A,n,Z⟩
 simp only at K A n Z⊢
 have io:=n.ay
 have c2:B.length<=4096:=by
  rw[A.length_eq,aep]
  exact aem (aen _ _) a1
 refine .sr ?_
 refine .NO Z (λ_ _=>.inl) rfl (λb rest Q hf ht=>?_)
 refine .q .extract<|.zs<|.cond rfl (λE=>?_) λE=>?_
 obtain⟨k,⟨v0,T0⟩,hk,b1,a0⟩:=ht E
 obtain⟨pf,cf,I,b5⟩:=h.lf k
 rw[b1]at I
 simp only[Option.map_some,Option.getD_some]at I
 subst I
 have a8:=yq K hk
 have hF:RS R 1 tS (.slice pf (ids (λx=>x.t.di) k ps).length cf) (kR (λx=>x.t.di) k ps):=RS.of_map (enc:=jh) (f:=λp:RB=>p.1) b5
 have a6:(kR (λx=>x.t.di) k ps).length<=4096:=aem (aen _ _) a1
 refine .kn<|.block<|.sr<|.q (.entry a0 (λ_ _=>.inl) rfl)<|.q .extract<|.ag rfl<|.z<|.mo rfl<|.mo rfl<|.dx (wW _ (kR (λx=>x.t.di) k ps) r _ hF.rx (λp s=>(h.pr p (List.mem_filter.1 s).1).mono λb o e=>.inl e) (by omega)) (λu T1 L=>?_)
 obtain⟨ys,H,a4,_⟩:=L
 have iu:=H.ay
 have c1:ys.length<=4096:=by
  rw[a4.length_eq,aep]
  exact aem (aen _ _) a6
 refine .q (.eR H)<|.mo rfl<|.zn<|.block<|.loop (X:=Nat×Value×av) (λy=>y.1<=ys.length/\OS 119 7 aw.enc y.2.1 (B++(ys.take y.1).filter λt=>gl f t) y.2.2) (λy=>[(2,.int .u64 r),(4,pT m),(8,y.2.1),(26,M),(33,u),(34,iN ys.length),(35,iN y.1)]) (λy=>[T1,bl m f.enc 49,y.2.2,Q]) (λy=>ys.length-y.1) (0,vo,U) ⟨Nat.zero_le _,by simpa using n⟩ kE.c.c.c.c.c.c.c rH ?_
 rintro⟨j,v1,V⟩ ⟨hj,d⟩
 simp only at hj d⊢
 have c3:=d.ay
 have c0:((ys.take j).filter λt=>gl f t).length<=4096:=aem (aen _ _) (by rw[List.length_take];omega)
 refine .sr<|.q .lss<|.zs<|.cond rfl (λF=>?_) λF=>?_
 have J:j<ys.length:=cK F
 obtain⟨t,a2⟩:=ca J
 have a3:ys.take (j+1)=ys.take j++[t]:=by rw[aev,a2];rfl
 refine .kn<|.seq<|.block<|.sr ?_
 refine .bh j H a2 (λc6=>?_)
 refine .q (.aL rfl) ?_
 refine .cq (λb8=>?_)
 refine .bZ rfl rfl<|.z<|.q (.aL rfl)<|.q (.aL rfl)<|.aQ (Q1 f t _) (λv l=>?_)
 subst l
 refine .zn<|.cond rfl (λG=>?_) λG=>?_
 refine .region<|.mo rfl<|.q (.aL rfl) ?_
 refine .fq (λb9=>?_)
 refine .append d (RS.lits (xs:=[t]) rfl (by simp[aw.enc]) (by simp[aw.enc,ay])) (by simp;omega) (λv5 T5 a7=>?_)
 refine .ag rfl<|.nil<|ba<|au<|.region<|.ia (j+1) .add<|.mo rfl<|.nil ?_
 ·exact bp (j+1,v5,T5) ⟨J,by simp only;rw[a3,aeq,aek,aeh G, <-List.append_assoc];exact a7⟩ (by simp only;omega) kE.c.c.c.c.c.c.c (aK [2,2,2,2])
 refine .skip<|ba<|au<|.region<|.ia (j+1) .add<|.mo rfl<|.nil ?_
 ·exact bp (j+1,v1,V) ⟨J,by simp only;rw[a3,aeq,aek,aej (by rw[G];simp)];simpa using d⟩ (by simp only;omega) kE.c.c.c.c.c.c.c (aK [1,1,1,1])
 have b0:j=ys.length:=by have:=bI F;omega
 subst b0
 rw[aes]at d
 refine .exit<|bD<|bG<|bE<|ba ?_
 ·refine bp (B++ys.filter (λt=>gl f t),O.filter λN=>decide (N≠k),v1,V,Q) ⟨K.sublist List.filter_sublist,?_,d,a0.it⟩ ?_ kE.c.c.c.c (aK [1,1,1])
  ·simp only
   have h9:=yr (a:=λp:RB=>(p.2.there r&&gl f p.2.t)&&decide (p.2.t.di∉O)) (b:=λp:RB=>decide (p.2.t.di=k)&&(p.2.there r&&gl f p.2.t)) (c:=λp:RB=>(p.2.there r&&gl f p.2.t)&&decide (p.2.t.di∉O.filter λN=>decide (N≠k))) ps λp _=>by
    by_cases W:p.2.t.di=k
    ·rw[W];simp[hk]
    ·simp[W]
   refine List.Perm.trans ?_ (h9.map _).symm
   rw[aer]
   refine A.append<|(a4.filter _).trans (.of_eq ?_)
   rw[List.filter_map,List.filter_filter]
   unfold kR
   rw[List.filter_filter]
   congr 1
   refine List.filter_congr λp _=>?_
   simp only[Function.comp]
   cases decide (p.2.t.di=k)<;>cases p.2.there r<;>cases gl f p.2.t<;>rfl
  ·have:=a8.length_eq
   simp only[List.length_cons]at this
   simp only;omega
 have b7:=hf E
 subst b7
 have b2:B.Perm (mT S f r):=by
  refine A.trans (.of_eq ?_)
  unfold mT
  rw[<-h.eq,List.filter_map,List.map_map]
  congr 1
  refine List.filter_congr λp _=>by simp
 refine .exit<|bD<|bG<|bE<|au<|.sr<|.mo rfl<|.dT (STP.AV (caps:=[]) vo _ U _ n (by omega) (zX _) (λp s=>trivial) zW) (λu T3 L=>?_)
 obtain⟨rfl,ys,Y,b3,b6⟩:=L
 have i5:=Y.ay
 refine .z<|.mo rfl<|.ag rfl<|.az rfl<|.ret (br _ (.two (.tmp rfl) (.tmp rfl)) ((aK [1])) ?_)
 ·exact⟨T3,by simp[take,bN],_,ys,by rw[i];rfl,Y,by rw[i];exact b3.trans b2,by have:=b6.ordered;rw[sf]at this;exact this⟩
abbrev strict(ys:List aw):Prop:=ys.Pairwise λp q=>gz p q=true
theorem QZ{a b:aw}:bW kH a b=gz a b:=rfl
theorem v8{a b:aw}(h:a≠b):gz a b=true\/gz b a=true:=by
 unfold gz
 have d:=kh.sw b a
 have c:kH a b≠0:=λe=>h (Bj e)
 rcases Int.lt_or_lt_of_ne c with h4|h4
 ·exact .inl (decide_eq_true h4)
 ·exact .inr (decide_eq_true (by omega))
theorem vZ{a b:aw}(h:gz a b=true):gz b a=false:=by
 unfold gz at *
 have c:=kh.sw b a
 have h:=cL h
 exact decide_eq_false (by omega)
theorem tc(a:aw):gz a a=false:=by
 unfold gz
 have:=kh.refl a
 exact decide_eq_false (by omega)
theorem strict.order{ys:List aw}(h:strict ys):nv ys:=h.imp λ{p q} a=>vZ a
theorem zU{xs ys:List aw}(a:ys.Perm xs)(b:nv xs)(c:nv ys):ys=xs:=CA kh (λ_ _=>Bj) a b c
theorem PR{S:cE}{r:Int}:scan S r=true↔S.dV<=r/\r<=S.head:=by unfold scan;simp
structure WI(S:cE)(cs:List cz)(i:Nat)(W:List aw):Prop where
 pm:W.Perm (mT ⟨(cs.take i).foldl (fi (S.head+1)) S.rows,S.head+1,S.dV⟩ ⟨⟨#[]⟩,⟨#[]⟩,⟨#[]⟩,⟨#[]⟩,⟨#[]⟩,⟨#[]⟩,⟨#[]⟩⟩ (S.head+1))
 st:strict W
theorem WI.done{S:cE}(d:eH S){bj no:List aw}{cs:List cz}(e:fY S bj no cs=0){W Z:List aw}(h:WI S cs cs.length W)(a:Af (fy S bj no cs) (⟨⟨#[]⟩,⟨#[]⟩,⟨#[]⟩,⟨#[]⟩,⟨#[]⟩,⟨#[]⟩,⟨#[]⟩⟩:aw) (S.head+1) Z):Z=W:=by
 have g:fy S bj no cs=⟨cs.foldl (fi (S.head+1)) S.rows,S.head+1,S.dV⟩:=by unfold fy;rw[aeh e]
 rw[g]at a
 have f:scan ⟨cs.foldl (fi (S.head+1)) S.rows,S.head+1,S.dV⟩ (S.head+1)=true:=PR.2 ⟨by have:=d.h1;simp only;omega,Int.le_refl _⟩
 have b:=a.1
 rw[aeh f]at b
 have c:=h.pm
 rw[aes]at c
 exact zU (b.trans c.symm) h.st.order a.2
theorem sD{a b:aw}:gZ a b<0↔kH a b<0:=by
 have h:=congrFun (congrFun sf a) b
 unfold bW at h
 exact decide_eq_decide.1 h
theorem qM(a b:aw):0<gZ a b↔gZ b a<0:=by
 unfold gZ
 have c:= @vZ b a
 cases ha:gz a b<;>cases hb:gz b a<;>simp_all
theorem zV:gn gZ where
 sw x y:=by rw[qM]
 tr x y z h1 h2:=by
  have d:¬gZ y x<0:=λe=>by have:=(qM x y).2 e;omega
  have a:¬gZ z y<0:=λe=>by have:=(qM y z).2 e;omega
  rw[sD]at d a
  have f:=kh.sw y x
  have g:=kh.sw x y
  have b:=kh.sw y z
  have c:=kh.sw z y
  have h:=kh.tr x y z (by omega) (by omega)
  have i:=kh.sw z x
  have j:¬gZ z x<0:=by rw[sD];omega
  have:=qM x z
  omega
 tl x y z h1 h2:=by
  have a:¬gZ z y<0:=λe=>by have:=(qM y z).2 e;omega
  rw[sD]at a h1⊢
  have b:=kh.sw y z
  have c:=kh.sw z y
  exact kh.tl x y z h1 (by omega)
theorem Oh{a b:aw}(h:gZ a b=0):a=b:=by
 unfold gZ at h
 split at h
 ·omega
 ·split at h
  ·omega
  ·rename_i d e
   exact Classical.byContradiction λc=>by rcases v8 c with h3|h3<;>contradiction
def sI(a b:bf):Int:=gB [gZ a.t b.t,kw a.fr b.fr]
theorem Ae:gn sI:=(zV.map bf.t).cons ((yO.map bf.fr).cons .nil)
def eA(a b:bf):Bool:=gz a.t b.t||decide (a.t=b.t)&&decide (a.fr<b.fr)
theorem uI(a b:bf):bW sI a b=eA a b:=by
 unfold bW sI eA
 rw[nA,nA]
 rw[Bool.eq_iff_iff]
 simp only[aet,Bool.or_eq_true,aeu]
 by_cases h:a.t=b.t
 ·rw[aeh (by rw[h];exact zV.refl _)]
  rw[h,tc]
  unfold kw gB
  simp
  split
  ·split<;>omega
  ·split
   ·split<;>omega
   ·split<;>omega
 ·rw[aej λe=>h (Oh e),sD]
  unfold gz
  simp[h]
abbrev Pe(ys:List bf):Prop:=ys.Pairwise λp q=>bW sI q p=false
abbrev ov(ys:List bf):Prop:=ys.Pairwise λp q=>eA p q=true
theorem Aq{a b:bf}(h:eA a b=true):eA b a=false:=by
 rw[<-uI]at *
 unfold bW at *
 have c:=Ae.sw b a
 have h:=cL h
 exact decide_eq_false (by omega)
theorem ov.order{ys:List bf}(h:ov ys):Pe ys:=h.imp λ{p q} a=>by rw[uI];exact Aq a
theorem eH.two{S:cE}(c:eH S){ys:List bf}(d:ys.Perm S.rows):ys.Pairwise λx y=>x.t=y.t->(x.to≠0/\x.to<=y.fr)\/(y.to≠0/\y.to<=x.fr):=by
 have h:S.rows.Pairwise λx y=>x.t=y.t->(x.to≠0/\x.to<=y.fr)\/(y.to≠0/\y.to<=x.fr):=c.pw.imp λ{x y} b a=>.inl (b a)
 exact d.symm.pairwise h λ{x y} b a=>(b a.symm).symm
theorem Pg{xs ys:List bf}(e:ys.Perm xs)(f:ov xs)(g:ov ys):ys=xs:=by
 refine List.Perm.eq_of_pairwise (le:=λa b:bf=>eA a b=true) (λa b _ _ d c=>?_) g f e
 rw[Aq d]at c
 cases c
structure RL(S:cE)(L:List bf):Prop where
 pm:L.Perm S.rows
 st:ov L
theorem RL.dN{S:cE}{L M:List bf}(h:RL S L)(a:RL S M):L=M:=Pg (h.pm.trans a.pm.symm) a.st h.st
theorem BX{α:Type}{p:α->Bool}{L M:List α}(h:L.Perm M):L.any p=M.any p:=by
 rw[Bool.eq_iff_iff,List.any_eq_true,List.any_eq_true]
 exact exists_congr λx=>and_congr_left λ_=>h.mem_iff
theorem A3{L M:List bf}(h:L.Perm M)(t:aw):dE L t=dE M t:=BX h
theorem P7{L M:List bf}(h:L.Perm M)(head:Int)(bj no:List aw)(cs:List cz):fj L head bj no cs=fj M head bj no cs:=by
 unfold fj
 simp only[A3 h,h.length_eq]
theorem RL.new:RL ⟨[],0,0⟩ []:=⟨.refl _,List.Pairwise.nil⟩
theorem RL.pw{S:cE}(b:eH S){L:List bf}(h:RL S L):L.Pairwise λx y=>x.t=y.t->x.to≠0/\x.to<=y.fr:=by
 refine((b.two h.pm).and h.st).imp_of_mem λ{x y} i f e c=>?_
 obtain⟨d,a⟩:=e
 obtain⟨_,_,_,g⟩:=b.ok y (h.pm.mem_iff.1 f)
 unfold eA at a
 rw[c,tc]at a
 simp only[Bool.false_or,aeu,aet]at a
 have:=d c
 omega
theorem xn{t:aw}{r:Int}{x:bf}:(bf.close t r x).t=x.t/\(bf.close t r x).fr=x.fr:=by unfold bf.close;split<;>exact⟨rfl,rfl⟩
theorem O9{a b c d:bf}(e:c.t=a.t/\c.fr=a.fr)(f:d.t=b.t/\d.fr=b.fr):eA c d=eA a b:=by unfold eA;rw[e.1,e.2,f.1,f.2]
theorem Ar(x y z:bf)(a:eA x y=true)(b:eA y z=true):eA x z=true:=by
 rw[<-uI]at *
 unfold bW at *
 exact decide_eq_true (Ae.t2 x y z (by have:=cL a;omega) (cL b))
def pD(r:Int)(L:List bf)(c:cz):List bf:=if c.put then gN eA ⟨c.t,r,0⟩ L else L.map (bf.close c.t r)
theorem RL.next{S:cE}(B:eH S){cs:List cz}(f:oL S cs){i:Nat}{c:cz}(o:cs[i]? =some c){L:List bf}(h:RL ⟨(cs.take i).foldl (fi (S.head+1)) S.rows,S.head+1,S.dV⟩ L):
  RL ⟨(cs.take (i+1)).foldl (fi (S.head+1)) S.rows,S.head+1,S.dV⟩ (pD (S.head+1) L c)/\(c.put=false->∃(j:Nat) (x:bf),L[j]? =some x/\x.eS c.t=true/\(∀k y,k<j->L[k]? =some y->y.eS c.t=false)/\pD (S.head+1) L c=L.set j ⟨x.t,x.fr,S.head+1⟩):=by
 have p:=B.fold (f.take i)
 have m:cs.take (i+1)=cs.take i++[c]:=by rw[aev,o];rfl
 have E:c.t∉(cs.take i).map (·.t):=by
  have u:=(f.take (i+1)).nd
  rw[m,aer,List.nodup_append]at u
  intro D
  exact u.2.2 _ D _ (by simp) rfl
 have z:dE L c.t=dE S.rows c.t:=(A3 h.pm _).trans (vX _ _ E)
 have s:c∈cs:=aR o
 have A:(cs.take (i+1)).foldl (fi (S.head+1)) S.rows=fi (S.head+1) ((cs.take i).foldl (fi (S.head+1)) S.rows) c:=by rw[m,List.foldl_append];rfl
 rw[A]
 cases hp:c.put with
 |true=>
  refine⟨?_,by simp⟩
  unfold pD fi
  rw[aeh hp,aeh hp]
  refine⟨qz.trans ((h.pm.cons _).trans (List.perm_append_singleton _ _).symm),uq Ar h.st λy g=>?_⟩
  have a:=f.ry c s hp
  rw[<-z]at a
  have n:=vW.1 a y g
  obtain⟨_,_,_,b⟩:=p.ok y (h.pm.mem_iff.1 g)
  simp only at b
  unfold eA
  by_cases e:c.t=y.t
  ·have:=n e.symm
   right
   simp only[Bool.or_eq_true,aeu,aet]
   exact .inr ⟨e.symm,by omega⟩
  ·rcases v8 e with h5|h5
   ·left;simp[h5]
   ·right;simp[h5]
 |false=>
  have v:pD (S.head+1) L c=L.map (bf.close c.t (S.head+1)):=by unfold pD;rw[aej (by simp[hp])]
  refine⟨?_,λ_=>?_⟩
  ·rw[v]
   unfold fi
   rw[aej (by simp[hp])]
   refine⟨h.pm.map _,?_⟩
   rw[ov,List.pairwise_map]
   exact h.st.imp λ{x y} F=>by rw[O9 xn xn];exact F
  ·have a:=f.there c s hp
   rw[<-z]at a
   have n:(L.find? (bf.eS c.t)).isSome:=by
    rw[List.find?_isSome]
    unfold dE at a
    simpa using a
   obtain⟨j,l⟩:∃j,L.findIdx (bf.eS c.t)=j:=⟨_,rfl⟩
   have d:j<L.length:=by
    rw[<-l,List.findIdx_lt_length]
    unfold dE at a
    simpa using a
   have r:(L[j]'d).eS c.t=true:=by
    subst l
    exact List.findIdx_getElem (w:=d)
   have q:L[j]? =some (L[j]'d):=bk d
   refine⟨j,L[j]'d,q,r,λk y C g=>?_,?_⟩
   ·obtain⟨G,rfl⟩:=aeg.1 g
    exact List.not_of_lt_findIdx (by rw[l];exact C)
   ·rw[v,xm (h.pw p) q r]
theorem RL.write{S:cE}{bj no:List aw}{cs:List cz}(a:fY S bj no cs=0){L:List bf}(h:RL ⟨(cs.take cs.length).foldl (fi (S.head+1)) S.rows,S.head+1,S.dV⟩ L):RL (fy S bj no cs) L:=by
 unfold fy
 rw[aeh a]
 rwa [aes]at h
theorem RL.ordered{S:cE}{L:List bf}(h:RL S L)(q:bf->Bool):nv ((L.filter q).map (·.t)):=by
 rw[nv,List.pairwise_map]
 refine(h.st.sublist List.filter_sublist).imp λ{x y} a=>?_
 rw[QZ]
 unfold eA at a
 simp only[Bool.or_eq_true,aeu,aet]at a
 rcases a with h1|h1
 ·exact vZ h1
 ·rw[h1.1];exact tc _
theorem RL.at_{S:cE}{L:List bf}(h:RL S L){q:bf->Bool}{ys:List aw}(a:ys.Perm ((S.rows.filter q).map (·.t)))(ho:nv ys):ys=(L.filter q).map (·.t):=zU (a.trans ((h.pm.filter _).map _).symm) (h.ordered _) ho
end Go.Proofs.YtdljmchhecoakaaGreat
