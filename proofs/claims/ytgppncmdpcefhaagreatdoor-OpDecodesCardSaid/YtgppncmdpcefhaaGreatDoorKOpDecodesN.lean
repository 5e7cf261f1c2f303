/- What the law 'OpDecodes' uses. No condition. -/
import Derived.Test.YtgppncmdpcefhaaGreatDoorKOpDecodesB
import Derived.Test.YtgppncmdpcefhaaGreatDoorKOpDecodesF
import Derived.Test.YtgppncmdpcefhaaGreatDoorKOpDecodesH
import Derived.Test.YtgppncmdpcefhaaGreatDoorKOpDecodesM
namespace Go.Proofs.YtgppncmdpcefhaaGreatDoor
set_option linter.defProp false
def acG:=@Nat.le_refl
def acH:=@if_neg
def acI:=@if_pos
def acJ:=@List.getElem?_eq_some_iff
def acK:=@List.length_set
def acL:=@Int.tdiv_eq_ediv_of_nonneg
def acM:=@Bool.and_eq_true
def acN:=@decide_eq_true_eq
def acO:=@List.filter_cons
def acP:=@Bool.or_eq_true
def acQ:=@List.length_drop
def acR:=@List.filter_congr
open Tryz
set_option linter.unusedVariables false
set_option linter.unusedSimpArgs false
set_option maxRecDepth 4000
theorem nD:∀(f x:Nat),x<2^f->x≠0->2^Lib.bitLenAux f x<=2*x/\x<2^Lib.bitLenAux f x
 |0,x,h,h0=>by simp at h;omega
 |f+1,x,h,h0=>by
  unfold Lib.bitLenAux
  rw[acH h0]
  by_cases a:x/2=0
  ·have:x=1:=by omega
   subst this
   have:Lib.bitLenAux f (1/2)=0:=by cases f<;>simp[Lib.bitLenAux]
   rw[this];omega
  ·have b:=nD f (x/2) (by rw[Nat.pow_succ]at h;omega) a
   rw[Nat.add_comm,Nat.pow_succ]
   omega
theorem bitLen_le:∀(f x:Nat),Lib.bitLenAux f x<=f
 |0,x=>by simp[Lib.bitLenAux]
 |f+1,x=>by
  unfold Lib.bitLenAux
  split
  ·omega
  ·have:=bitLen_le f (x/2);omega
theorem js(n:Nat)(h:n<2^63)(R:aC):Spec prog 232 [.int .u64 n] R [] λv H'=>v=.int .i64 (Lib.bitLen n:Nat)/\H'=[]:=by
 have:=Spec.oG (λw=>p8 (n:Int) w (by omega) (by omega)) R
 simpa using this
theorem ku(n:Nat)(b:n≠0)(h:n<=1000000000)(R:aC):Spec prog 408 [.int .i64 n] R [] λv H'=>(∃m:Nat,v=.int .u64 m/\n<m/\m<=2*n)/\H'=[]:=by
 have a:=nD 64 n (by omega) b
 have g:=bitLen_le 64 n
 refine Spec.body func408 rfl results408 ntmps408 rfl ?_
 refine .sr<|.ag rfl<|.z<|.mo rfl ?_
 refine .q (aV.cast (v':=.int .u64 (n:Nat)) .dT (by rw[fN (by omega) (by omega)])) ?_
 refine .bx (js n (by omega) _) (λv d=>?_)
 subst d
 refine .q (aV.cast (v':=.int .u64 ((2^Lib.bitLen n:Nat):Int)) (.lP) (by
  have e:min ((Lib.bitLen n:Nat):Int).toNat IntKind.u64.bits=Lib.bitLen n:=by
   unfold Lib.bitLen;simp[IntKind.bits];omega
  rw[e,Int.one_mul,fN]
  ·congr 1
  ·exact Int.le_of_lt (Int.pow_pos (by omega))
  ·have f:(2^Lib.bitLen n:Nat)<=2*n:=a.1
   have c:((2:Int)^Lib.bitLen n)=((2^Lib.bitLen n:Nat):Int):=by push_cast;rfl
   rw[c];omega)) ?_
 refine .az rfl ?_
 refine .ret (cf rfl ?_)
 ·exact⟨⟨2^Lib.bitLen n,rfl,a.2,a.1⟩,rfl⟩
theorem kA(b:Nat)(z:Int)(R:aC):Spec prog 409 [pT b] R [bl b [.int .u64 z] 508] λv H'=>∃T',H'=[T']/\∃z',v=.int .u64 z'/\T'=(bl b [.int .u64 z'] 508):=by
 refine Spec.body func409 rfl results409 ntmps409 rfl ?_
 refine .sr<|.ag rfl<|.zs ?_
 refine .bO 9 mixed (by kernel_rfl) ?_
 conv=>arg 6;dsimp only[List.take]
 refine .mo rfl<|.nc rfl<|.lo rfl<|.mo rfl ?_
 refine .nc rfl<|.lo rfl<|.q .lP<|.q .nx<|.nc rfl<|.nil<|.cC rfl rfl<|.zs ?_
 refine .bO 9 mixed (by kernel_rfl) ?_
 conv=>arg 6;dsimp only[List.take]
 refine .mo rfl<|.nc rfl<|.lo rfl<|.mo rfl ?_
 refine .nc rfl<|.lo rfl<|.q .ph<|.q .nx<|.nc rfl<|.nil<|.cC rfl rfl<|.zs ?_
 refine .bO 9 mixed (by kernel_rfl) ?_
 conv=>arg 6;dsimp only[List.take]
 refine .mo rfl<|.nc rfl<|.lo rfl<|.mo rfl ?_
 refine .nc rfl<|.lo rfl<|.q .lP<|.q .nx<|.nc rfl<|.nil<|.cC rfl rfl<|.z<|.mo rfl<|.nc rfl<|.lo rfl<|.az rfl ?_
 refine .ret (bb _ (.one (.tmp rfl)) rH ?_)
 ·exact⟨_,rfl,_,rfl,rfl⟩
namespace SCL
section
variable{c:CP->CP->Int}{ok:CP->Prop}{f:FuncId}{caps:List Value} [e:aL prog f]
theorem hG(v:Value)(xs:List CP)(T:ay)(a b:Nat)(R:aC)(h:OS 24 4 bD v xs T)(a3:a<=b)(J:b<=xs.length)(hl:xs.length<=1000000000)(O:bR prog f caps R (λp:CP=>Value.agg (bD p).toArray) c ok)(K:∀x∈xs,ok x)(G:SO (ap c)):
  Spec prog 318 [v,.int .i64 a,.int .i64 b,.func (.func f) #[] caps.toArray] R [T] λu H'=>∃T',H'=[T']/\u=.tuple #[]/\∃ys,OS 24 4 bD v ys T'/\RP a b xs ys/\SR (ap c) ys a b:=by
 have iv:=h.aF
 refine Spec.body func318 rfl results318 ntmps318 rfl ?_
 refine .sr<|.mo rfl ?_
 refine .ia (a+1) .add ?_
 refine .az rfl<|.block ?_
 refine .loop (X:=Nat×List CP×ay) (λy=>(a+1<=y.1/\(y.1<=b\/y.1=a+1))/\OS 24 4 bD v y.2.1 y.2.2/\RP a b xs y.2.1/\SR (ap c) y.2.1 a y.1) (λy=>[(0,v),(1,iN a),(2,iN b),(3,.func (.func f) #[] caps.toArray),(8,iN y.1)]) (λy=>[y.2.2]) (λy=>b-y.1) (a+1,xs,T) ⟨⟨by simp only;omega,.inr rfl⟩,h,.refl _,λi j s m I=>by simp only at I;omega⟩ kE.c.c.c.c.c rH ?_
 rintro⟨i,ys,M⟩ ⟨⟨Q,S⟩,D,C,E⟩
 simp only at Q S D C E⊢
 have a6:=C.length
 refine .seq<|.sr<|.mo rfl<|.mo rfl<|.q .lss<|.zn ?_
 refine .cond rfl (λs=>?_) λs=>?_
 have a5:i<b:=by simp at s;omega
 refine .kn<|.seq<|.block<|.sr<|.mo rfl<|.az rfl<|.block ?_
 refine .loop (X:=Nat×List CP×ay) (λy=>(a<=y.1/\y.1<=i)/\OS 24 4 bD v y.2.1 y.2.2/\RP a b xs y.2.1/\eP (ap c) y.2.1 a y.1 (i+1)) (λy=>[(0,v),(1,iN a),(2,iN b),(3,.func (.func f) #[] caps.toArray),(8,iN i),(9,iN y.1)]) (λy=>[y.2.2]) (λy=>y.1) (i,ys,M) ⟨⟨by simp only;omega,acG _⟩,D,C,E.ins⟩ kE.c.c.c.c.c.c rH ?_
 rintro⟨j,z,H⟩ ⟨⟨U,V⟩,e,n,B⟩
 simp only at U V e n B⊢
 have a7:=n.length
 refine .seq<|.seq ?_
 refine .bO 14 mixed (by kernel_rfl) ?_
 conv=>arg 6;dsimp only[List.take]
 refine .mo rfl<|.mo rfl<|.q .gtr<|.mo rfl ?_
 refine .split (t:=21) rfl (λd=>?_) (λd=>?_)
 have F:a<j:=by have:=bp d;omega
 obtain⟨x,g⟩:∃x,z[j]? =some x:=⟨_,aE (by omega)⟩
 obtain⟨y,l⟩:∃x,z[j-1]? =some x:=⟨_,aE (by omega)⟩
 have a0:=K x (n.perm.mem_iff.1 (aG g))
 have a1:=K y (n.perm.mem_iff.1 (aG l))
 refine .gT d<|.mo rfl<|.gT d<|.mo rfl<|.gT d<|.mo rfl<|.gT d ?_
 refine .ar j e g (λa8=>?_)
 refine .gT d<|.q (.aD rfl)<|.gT d<|.mo rfl<|.gT d<|.mo rfl<|.gT d ?_
 refine .ia (j-1) .sub ?_
 refine .gT d ?_
 refine .ar (j-1) e l (λa9=>?_)
 refine .gT d<|.q (.aD rfl)<|.nil<|.gT d ?_
 refine .bV (first:=[]) (captured:=caps) (vs:=[(λp:CP=>Value.agg (bD p).toArray) x,(λp:CP=>Value.agg (bD p).toArray) y]) (O x y a0 a1 _ (λb o J=>.inl J)) (λu r=>?_)
 subst r
 refine .gT d<|.q .lss<|.q (.bX d) ?_
 refine .zn ?_
 refine .cond rfl (λm=>?_) λm=>?_
 refine .kn<|.seq<|.block<|.bN [15,17] mixed ?_
 refine .tO 0 rfl .move<|.tO 1 rfl .move<|.tK 2 rfl .move<|.tK 3 rfl .move ?_
 refine .take 4 rfl (.i64 ((j-1:Nat):Int) .sub ⟨by omega,by omega,by omega⟩) (by kernel_rfl) ?_
 refine .tO 5 rfl .move<|.tO 6 rfl .move ?_
 refine .cA 7 rfl (.i64 ((j-1:Nat):Int) .sub ⟨by omega,by omega,by omega⟩) (by kernel_rfl) ?_
 refine RA.ar 8 rfl (j-1) e l rfl rfl rfl (by kernel_rfl) (λb0=>?_)
 refine .tO 9 rfl (.aD rfl)<|.tO 10 rfl .move<|.tO 11 rfl .move ?_
 refine RA.ar 12 rfl (j) e g rfl rfl rfl (by kernel_rfl) (λb1=>?_)
 refine .tO 13 rfl (.aD rfl) ?_
 refine RA.ar 14 rfl (j) e g rfl rfl rfl (by kernel_rfl) (λb2=>?_)
 refine .sT 15 rfl ?_
 refine .bh (j) e g y (λa2 Y=>?_) (e.one _ (aG l))
 refine .nil (Next.mod rfl ?_)
 refine RA.ar 16 rfl (j-1) e l rfl rfl rfl (by kernel_rfl) (λb3=>?_)
 refine .sT 17 rfl ?_
 obtain⟨zz,Z⟩:∃u,(z.set (j) y)[j-1]? =some u:=⟨_,aE (by rw[acK];exact(acJ.1 l).1)⟩
 refine .bh (j-1) Y Z x (λN L=>?_) (e.one _ (aG g))
 rw[<-bP g l]at L
 refine .nil (Next.mod rfl ?_)
 refine RA.nil (by kernel_rfl) ?_
 refine bg<|aI<|.region<|.mo rfl ?_
 refine .ia (j-1) .sub ?_
 refine .ag rfl<|.nil ?_
 ·have W:ap c x y=true:=m
  exact aS (j-1,bi z j (j-1),N) ⟨⟨by simp only;omega,by simp only;omega⟩,L,n.step (by omega) (by omega) (by omega) (by omega) (by omega),B.step G (by omega) (by omega) F g l W⟩ (by simp only;omega) kE.c.c.c.c.c.c rH
 refine .exit<|aT<|aW<|aU<|bg<|aI<|.region<|.mo rfl ?_
 refine .ia (i+1) .add ?_
 refine .ag rfl<|.nil ?_
 ·refine aS (i+1,z,H) ⟨⟨by simp only;omega,.inl (by simp only;omega)⟩,e,n,B.done G (by omega) (by omega) ?_⟩ (by simp only;omega) kE.c.c.c.c.c rH
  first
   |exact .inr ⟨F,λu w r A=>by
     rw[l]at r;rw[g]at A;cases r;cases A;exact m⟩
   |exact .inl (by have:=bc d;omega)
 refine .gF d<|.gF d<|.gF d<|.gF d<|.gF d<|.gF d<|.gF d<|.gF d<|.gF d<|.gF d<|.nil<|.gF d<|.gF d<|.q (.bU d) ?_
 refine .zn<|.bB<|.exit<|aT<|aW<|aU<|bg<|aI<|.region<|.mo rfl ?_
 refine .ia (i+1) .add ?_
 refine .ag rfl<|.nil ?_
 ·refine aS (i+1,z,H) ⟨⟨by simp only;omega,.inl (by simp only;omega)⟩,e,n,B.done G (by omega) (by omega) ?_⟩ (by simp only;omega) kE.c.c.c.c.c rH
  first
   |exact .inr ⟨F,λu w r A=>by
     rw[l]at r;rw[g]at A;cases r;cases A;exact m⟩
   |exact .inl (by have:=bc d;omega)
 refine .exit<|aT<|aW<|aU<|cz _ .none rH ?_
 ·have a4:b<=i:=by simp at s;omega
  exact⟨_,rfl,rfl,ys,D,C,λj k s m I=>E j k s m (by omega)⟩
theorem fA(v:Value)(xs:List CP)(T:ay)(lo k d:Nat)(R:aC)(h:OS 24 4 bD v xs T)(b2:lo<=k)(W:d+k<=xs.length)(hl:xs.length<=1000000000)(hf:bR prog f caps R (λp:CP=>Value.agg (bD p).toArray) c ok)(a4:∀x∈xs,ok x)(K:SO (ap c)):
    Spec prog 407 [v,.int .i64 lo,.int .i64 k,.int .i64 d,.func (.func f) #[] caps.toArray] R [T] λu H'=>∃T',H'=[T']/\u=.tuple #[]/\∃ys,OS 24 4 bD v ys T'/\RP d (d+k) xs ys/\
      (eb (λx y=>ap c y x) (xs.drop d) k lo lo->dz (λx y=>ap c y x) (ys.drop d) k lo):=by
  have iv:=h.aF
  have a5:=K.rev
  refine Spec.body func407 rfl results407 ntmps407 rfl ?_
  refine .sr<|.mo rfl<|.az rfl<|.block ?_
  refine .loop (X:=Nat×List CP×ay) (λy=>(lo<=y.1/\y.1<=k)/\OS 24 4 bD v y.2.1 y.2.2/\RP d (d+k) xs y.2.1/\(eb (λx y=>ap c y x) (xs.drop d) k lo lo->eb (λx y=>ap c y x) (y.2.1.drop d) k lo y.1)) (λy=>[(0,v),(2,iN k),(3,iN d),(4,.func (.func f) #[] caps.toArray),(10,iN y.1)]) (λy=>[y.2.2]) (λy=>k-y.1) (lo,xs,T) ⟨⟨acG _,b2⟩,h,.refl _,λh=>h⟩ kE.c.c.c.c.c rH ?_
  rintro⟨r,ys,T1⟩ ⟨⟨a7,b4⟩,m,E,V⟩
  simp only at a7 b4 m E V⊢
  have c2:=E.length
  have c1:(ys.drop d).length=ys.length-d:=acQ
  refine .block<|.sr<|.mo rfl ?_
  refine .ia (2*r) .mul ?_
  refine .ia (2*r+1) .add ?_
  refine .ag rfl<|.zs<|.sr<|.mo rfl<|.mo rfl<|.q .geq<|.zn ?_
  refine .cond rfl (λO=>?_) λO=>?_
  have b9:k<=2*r+1:=by have:=bp O;omega
  refine .exit (aT (du (aW (aU ?_))))
  refine cz _ .none rH ?_
  ·refine⟨_,rfl,rfl,ys,m,E,λS=>(V S).stop λa D F l u w g U=>?_⟩
   first
     |(simp only[aX]at l;omega)
     |(rw[cP]at g U
       rw[A]at g;cases g
       have Q:(!ap c H x)=true:=M
       exact a5.dD _ _ _ (Y a w D F l U) (by simpa using Q))
  have N:2*r+1<k:=by have:=bc O;omega
  obtain⟨H,A⟩:∃y,ys[d+r]? =some y:=⟨_,aE (by omega)⟩
  obtain⟨s,n⟩:∃y,ys[d+(2*r+1)]? =some y:=⟨_,aE (by omega)⟩
  have b7:=a4 H (E.perm.mem_iff.1 (aG A))
  have J:=a4 s (E.perm.mem_iff.1 (aG n))
  refine .kn<|.seq ?_
  refine bk.cut (X:=Nat×CP) (λz=>0<z.1/\z.1<k/\aX z.1=r/\ys[d+z.1]? =some z.2/\ok z.2/\∀a u,0<a->a<k->aX a=r->ys[d+a]? =some u->ap c z.2 u=false) (λz=>[(0,v),(2,iN k),(3,iN d),(4,.func (.func f) #[] caps.toArray),(10,iN r),(11,iN z.1)]) (λz=>[T1]) ?_ ?_
  refine .seq ?_
  refine .bO 19 mixed (by kernel_rfl) ?_
  conv=>arg 6;dsimp only[List.take]
  refine .mo rfl ?_
  refine .ia (2*r+2) .add ?_
  refine .mo rfl<|.q .lss<|.mo rfl ?_
  refine .split (t:=23) rfl (λe=>?_) (λe=>?_)
  have a2:2*r+2<k:=by have:=bp e;omega
  obtain⟨L,C⟩:∃y,ys[d+(2*r+2)]? =some y:=⟨_,aE (by omega)⟩
  have Z:=a4 L (E.perm.mem_iff.1 (aG C))
  refine .gT e<|.mo rfl<|.gT e<|.mo rfl<|.gT e<|.mo rfl<|.gT e<|.mo rfl<|.gT e ?_
  refine .ia (d+(2*r+1)) .add ?_
  refine .gT e ?_
  refine .ar (d+(2*r+1)) m n (λc3=>?_)
  refine .gT e<|.q (.aD rfl)<|.gT e<|.mo rfl<|.gT e<|.mo rfl<|.gT e<|.mo rfl<|.gT e ?_
  refine .ia (d+(2*r+1)) .add ?_
  refine .gT e ?_
  refine .ia (d+(2*r+2)) .add ?_
  refine .gT e ?_
  refine .ar (d+(2*r+2)) m C (λc4=>?_)
  refine .gT e<|.q (.aD rfl)<|.nil<|.gT e ?_
  refine .bV (first:=[]) (captured:=caps) (vs:=[(λp:CP=>Value.agg (bD p).toArray) s,(λp:CP=>Value.agg (bD p).toArray) L]) (hf s L J Z _ (λb o W=>.inl W)) (λu g=>?_)
  subst g
  refine .gT e<|.q .lss<|.q (.bX e) ?_
  refine .zn ?_
  refine .cond rfl (λI=>?_) λI=>?_
  have a3:∀a u,0<a->a<k->aX a=r->ys[d+a]? =some u->ap c L u=false:=λa u D F l g=>by
    have:a=2*r+1\/a=2*r+2:=by simp only[aX]at l;omega
    rcases this with rfl|rfl
    ·rw[n]at g;cases g;exact K.fR I
    ·rw[C]at g;cases g;exact K.cG _
  refine .region<|.mo rfl ?_
  refine .ia (2*r+2) .add ?_
  refine .ag rfl<|.nil ?_
  ·first
      |exact ax (2*r+2,L) ⟨by simp only;omega,a2,by simp only[aX];omega,C,Z,a3⟩ kE.c.c.c.c.c.c rH
      |exact ax (2*r+1,s) ⟨by simp only;omega,N,by simp only[aX];omega,n,J,B⟩ kE.c.c.c.c.c.c rH
      |(have B:∀a u,0<a->a<k->aX a=r->ys[d+a]? =some u->ap c s u=false:=λa u D F l g=>by
           have:a=2*r+1\/a=2*r+2:=by simp only[aX]at l;omega
           rcases this with rfl|rfl
           ·rw[n]at g;cases g;exact K.cG _
           ·rw[C]at g;cases g;exact I
        exact ax (2*r+1,s) ⟨by simp only;omega,N,by simp only[aX];omega,n,J,B⟩ kE.c.c.c.c.c.c rH)
  refine .skip ?_
  ·first
      |exact ax (2*r+2,L) ⟨by simp only;omega,a2,by simp only[aX];omega,C,Z,a3⟩ kE.c.c.c.c.c.c rH
      |exact ax (2*r+1,s) ⟨by simp only;omega,N,by simp only[aX];omega,n,J,B⟩ kE.c.c.c.c.c.c rH
      |(have B:∀a u,0<a->a<k->aX a=r->ys[d+a]? =some u->ap c s u=false:=λa u D F l g=>by
           have:a=2*r+1\/a=2*r+2:=by simp only[aX]at l;omega
           rcases this with rfl|rfl
           ·rw[n]at g;cases g;exact K.cG _
           ·rw[C]at g;cases g;exact I
        exact ax (2*r+1,s) ⟨by simp only;omega,N,by simp only[aX];omega,n,J,B⟩ kE.c.c.c.c.c.c rH)
  have B:∀a u,0<a->a<k->aX a=r->ys[d+a]? =some u->ap c s u=false:=λa u D F l g=>by
    have:a=2*r+1:=by have:=bc e;simp only[aX]at l;omega
    subst this
    rw[n]at g;cases g;exact K.cG _
  refine .gF e<|.gF e<|.gF e<|.gF e<|.gF e<|.gF e<|.gF e<|.gF e<|.gF e<|.gF e<|.gF e<|.gF e<|.gF e<|.gF e<|.nil<|.gF e<|.gF e<|.q (.bU e) ?_
  refine .zn<|.bB<|.skip ?_
  ·first
      |exact ax (2*r+2,L) ⟨by simp only;omega,a2,by simp only[aX];omega,C,Z,a3⟩ kE.c.c.c.c.c.c rH
      |exact ax (2*r+1,s) ⟨by simp only;omega,N,by simp only[aX];omega,n,J,B⟩ kE.c.c.c.c.c.c rH
      |(have B:∀a u,0<a->a<k->aX a=r->ys[d+a]? =some u->ap c s u=false:=λa u D F l g=>by
           have:a=2*r+1\/a=2*r+2:=by simp only[aX]at l;omega
           rcases this with rfl|rfl
           ·rw[n]at g;cases g;exact K.cG _
           ·rw[C]at g;cases g;exact I
        exact ax (2*r+1,s) ⟨by simp only;omega,N,by simp only[aX];omega,n,J,B⟩ kE.c.c.c.c.c.c rH)
  intro y hy
  obtain⟨j,x⟩:=y
  obtain⟨a0,a6,a1,G,a9,Y⟩:=hy
  simp only at a0 a6 a1 G a9 Y⊢
  have c0:r<j:=a1▸dO a0
  refine aI<|.seq<|.seq ?_
  refine .bO 13 mixed (by kernel_rfl) ?_
  conv=>arg 6;dsimp only[List.take]
  refine .mo rfl<|.mo rfl<|.mo rfl<|.mo rfl ?_
  refine .ia (d+r) .add ?_
  refine .ar (d+r) m A (λc5=>?_)
  refine .q (.aD rfl)<|.mo rfl<|.mo rfl<|.mo rfl ?_
  refine .ia (d+j) .add ?_
  refine .ar (d+j) m G (λc6=>?_)
  refine .q (.aD rfl)<|.nil ?_
  refine .bV (first:=[]) (captured:=caps) (vs:=[(λp:CP=>Value.agg (bD p).toArray) H,(λp:CP=>Value.agg (bD p).toArray) x]) (hf H x b7 a9 _ (λb o W=>.inl W)) (λu g=>?_)
  subst g
  refine .q .lss<|.q .not<|.zn ?_
  refine .cond rfl (λM=>?_) λM=>?_
  refine .ret (bq (bu (cH (bu (bb _ .none rH ?_)))))
  ·refine⟨_,rfl,rfl,ys,m,E,λS=>(V S).stop λa D F l u w g U=>?_⟩
   first
     |(simp only[aX]at l;omega)
     |(rw[cP]at g U
       rw[A]at g;cases g
       have Q:(!ap c H x)=true:=M
       exact a5.dD _ _ _ (Y a w D F l U) (by simpa using Q))
  refine .kn<|.seq<|.bN [21,23] mixed ?_
  refine .tO 0 rfl .move<|.tO 1 rfl .move<|.tO 2 rfl .move ?_
  refine .cA 3 rfl (.i64 ((d+r:Nat):Int) .add ⟨by omega,by omega,by omega⟩) (by kernel_rfl) ?_
  refine .tK 4 rfl .move<|.tK 5 rfl .move<|.tK 6 rfl .move ?_
  refine .take 7 rfl (.i64 ((d+j:Nat):Int) .add ⟨by omega,by omega,by omega⟩) (by kernel_rfl) ?_
  refine .tO 8 rfl .move<|.tO 9 rfl .move<|.tO 10 rfl .move ?_
  refine .cA 11 rfl (.i64 ((d+j:Nat):Int) .add ⟨by omega,by omega,by omega⟩) (by kernel_rfl) ?_
  refine RA.ar 12 rfl (d+j) m G rfl rfl rfl (by kernel_rfl) (λc7=>?_)
  refine .tO 13 rfl (.aD rfl)<|.tO 14 rfl .move<|.tO 15 rfl .move<|.tO 16 rfl .move ?_
  refine .cA 17 rfl (.i64 ((d+r:Nat):Int) .add ⟨by omega,by omega,by omega⟩) (by kernel_rfl) ?_
  refine RA.ar 18 rfl (d+r) m A rfl rfl rfl (by kernel_rfl) (λc8=>?_)
  refine .tO 19 rfl (.aD rfl) ?_
  refine RA.ar 20 rfl (d+r) m A rfl rfl rfl (by kernel_rfl) (λc9=>?_)
  refine .sT 21 rfl ?_
  refine .bh (d+r) m A x (λb8 b5=>?_) (m.one _ (aG G))
  refine .nil (Next.mod rfl ?_)
  refine RA.ar 22 rfl (d+j) m G rfl rfl rfl (by kernel_rfl) (λd0=>?_)
  refine .sT 23 rfl ?_
  obtain⟨zz,b6⟩:∃u,(ys.set (d+r) x)[d+j]? =some u:=⟨_,aE (by rw[acK];exact(acJ.1 G).1)⟩
  refine .bh (d+j) b5 b6 H (λb0 a8=>?_) (m.one _ (aG A))
  rw[<-bP A G]at a8
  refine .nil (Next.mod rfl ?_)
  refine RA.nil (by kernel_rfl) ?_
  refine aI<|.region<|.mo rfl<|.ag rfl<|.nil<|bg ?_
  ·have b3:ap c H x=true:=by
      have Q:(!ap c H x)=false:=M
      simpa using Q
   have b1:=gE (xs:=ys) (f:=d) (i:=r) (j:=j) (by omega) (by omega)
   exact aS (j,bi ys (d+r) (d+j),b0) ⟨⟨by simp only;omega,by simp only;omega⟩,a8,E.step (by omega) (by omega) (by omega) (by omega) (by omega),λS=>by
     simp only
     rw[b1]
     exact(V S).step a5 a7 a0 a6 (by omega) a1 (by rw[cP];exact G) (by rw[cP];exact A) b3 λa z O I M h4=>Y a z O I M (by rw[<-cP];exact h4)⟩ (by simp only;omega) kE.c.c.c.c.c rH
end
end SCL
namespace SCL
section
variable{c:CP->CP->Int}{ok:CP->Prop}{f:FuncId}{caps:List Value} [e:aL prog f]
theorem hF(v:Value)(xs:List CP)(T:ay)(a b:Nat)(R:aC)(h:OS 24 4 bD v xs T)(a8:a<=b)(hb:b<=xs.length)(hl:xs.length<=1000000000)(M:bR prog f caps R (λp:CP=>Value.agg (bD p).toArray) c ok)(N:∀x∈xs,ok x)(G:SO (ap c)):
  Spec prog 319 [v,.int .i64 a,.int .i64 b,.func (.func f) #[] caps.toArray] R [T] λu H'=>∃T',H'=[T']/\u=.tuple #[]/\∃ys,OS 24 4 bD v ys T'/\RP a b xs ys/\SR (ap c) ys a b:=by
 have iv:=h.aF
 have a6:=G.rev
 obtain⟨n,hn⟩:∃n,b=a+n:=⟨b-a,by omega⟩
 subst hn
 refine Spec.body func319 rfl results319 ntmps319 rfl ?_
 refine .sr<|.mo rfl<|.ag rfl<|.z<|.ag rfl<|.z<|.mo rfl<|.mo rfl ?_
 refine .ia (n) .sub ?_
 refine .ag rfl<|.zs<|.sr<|.mo rfl ?_
 refine .q (.i64 ((n:Int)-1) .sub ⟨rfl,by omega,by omega⟩) ?_
 refine .q (.i64 (((n-1)/2:Nat):Int) .quo ⟨kM,by omega,by omega⟩) ?_
 refine .az rfl<|.block ?_
 refine .loop (X:=Nat×Int×List CP×ay) (λy=>(y.2.1=(y.1:Int)-1/\y.1<=n+1)/\OS 24 4 bD v y.2.2.1 y.2.2.2/\RP a (a+n) xs y.2.2.1/\dz (λx y=>ap c y x) (y.2.2.1.drop a) n y.1) (λy=>[(0,v),(3,.func (.func f) #[] caps.toArray),(8,iN a),(9,.int .i64 ((0:Nat):Int)),(10,iN n),(11,.int .i64 y.2.1)]) (λy=>[y.2.2.2]) (λy=>y.1) ((n-1)/2+1,(((n-1)/2:Nat):Int),xs,T) ⟨⟨by simp only;omega,by simp only;omega⟩,h,.refl _,λk V hk hp=>by simp only[aX]at hp;omega⟩ kE.c.c.c.c.c.c rH ?_
 rintro⟨m,z,ys,H⟩ ⟨⟨hz,hm⟩,C,s,B⟩
 simp only at hz hm C s B⊢
 have a9:=s.length
 refine .seq<|.sr<|.mo rfl<|.q .geq<|.zn ?_
 refine .cond rfl (λo=>?_) λo=>?_
 have a3:0<=z:=bp o
 obtain⟨k,rfl⟩:∃k,m=k+1:=⟨m-1,by omega⟩
 obtain rfl:z=(k:Int):=by omega
 refine .kn<|.seq<|.block<|.region<|.mo rfl<|.mo rfl<|.mo rfl<|.mo rfl<|.mo rfl ?_
 refine .aQ (fA (c:=c) (ok:=ok) v ys H k n a _ C (by omega) (by omega) (by omega) M (λx e=>N x (s.perm.mem_iff.1 e)) G) (λu I F=>?_)
 obtain⟨rfl,g,d,l,r⟩:=F
 refine .nil<|bg<|aI<|.region<|.mo rfl ?_
 refine .q (.i64 ((k:Int)-1) .sub ⟨rfl,by omega,by omega⟩) ?_
 refine .ag rfl<|.nil ?_
 ·exact aS (k,(k:Int)-1,g,I) ⟨⟨rfl,by simp only;omega⟩,d,s.trans l,r B.hole⟩ (by simp only;omega) kE.c.c.c.c.c.c rH
 have E:m=0:=by have:=bc o;omega
 subst E
 refine .exit<|aT<|aW<|aU<|aI<|.sr<|.mo rfl ?_
 refine .q (.i64 ((n:Int)-1) .sub ⟨rfl,by omega,by omega⟩) ?_
 refine .az rfl<|.block ?_
 refine .loop (X:=Nat×Int×List CP×ay) (λy=>(y.2.1=(y.1:Int)-1/\y.1<=n)/\OS 24 4 bD v y.2.2.1 y.2.2.2/\RP a (a+n) xs y.2.2.1/\dz (λx y=>ap c y x) (y.2.2.1.drop a) y.1 0/\OX (ap c) y.2.2.1 a (a+n) a (a+y.1)) (λy=>[(0,v),(3,.func (.func f) #[] caps.toArray),(8,iN a),(9,.int .i64 ((0:Nat):Int)),(10,iN n),(12,.int .i64 y.2.1)]) (λy=>[y.2.2.2]) (λy=>y.1) (n,(n:Int)-1,ys,H) ⟨⟨rfl,acG _⟩,C,s,B,OX.start⟩ kE.c.c.c.c.c.c rH ?_
 rintro⟨m,Q,g,I⟩ ⟨⟨a4,a1⟩,d,l,r,D⟩
 simp only at a4 a1 d l r D⊢
 have b0:=l.length
 refine .seq<|.sr<|.mo rfl<|.q .geq<|.zn ?_
 refine .cond rfl (λA=>?_) λA=>?_
 have a3:0<=Q:=bp A
 obtain⟨k,rfl⟩:∃k,m=k+1:=⟨m-1,by omega⟩
 obtain rfl:Q=(k:Int):=by omega
 obtain⟨x,e⟩:∃x,g[a]? =some x:=⟨_,aE (by omega)⟩
 obtain⟨y,t⟩:∃x,g[a+k]? =some x:=⟨_,aE (by omega)⟩
 refine .kn<|.seq<|.block<|.seq<|.bN [17,19] mixed ?_
 refine .tO 0 rfl .move<|.tO 1 rfl .move<|.tK 2 rfl .move<|.tK 3 rfl .move<|.tK 4 rfl .move ?_
 refine .take 5 rfl (.i64 ((a+k:Nat):Int) .add ⟨by omega,by omega,by omega⟩) (by kernel_rfl) ?_
 refine .tO 6 rfl .move<|.tO 7 rfl .move<|.tO 8 rfl .move ?_
 refine .cA 9 rfl (.i64 ((a+k:Nat):Int) .add ⟨by omega,by omega,by omega⟩) (by kernel_rfl) ?_
 refine RA.ar 10 rfl (a+k) d t rfl rfl rfl (by kernel_rfl) (λb1=>?_)
 refine .tO 11 rfl (.aD rfl)<|.tO 12 rfl .move<|.tO 13 rfl .move ?_
 refine RA.ar 14 rfl (a) d e rfl rfl rfl (by kernel_rfl) (λb2=>?_)
 refine .tO 15 rfl (.aD rfl) ?_
 refine RA.ar 16 rfl (a) d e rfl rfl rfl (by kernel_rfl) (λb3=>?_)
 refine .sT 17 rfl ?_
 refine .bh (a) d e y (λa7 a2=>?_) (d.one _ (aG t))
 refine .nil (Next.mod rfl ?_)
 refine RA.ar 18 rfl (a+k) d t rfl rfl rfl (by kernel_rfl) (λb4=>?_)
 refine .sT 19 rfl ?_
 obtain⟨zz,a5⟩:∃u,(g.set (a) y)[a+k]? =some u:=⟨_,aE (by rw[acK];exact(acJ.1 t).1)⟩
 refine .bh (a+k) a2 a5 x (λU O=>?_) (d.one _ (aG e))
 rw[<-bP e t]at O
 refine .nil (Next.mod rfl ?_)
 refine RA.nil (by kernel_rfl) ?_
 refine aI<|.region<|.mo rfl<|.mo rfl<|.mo rfl<|.mo rfl<|.mo rfl ?_
 have L:=gE (xs:=g) (f:=a) (i:=0) (j:=k) (by omega) (by omega)
 have J:=l.step (i:=a) (j:=a+k) (by omega) (by omega) (by omega) (by omega) (by omega)
 have a0:=OX.last (m:=a+k) (x:=x) D (by omega) (by omega) (by omega) e (λj w o W hw=>dz.top a6 r (by rw[acQ];omega) (x:=x) (by rw[cP];exact e) (j-a) w (by omega) (by rw[cP,show a+(j-a)=j by omega];exact hw))
 refine .aQ (fA (c:=c) (ok:=ok) v (bi g a (a+k)) U 0 k a _ O (by omega) (by rw[eh];omega) (by rw[eh];omega) M (λx e=>N x (J.perm.mem_iff.1 e)) G) (λu S F=>?_)
 obtain⟨rfl,ws,Z,K,Y⟩:=F
 refine .nil<|bg<|aI<|.region<|.mo rfl ?_
 refine .q (.i64 ((k:Int)-1) .sub ⟨rfl,by omega,by omega⟩) ?_
 refine .ag rfl<|.nil ?_
 ·exact aS (k,(k:Int)-1,ws,S) ⟨⟨rfl,by simp only;omega⟩,Z,J.trans (K.mono (acG a) (by omega) (by rw[eh];omega)),Y (r.kg λj V hj=>by
   rw[Nat.add_zero]at L
   rw[L,cR (by rw[acQ];omega) (by rw[acQ];omega),acH (by omega),acH (by omega)]),a0.rp K (acG _) (by omega)⟩ (by simp only;omega) kE.c.c.c.c.c.c rH
 refine .exit<|aT<|aW<|aU<|cz _ .none rH ?_
 ·have E:m=0:=by have:=bc A;omega
  subst E
  exact⟨_,rfl,rfl,g,d,l,D.cS λi j o A W=>by omega⟩
theorem ie(v:Value)(xs:List CP)(T:ay)(a b:Nat)(R:aC)(k:Value)(D:One k)(h:OS 24 4 bD v xs T)(B:a<b)(C:b<=xs.length)(E:xs.length<=1000000000):
  Spec prog 322 [v,.int .i64 a,.int .i64 b,k] R [T] λu H'=>∃T',H'=[T']/\u=.tuple #[]/\∃ys,OS 24 4 bD v ys T'/\RP a b xs ys:=by
 have H:=h.aF
 refine Spec.body func322 rfl results322 ntmps322 rfl ?_
 refine .sr<|.mo rfl<|.ag rfl<|.z<|.mo rfl ?_
 refine .ia (b-1) .sub ?_
 refine .az rfl<|.block ?_
 refine .loop (X:=Nat×Nat×List CP×ay) (λy=>(a<=y.1/\y.1<=y.2.1+1/\y.2.1<b)/\OS 24 4 bD v y.2.2.1 y.2.2.2/\RP a b xs y.2.2.1) (λy=>[(0,v),(8,iN y.1),(9,iN y.2.1)]) (λy=>[y.2.2.2]) (λy=>b-y.1) (a,b-1,xs,T) ⟨⟨acG _,by simp only;omega,by simp only;omega⟩,h,.refl _⟩ kE.c.c.c rH ?_
 rintro⟨i,j,ys,w⟩ ⟨⟨o,p,r⟩,d,g⟩
 simp only at o p r d g⊢
 have F:=g.length
 refine .seq<|.sr<|.mo rfl<|.mo rfl<|.q .lss<|.zn ?_
 refine .cond rfl (λl=>?_) λl=>?_
 have G:i<j:=cO l
 obtain⟨x,e⟩:∃x,ys[i]? =some x:=⟨_,aE (by omega)⟩
 obtain⟨y,f⟩:∃x,ys[j]? =some x:=⟨_,aE (by omega)⟩
 refine .kn<|.block<|.seq<|.bN [13,15] mixed ?_
 refine .tO 0 rfl .move<|.tO 1 rfl .move<|.tK 2 rfl .move<|.tK 3 rfl .move<|.tO 4 rfl .move<|.tO 5 rfl .move ?_
 refine RA.ar 6 rfl (j) d f rfl rfl rfl (by kernel_rfl) (λI=>?_)
 refine .tO 7 rfl (.aD rfl)<|.tO 8 rfl .move<|.tO 9 rfl .move ?_
 refine RA.ar 10 rfl (i) d e rfl rfl rfl (by kernel_rfl) (λJ=>?_)
 refine .tO 11 rfl (.aD rfl) ?_
 refine RA.ar 12 rfl (i) d e rfl rfl rfl (by kernel_rfl) (λK=>?_)
 refine .sT 13 rfl ?_
 refine .bh (i) d e y (λA s=>?_) (d.one _ (aG f))
 refine .nil (Next.mod rfl ?_)
 refine RA.ar 14 rfl (j) d f rfl rfl rfl (by kernel_rfl) (λL=>?_)
 refine .sT 15 rfl ?_
 obtain⟨M,t⟩:∃u,(ys.set (i) y)[j]? =some u:=⟨_,aE (by rw[acK];exact(acJ.1 f).1)⟩
 refine .bh (j) s t x (λn m=>?_) (d.one _ (aG e))
 rw[<-bP e f]at m
 refine .nil (Next.mod rfl ?_)
 refine RA.nil (by kernel_rfl) ?_
 refine aI<|.sr<|.mo rfl ?_
 refine .ia (i+1) .add ?_
 refine .az rfl<|.region<|.mo rfl ?_
 refine .ia (j-1) .sub ?_
 refine .ag rfl<|.nil<|bg ?_
 ·exact aS (i+1,j-1,bi ys i j,n) ⟨⟨by simp only;omega,by simp only;omega,by simp only;omega⟩,m,g.step (by omega) (by omega) (by omega) (by omega) (by omega)⟩ (by simp only;omega) kE.c.c.c rH
 refine .exit<|aT<|aW<|aU<|cz _ .none rH ?_
 ·exact⟨_,rfl,rfl,ys,d,g⟩
theorem gV(v:Value)(xs:List CP)(T:ay)(a b:Nat)(R:aC)(s:Value)(V:One s)(h:OS 24 4 bD v xs T)(S:a<=b)(U:b<=xs.length)(Y:xs.length<=1000000000):
  Spec prog 320 [v,.int .i64 a,.int .i64 b,s] R [T] λu H'=>∃T',H'=[T']/\u=.tuple #[]/\∃ys,OS 24 4 bD v ys T'/\RP a b xs ys:=by
 have iv:=h.aF
 obtain⟨n,J⟩:∃n,b=a+n:=⟨b-a,by omega⟩
 subst J
 refine Spec.body func320 rfl results320 ntmps320 rfl ?_
 refine .sr<|.mo rfl<|.mo rfl ?_
 refine .ia (n) .sub ?_
 refine .ag rfl<|.z<|.mo rfl<|.q .geq<|.zn ?_
 refine .cond rfl (λt=>?_) λt=>?_
 have a2:8<=n:=by have:=bp t;omega
 obtain⟨q,D⟩:∃q,q=n/4:=⟨_,rfl⟩
 refine .sr<|.mo rfl<|.q .dT ?_
 refine .gz (λe=>?_)
 refine .cC rfl rfl<|.z<|.mo rfl ?_
 refine .bx (ku n (by omega) (by omega) _) (λu r=>?_)
 obtain⟨j,rfl,a0,a1⟩:=r
 refine .ag rfl<|.z<|.mo rfl<|.mo rfl ?_
 refine .q (.i64 ((q:Nat):Int) .quo ⟨by rw[D,acL (by omega)];omega,by omega,by omega⟩) ?_
 refine .ia (q*2) .mul ?_
 refine .ia (a+q*2) .add ?_
 refine .ia (a+q*2-1) .sub ?_
 refine .az rfl<|.block ?_
 refine .loop (X:=Nat×Int×List CP×ay) (λy=>(a+q*2-1<=y.1/\y.1<=a+q*2+2)/\OS 24 4 bD v y.2.2.1 y.2.2.2/\RP a (a+n) xs y.2.2.1) (λy=>[(0,v),(1,iN a),(8,iN n),(9,pT e),(10,.int .u64 (j:Nat)),(11,iN y.1)]) (λy=>[bl e [.int .u64 y.2.1] 508,y.2.2.2]) (λy=>a+q*2+2-y.1) (a+q*2-1,_,xs,T) ⟨⟨acG _,by simp only;omega⟩,h,.refl _⟩ kE.c.c.c.c.c.c rH ?_
 rintro⟨i,z,ys,F⟩ ⟨⟨H,I⟩,d,k⟩
 simp only at H I d k⊢
 have Z:=k.length
 refine .seq<|.sr<|.mo rfl<|.mo rfl<|.mo rfl ?_
 refine .q (.i64 ((q:Nat):Int) .quo ⟨by rw[D,acL (by omega)];omega,by omega,by omega⟩) ?_
 refine .ia (q*2) .mul ?_
 refine .ia (a+q*2) .add ?_
 refine .ia (a+q*2+1) .add ?_
 refine .q .leq<|.zn ?_
 refine .cond rfl (λA=>?_) λA=>?_
 have W:i<=a+q*2+1:=by have:=bp A;omega
 refine .kn<|.seq<|.block<|.sr ?_
 refine .aQ (kA e z _) (λu O r=>?_)
 obtain⟨l,rfl,rfl⟩:=r
 refine .mo rfl ?_
 refine .q (aV.cast (v':=.int .u64 ((j-1:Nat):Int)) .sub (by rw[fN (by omega) (by omega)];congr 1;omega)) ?_
 have B:=jR (z:=l) (q:=((j-1:Nat):Int)) (by omega) (by omega)
 obtain⟨o,C⟩:∃o:Nat,IntKind.u64.wrap (BitVec.ofInt IntKind.u64.bits l&&&BitVec.ofInt IntKind.u64.bits ((j-1:Nat):Int)).toNat=(o:Int):=⟨_,(Int.toNat_of_nonneg B.1).symm⟩
 refine .q (aV.cast (v':=.int .u64 ((o:Nat):Int)) .jQ (by rw[C])) ?_
 rw[C]at B
 refine .q (aV.cast (v':=.int .i64 ((o:Nat):Int)) .dT (by rw[kP (by omega) (by omega)])) ?_
 refine .ag rfl<|.zs ?_
 refine bk.cut (X:=Nat) (λp=>p<n) (λp=>[(0,v),(1,iN a),(8,iN n),(9,pT e),(10,.int .u64 (j:Nat)),(11,iN i),(12,iN p)]) (λ_=>[bl e [.int .u64 l] 508,F]) ?_ ?_
 refine .sr<|.mo rfl<|.mo rfl<|.q .geq<|.zn ?_
 refine .cond rfl (λm=>?_) λm=>?_
 have K:n<=o:=by have:=bp m;omega
 refine .region<|.mo rfl<|.mo rfl ?_
 refine .ia (o-n) .sub ?_
 refine .ag rfl<|.nil ?_
 ·first
   |exact ax (o-n) (by omega) kE.c.c.c.c.c.c.c rH
   |exact ax o (by omega) kE.c.c.c.c.c.c.c rH
 have K:o<n:=by have:=bc m;omega
 refine .skip ?_
 ·first
   |exact ax (o-n) (by omega) kE.c.c.c.c.c.c.c rH
   |exact ax o (by omega) kE.c.c.c.c.c.c.c rH
 intro y M
 have a3:y<n:=M
 obtain⟨p,rfl⟩:∃p,p=y:=⟨_,rfl⟩
 obtain⟨x,g⟩:∃x,ys[i]? =some x:=⟨_,aE (by omega)⟩
 obtain⟨w,f⟩:∃x,ys[a+p]? =some x:=⟨_,aE (by omega)⟩
 refine aI<|.bN [17,19] mixed ?_
 refine .tO 0 rfl .move<|.tO 1 rfl .move<|.tK 2 rfl .move<|.tK 3 rfl .move<|.tK 4 rfl .move ?_
 refine .take 5 rfl (.i64 ((a+p:Nat):Int) .add ⟨by omega,by omega,by omega⟩) (by kernel_rfl) ?_
 refine .tO 6 rfl .move<|.tO 7 rfl .move<|.tO 8 rfl .move ?_
 refine .cA 9 rfl (.i64 ((a+p:Nat):Int) .add ⟨by omega,by omega,by omega⟩) (by kernel_rfl) ?_
 refine RA.ar 10 rfl (a+p) d f rfl rfl rfl (by kernel_rfl) (λa4=>?_)
 refine .tO 11 rfl (.aD rfl)<|.tO 12 rfl .move<|.tO 13 rfl .move ?_
 refine RA.ar 14 rfl (i) d g rfl rfl rfl (by kernel_rfl) (λa5=>?_)
 refine .tO 15 rfl (.aD rfl) ?_
 refine RA.ar 16 rfl (i) d g rfl rfl rfl (by kernel_rfl) (λa6=>?_)
 refine .sT 17 rfl ?_
 refine .bh (i) d g w (λQ L=>?_) (d.one _ (aG f))
 refine .nil (Next.mod rfl ?_)
 refine RA.ar 18 rfl (a+p) d f rfl rfl rfl (by kernel_rfl) (λa7=>?_)
 refine .sT 19 rfl ?_
 obtain⟨zz,N⟩:∃u,(ys.set (i) w)[a+p]? =some u:=⟨_,aE (by rw[acK];exact(acJ.1 f).1)⟩
 refine .bh (a+p) L N x (λG E=>?_) (d.one _ (aG g))
 rw[<-bP g f]at E
 refine .nil (Next.mod rfl ?_)
 refine RA.nil (by kernel_rfl) ?_
 refine bg<|aI<|.region<|.mo rfl ?_
 refine .ia (i+1) .add ?_
 refine .ag rfl<|.nil ?_
 ·exact aS (i+1,l,bi ys i (a+p),G) ⟨⟨by simp only;omega,by simp only;omega⟩,E,k.step (by omega) (by omega) (by omega) (by omega) (by omega)⟩ (by simp only;omega) kE.c.c.c.c.c.c rH
 refine .exit<|aT<|aW<|aU<|cz _ .none (cw [1]) ?_
 ·exact⟨_,rfl,rfl,ys,d,k⟩
 refine .skip<|cz _ .none rH ?_
 ·exact⟨_,rfl,rfl,xs,h,.refl _⟩
end
end SCL
namespace SCL
section
variable{c:CP->CP->Int}{ok:CP->Prop}{f:FuncId}{caps:List Value} [e:aL prog f]
theorem hU(v:Value)(xs:List CP)(T:ay)(a b:Nat)(R:aC)(h:OS 24 4 bD v xs T)(b5:a<b)(V:b<=xs.length)(hl:xs.length<=1000000000)(hf:bR prog f caps R (λp:CP=>Value.agg (bD p).toArray) c ok)(W:∀x∈xs,ok x)(so:SO (ap c))(c4:LB (ap c) xs a b):
  Spec prog 323 [v,.int .i64 a,.int .i64 b,.func (.func f) #[] caps.toArray] R [T] λu H'=>∃T',H'=[T']/\∃ys m,u=.bool m/\OS 24 4 bD v ys T'/\RP a b xs ys/\(m=true->SR (ap c) ys a b):=by
 have iv:=h.aF
 refine Spec.body func323 rfl results323 ntmps323 rfl ?_
 refine .sr<|.ag rfl<|.z<|.mo rfl ?_
 refine .ia (a+1) .add ?_
 refine .ag rfl<|.zs<|.sr<|.az rfl<|.block ?_
 refine .loop (X:=Nat×Nat×List CP×ay) (λy=>(y.1<=5/\a+1<=y.2.1/\y.2.1<=b)/\OS 24 4 bD v y.2.2.1 y.2.2.2/\RP a b xs y.2.2.1/\SR (ap c) y.2.2.1 a y.2.1) (λy=>[(0,v),(1,iN a),(2,iN b),(3,.func (.func f) #[] caps.toArray),(9,iN y.2.1),(10,iN y.1)]) (λy=>[y.2.2.2]) (λy=>5-y.1) (0,a+1,xs,T) ⟨⟨by omega,acG _,b5⟩,h,.refl _,λi j S U M=>by simp only at M;omega⟩ kE.c.c.c.c.c.c rH ?_
 rintro⟨n,i,ys,T1⟩ ⟨⟨hn,I,J⟩,B,N,E⟩
 simp only at hn I J B N E⊢
 have c8:=N.length
 refine .seq<|.sr<|.mo rfl<|.q .lss<|.zn ?_
 refine .cond rfl (λS=>?_) λS=>?_
 have d1:n<5:=cO S
 refine .kn<|.seq<|.block<|.seq ?_
 refine bk.cut (X:=Nat) (λi=>(a+1<=i/\i<=b)/\SR (ap c) ys a i) (λi=>[(0,v),(1,iN a),(2,iN b),(3,.func (.func f) #[] caps.toArray),(9,iN i),(10,iN n)]) (λ_=>[T1]) ?_ ?_
 refine .block ?_
 refine .loop (X:=Nat) (λi=>(a+1<=i/\i<=b)/\SR (ap c) ys a i) (λi=>[(0,v),(1,iN a),(2,iN b),(3,.func (.func f) #[] caps.toArray),(9,iN i),(10,iN n)]) (λ_=>[T1]) (λi=>b-i) i ⟨⟨I,J⟩,E⟩ kE.c.c.c.c.c.c rH ?_
 clear I J E
 rintro i ⟨⟨I,J⟩,E⟩
 refine .seq<|.seq ?_
 refine .bO 14 mixed (by kernel_rfl) ?_
 conv=>arg 6;dsimp only[List.take]
 refine .mo rfl<|.mo rfl<|.q .lss<|.mo rfl ?_
 refine .split (t:=22) rfl (λe=>?_) (λe=>?_)
 have c3:i<b:=by have:=bp e;omega
 obtain⟨x,F⟩:∃x,ys[i]? =some x:=⟨_,aE (by omega)⟩
 obtain⟨y,D⟩:∃x,ys[i-1]? =some x:=⟨_,aE (by omega)⟩
 have c6:=W x (N.perm.mem_iff.1 (aG F))
 have c7:=W y (N.perm.mem_iff.1 (aG D))
 refine .gT e<|.mo rfl<|.gT e<|.mo rfl<|.gT e<|.mo rfl<|.gT e ?_
 refine .ar i B F (λe1=>?_)
 refine .gT e<|.q (.aD rfl)<|.gT e<|.mo rfl<|.gT e<|.mo rfl<|.gT e ?_
 refine .ia (i-1) .sub ?_
 refine .gT e ?_
 refine .ar (i-1) B D (λe2=>?_)
 refine .gT e<|.q (.aD rfl)<|.nil<|.gT e ?_
 refine .bV (first:=[]) (captured:=caps) (vs:=[(λp:CP=>Value.agg (bD p).toArray) x,(λp:CP=>Value.agg (bD p).toArray) y]) (hf x y c6 c7 _ (λb o V=>.inl V)) (λu H=>?_)
 subst H
 refine .gT e<|.q .lss<|.gT e<|.q .not<|.q (.bX e) ?_
 refine .zn ?_
 refine .cond rfl (λU=>?_) λU=>?_
 refine .kn<|.block<|.region<|.mo rfl ?_
 refine .ia (i+1) .add ?_
 refine .ag rfl<|.nil<|bg ?_
 ·have c5:ap c x y=false:=by
   have b8:(!ap c x y)=true:=U
   simpa using b8
  exact aS (i+1) ⟨⟨by omega,by omega⟩,E.snoc so (by omega) (by omega) λu w H hw=>by
   rw[D]at H;rw[F]at hw;cases H;cases hw;exact c5⟩ (by omega) kE.c.c.c.c.c.c rH
 refine .exit<|aT<|aW<|aU ?_
 exact ax i ⟨⟨I,J⟩,E⟩ kE.c.c.c.c.c.c rH
 refine .gF e<|.gF e<|.gF e<|.gF e<|.gF e<|.gF e<|.gF e<|.gF e<|.gF e<|.gF e<|.nil<|.gF e<|.gF e<|.gF e<|.q (.bU e) ?_
 refine .zn<|.bB<|.exit<|aT<|aW<|aU ?_
 exact ax i ⟨⟨I,J⟩,E⟩ kE.c.c.c.c.c.c rH
 intro x F
 obtain⟨d,b6⟩:∃d,d=x:=⟨_,rfl⟩
 rw[<-b6]at F⊢
 clear b6 x I J E
 obtain⟨⟨I,J⟩,E⟩:=F
 refine aI<|.seq<|.sr<|.mo rfl<|.mo rfl<|.q .cL<|.zn ?_
 refine .cond rfl (λM=>?_) λM=>?_
 refine .sr<|.az rfl ?_
 refine .ret (bq (bu (bq (cH (bu (bq (bb _ (.one (.tmp rfl)) rH ?_)))))))
 ·have c2:d=b:=by
   have b9:((d:Int)=b):=by simpa using M
   omega
  exact⟨_,rfl,ys,true,rfl,B,N,λ_=>c2▸E⟩
 have c3:d<b:=by
  have b9:¬((d:Int)=b):=by simpa using M
  omega
 obtain⟨x,F⟩:∃x,ys[d]? =some x:=⟨_,aE (by omega)⟩
 obtain⟨y,D⟩:∃x,ys[d-1]? =some x:=⟨_,aE (by omega)⟩
 refine .kn<|.seq<|.sr<|.mo rfl<|.mo rfl ?_
 refine .ia (b-a) .sub ?_
 refine .q .lss<|.zn ?_
 refine .cond rfl (λh4=>?_) λh4=>?_
 refine .sr<|.az rfl ?_
 refine .ret (bq (bu (bq (cH (bu (bq (bb _ (.one (.tmp rfl)) rH ?_)))))))
 ·exact⟨_,rfl,ys,false,rfl,B,N,λh=>by cases h⟩
 refine .kn<|.seq<|.bN [15,17] mixed ?_
 refine .tO 0 rfl .move<|.tO 1 rfl .move<|.tK 2 rfl .move<|.tK 3 rfl .move ?_
 refine .take 4 rfl (.i64 ((d-1:Nat):Int) .sub ⟨by omega,by omega,by omega⟩) (by kernel_rfl) ?_
 refine .tO 5 rfl .move<|.tO 6 rfl .move ?_
 refine .cA 7 rfl (.i64 ((d-1:Nat):Int) .sub ⟨by omega,by omega,by omega⟩) (by kernel_rfl) ?_
 refine RA.ar 8 rfl (d-1) B D rfl rfl rfl (by kernel_rfl) (λe3=>?_)
 refine .tO 9 rfl (.aD rfl)<|.tO 10 rfl .move<|.tO 11 rfl .move ?_
 refine RA.ar 12 rfl (d) B F rfl rfl rfl (by kernel_rfl) (λe4=>?_)
 refine .tO 13 rfl (.aD rfl) ?_
 refine RA.ar 14 rfl (d) B F rfl rfl rfl (by kernel_rfl) (λe5=>?_)
 refine .sT 15 rfl ?_
 refine .bh (d) B F y (λb1 a0=>?_) (B.one _ (aG D))
 refine .nil (Next.mod rfl ?_)
 refine RA.ar 16 rfl (d-1) B D rfl rfl rfl (by kernel_rfl) (λe6=>?_)
 refine .sT 17 rfl ?_
 obtain⟨zz,a1⟩:∃u,(ys.set (d) y)[d-1]? =some u:=⟨_,aE (by rw[acK];exact(acJ.1 D).1)⟩
 refine .bh (d-1) a0 a1 x (λL G=>?_) (B.one _ (aG F))
 rw[<-bP F D]at G
 refine .nil (Next.mod rfl ?_)
 refine RA.nil (by kernel_rfl) ?_
 have a3:=N.step (i:=d) (j:=d-1) (by omega) (by omega) (by omega) (by omega) (by omega)
 have c0:=E.kJ (by omega)
 clear E
 refine aI<|.seq ?_
 refine bk.cut (X:=List CP×ay) (λz=>OS 24 4 bD v z.1 z.2/\RP a b xs z.1/\SR (ap c) z.1 a d) (λ_=>[(0,v),(1,iN a),(2,iN b),(3,.func (.func f) #[] caps.toArray),(9,iN d),(10,iN n)]) (λz=>[z.2]) ?_ ?_
 refine .sr<|.mo rfl<|.mo rfl ?_
 refine .ia (d-a) .sub ?_
 refine .q .geq<|.zn ?_
 refine .cond rfl (λh5=>?_) λh5=>?_
 refine .sr<|.mo rfl ?_
 refine .ia (d-1) .sub ?_
 refine .az rfl<|.block ?_
 refine .loop (X:=Nat×List CP×ay) (λz=>(a<=z.1/\z.1<=d-1)/\OS 24 4 bD v z.2.1 z.2.2/\RP a b xs z.2.1/\eP (ap c) z.2.1 a z.1 d) (λz=>[(0,v),(1,iN a),(2,iN b),(3,.func (.func f) #[] caps.toArray),(9,iN d),(10,iN n),(11,iN z.1)]) (λz=>[z.2.2]) (λz=>z.1) (d-1,bi ys d (d-1),L) ⟨⟨by simp only;omega,acG _⟩,G,a3,c0⟩ kE.c.c.c.c.c.c.c rH ?_
 rintro⟨q,A,K⟩ ⟨⟨a7,a8⟩,g,r,a2⟩
 simp only at a7 a8 g r a2⊢
 have c9:=r.length
 refine .seq<|.sr<|.mo rfl<|.q .geq<|.zn ?_
 refine .cond rfl (λh6=>?_) λh6=>?_
 have d2:1<=q:=by have:=bp h6;omega
 obtain⟨s,k⟩:∃x,A[q]? =some x:=⟨_,aE (by omega)⟩
 obtain⟨t,l⟩:∃x,A[q-1]? =some x:=⟨_,aE (by omega)⟩
 have a9:=W s (r.perm.mem_iff.1 (aG k))
 have b0:=W t (r.perm.mem_iff.1 (aG l))
 refine .kn<|.seq<|.block<|.seq<|.seq ?_
 refine .bO 10 mixed (by kernel_rfl) ?_
 conv=>arg 6;dsimp only[List.take]
 refine .mo rfl<|.mo rfl<|.mo rfl ?_
 refine .ar q g k (λe7=>?_)
 refine .q (.aD rfl)<|.mo rfl<|.mo rfl ?_
 refine .ia (q-1) .sub ?_
 refine .ar (q-1) g l (λe8=>?_)
 refine .q (.aD rfl)<|.nil ?_
 refine .bV (first:=[]) (captured:=caps) (vs:=[(λp:CP=>Value.agg (bD p).toArray) s,(λp:CP=>Value.agg (bD p).toArray) t]) (hf s t a9 b0 _ (λb o V=>.inl V)) (λu H=>?_)
 subst H
 refine .q .lss<|.q .not<|.zn ?_
 refine .cond rfl (λh7=>?_) λh7=>?_
 have a4:SR (ap c) A a d:=a2.done so (by omega) (by omega) (by
  have a5:(!ap c s t)=true:=h7
  rcases Nat.lt_or_ge a q with hh|hh
  ·exact .inr ⟨hh,λu w H hw=>by rw[l]at H;rw[k]at hw;cases H;cases hw;simpa using a5⟩
  ·exact .inl (by omega))
 refine .exit (aT (du (aT (aW (aU ?_)))))
 ·first
   |exact ax (A,K) ⟨g,r,a4⟩ kE.c.c.c.c.c.c rH
   |exact ax (bi ys d (d-1),L) ⟨G,a3,λp q S U M=>by have:=bc h5;omega⟩ kE.c.c.c.c.c.c rH
 have a6:ap c s t=true:=by
  have a5:(!ap c s t)=false:=h7
  simpa using a5
 have c1:a<q:=by
  rcases Nat.lt_or_ge a q with hh|hh
  ·exact hh
  ·have ea:q=a:=by omega
   subst ea
   have:=(c4.rp r) (by omega) q (acG _) b5 t s l k
   rw[this]at a6;cases a6
 refine .kn<|.bN [15,17] mixed ?_
 refine .tO 0 rfl .move<|.tO 1 rfl .move<|.tK 2 rfl .move<|.tK 3 rfl .move ?_
 refine .take 4 rfl (.i64 ((q-1:Nat):Int) .sub ⟨by omega,by omega,by omega⟩) (by kernel_rfl) ?_
 refine .tO 5 rfl .move<|.tO 6 rfl .move ?_
 refine .cA 7 rfl (.i64 ((q-1:Nat):Int) .sub ⟨by omega,by omega,by omega⟩) (by kernel_rfl) ?_
 refine RA.ar 8 rfl (q-1) g l rfl rfl rfl (by kernel_rfl) (λe9=>?_)
 refine .tO 9 rfl (.aD rfl)<|.tO 10 rfl .move<|.tO 11 rfl .move ?_
 refine RA.ar 12 rfl (q) g k rfl rfl rfl (by kernel_rfl) (λf0=>?_)
 refine .tO 13 rfl (.aD rfl) ?_
 refine RA.ar 14 rfl (q) g k rfl rfl rfl (by kernel_rfl) (λf1=>?_)
 refine .sT 15 rfl ?_
 refine .bh (q) g k t (λb1 a0=>?_) (g.one _ (aG l))
 refine .nil (Next.mod rfl ?_)
 refine RA.ar 16 rfl (q-1) g l rfl rfl rfl (by kernel_rfl) (λd4=>?_)
 refine .sT 17 rfl ?_
 obtain⟨zz,a1⟩:∃u,(A.set (q) t)[q-1]? =some u:=⟨_,aE (by rw[acK];exact(acJ.1 l).1)⟩
 refine .bh (q-1) a0 a1 s (λL G=>?_) (g.one _ (aG k))
 rw[<-bP k l]at G
 refine .nil (Next.mod rfl ?_)
 refine RA.nil (by kernel_rfl) ?_
 refine bg<|aI<|.region<|.mo rfl ?_
 refine .ia (q-1) .sub ?_
 refine .ag rfl<|.nil ?_
 ·exact aS (q-1,bi A q (q-1),L) ⟨⟨by simp only;omega,by simp only;omega⟩,G,r.step (by omega) (by omega) (by omega) (by omega) (by omega),a2.step so (by omega) (by omega) c1 k l a6⟩ (by simp only;omega) kE.c.c.c.c.c.c.c rH
 have a4:SR (ap c) A a d:=a2.done so (by omega) (by omega) (.inl (by have:=bc h6;omega))
 refine .exit<|aT<|aW<|aU ?_
 ·first
   |exact ax (A,K) ⟨g,r,a4⟩ kE.c.c.c.c.c.c rH
   |exact ax (bi ys d (d-1),L) ⟨G,a3,λp q S U M=>by have:=bc h5;omega⟩ kE.c.c.c.c.c.c rH
 refine .skip ?_
 ·first
   |exact ax (A,K) ⟨g,r,a4⟩ kE.c.c.c.c.c.c rH
   |exact ax (bi ys d (d-1),L) ⟨G,a3,λp q S U M=>by have:=bc h5;omega⟩ kE.c.c.c.c.c.c rH
 intro y D
 obtain⟨A,K⟩:=y
 obtain⟨g,r,Y⟩:=D
 simp only at g r Y⊢
 refine aI ?_
 refine bk.cut (X:=List CP×ay) (λz=>OS 24 4 bD v z.1 z.2/\RP a b xs z.1/\SR (ap c) z.1 a d) (λ_=>[(0,v),(1,iN a),(2,iN b),(3,.func (.func f) #[] caps.toArray),(9,iN d),(10,iN n)]) (λz=>[z.2]) ?_ ?_
 refine .sr<|.mo rfl<|.mo rfl ?_
 refine .ia (b-d) .sub ?_
 refine .q .geq<|.zn ?_
 refine .cond rfl (λh8=>?_) λh8=>?_
 refine .sr<|.mo rfl ?_
 refine .ia (d+1) .add ?_
 refine .az rfl<|.block ?_
 refine .loop (X:=Nat×List CP×ay) (λz=>(d+1<=z.1/\z.1<=b)/\OS 24 4 bD v z.2.1 z.2.2/\RP a b xs z.2.1/\SR (ap c) z.2.1 a d) (λz=>[(0,v),(1,iN a),(2,iN b),(3,.func (.func f) #[] caps.toArray),(9,iN d),(10,iN n),(12,iN z.1)]) (λz=>[z.2.2]) (λz=>b-z.1) (d+1,A,K) ⟨⟨acG _,by simp only;omega⟩,g,r,Y⟩ kE.c.c.c.c.c.c.c rH ?_
 rintro⟨q,Q,T4⟩ ⟨⟨a7,a8⟩,C,O,Z⟩
 simp only at a7 a8 C O Z⊢
 have d0:=O.length
 refine .seq<|.sr<|.mo rfl<|.mo rfl<|.q .lss<|.zn ?_
 refine .cond rfl (λh9=>?_) λh9=>?_
 have d3:q<b:=cO h9
 obtain⟨s,k⟩:∃x,Q[q]? =some x:=⟨_,aE (by omega)⟩
 obtain⟨t,l⟩:∃x,Q[q-1]? =some x:=⟨_,aE (by omega)⟩
 have a9:=W s (O.perm.mem_iff.1 (aG k))
 have b0:=W t (O.perm.mem_iff.1 (aG l))
 refine .kn<|.seq<|.block<|.seq<|.seq ?_
 refine .bO 10 mixed (by kernel_rfl) ?_
 conv=>arg 6;dsimp only[List.take]
 refine .mo rfl<|.mo rfl<|.mo rfl ?_
 refine .ar q C k (λd5=>?_)
 refine .q (.aD rfl)<|.mo rfl<|.mo rfl ?_
 refine .ia (q-1) .sub ?_
 refine .ar (q-1) C l (λd6=>?_)
 refine .q (.aD rfl)<|.nil ?_
 refine .bV (first:=[]) (captured:=caps) (vs:=[(λp:CP=>Value.agg (bD p).toArray) s,(λp:CP=>Value.agg (bD p).toArray) t]) (hf s t a9 b0 _ (λb o V=>.inl V)) (λu H=>?_)
 subst H
 refine .q .lss<|.q .not<|.zn ?_
 refine .cond rfl (λb7=>?_) λb7=>?_
 refine .exit (aT (du (aT (aW (aU ?_)))))
 ·first
   |exact ax (Q,T4) ⟨C,O,Z⟩ kE.c.c.c.c.c.c rH
   |exact ax (A,K) ⟨g,r,Y⟩ kE.c.c.c.c.c.c rH
 refine .kn<|.bN [15,17] mixed ?_
 refine .tO 0 rfl .move<|.tO 1 rfl .move<|.tK 2 rfl .move<|.tK 3 rfl .move ?_
 refine .take 4 rfl (.i64 ((q-1:Nat):Int) .sub ⟨by omega,by omega,by omega⟩) (by kernel_rfl) ?_
 refine .tO 5 rfl .move<|.tO 6 rfl .move ?_
 refine .cA 7 rfl (.i64 ((q-1:Nat):Int) .sub ⟨by omega,by omega,by omega⟩) (by kernel_rfl) ?_
 refine RA.ar 8 rfl (q-1) C l rfl rfl rfl (by kernel_rfl) (λd7=>?_)
 refine .tO 9 rfl (.aD rfl)<|.tO 10 rfl .move<|.tO 11 rfl .move ?_
 refine RA.ar 12 rfl (q) C k rfl rfl rfl (by kernel_rfl) (λd8=>?_)
 refine .tO 13 rfl (.aD rfl) ?_
 refine RA.ar 14 rfl (q) C k rfl rfl rfl (by kernel_rfl) (λd9=>?_)
 refine .sT 15 rfl ?_
 refine .bh (q) C k t (λb1 a0=>?_) (C.one _ (aG l))
 refine .nil (Next.mod rfl ?_)
 refine RA.ar 16 rfl (q-1) C l rfl rfl rfl (by kernel_rfl) (λe0=>?_)
 refine .sT 17 rfl ?_
 obtain⟨zz,a1⟩:∃u,(Q.set (q) t)[q-1]? =some u:=⟨_,aE (by rw[acK];exact(acJ.1 l).1)⟩
 refine .bh (q-1) a0 a1 s (λL G=>?_) (C.one _ (aG k))
 rw[<-bP k l]at G
 refine .nil (Next.mod rfl ?_)
 refine RA.nil (by kernel_rfl) ?_
 refine bg<|aI<|.region<|.mo rfl ?_
 refine .ia (q+1) .add ?_
 refine .ag rfl<|.nil ?_
 ·exact aS (q+1,bi Q q (q-1),L) ⟨⟨by simp only;omega,by simp only;omega⟩,G,O.step (by omega) (by omega) (by omega) (by omega) (by omega),Z.kK (by omega) (by omega) (by omega) (by omega)⟩ (by simp only;omega) kE.c.c.c.c.c.c.c rH
 refine .exit<|aT<|aW<|aU ?_
 ·first
   |exact ax (Q,T4) ⟨C,O,Z⟩ kE.c.c.c.c.c.c rH
   |exact ax (A,K) ⟨g,r,Y⟩ kE.c.c.c.c.c.c rH
 refine .skip ?_
 ·first
   |exact ax (Q,T4) ⟨C,O,Z⟩ kE.c.c.c.c.c.c rH
   |exact ax (A,K) ⟨g,r,Y⟩ kE.c.c.c.c.c.c rH
 intro y D
 obtain⟨us,T5⟩:=y
 obtain⟨b2,b3,b4⟩:=D
 simp only at b2 b3 b4⊢
 refine bg<|aI<|.region<|.mo rfl ?_
 refine .ia (n+1) .add ?_
 refine .ag rfl<|.nil ?_
 ·exact aS (n+1,d,us,T5) ⟨⟨by simp only;omega,I,J⟩,b2,b3,b4⟩ (by simp only;omega) kE.c.c.c.c.c.c rH
 refine .exit<|aT<|aW<|aU<|aI<|.sr<|.az rfl ?_
 refine .ret (bb _ (.one (.tmp rfl)) rH ?_)
 ·exact⟨_,rfl,ys,false,rfl,B,N,λh=>by cases h⟩
end
end SCL
namespace SCL
section
variable{c:CP->CP->Int}{ok:CP->Prop}{f:FuncId}{caps:List Value} [e:aL prog f]
theorem eE(v:Value)(xs:List CP)(a b lo d g:Nat)(s:Int)(R:aC)(h:RS R 4 bD v xs)(i:lo<=a/\a<d)(e:lo<=b/\b<d)(A:d<=xs.length)(n:bR prog f caps R (λp:CP=>Value.agg (bD p).toArray) c ok)(j:∀x∈xs,ok x):
  Spec prog 447 [v,.int .i64 a,.int .i64 b,pT g,.func (.func f) #[] caps.toArray] R [bl g [.int .i64 s] 3] λu H'=>∃T',H'=[T']/\∃(s':Int) (p q:Nat),u=.tuple [.int .i64 p,.int .i64 q].toArray/\T'=(bl g [.int .i64 s'] 3)/\(lo<=p/\p<d)/\(lo<=q/\q<d):=by
 have B:=h.aF
 obtain⟨x,k⟩:∃x,xs[b]? =some x:=⟨_,aE (by omega)⟩
 obtain⟨y,l⟩:∃x,xs[a]? =some x:=⟨_,aE (by omega)⟩
 have t:=j x (aG k)
 have w:=j y (aG l)
 refine Spec.body func447 rfl results447 ntmps447 rfl ?_
 refine .sr<|.ag rfl<|.ag rfl<|.zs<|.seq ?_
 refine .bO 9 mixed (by kernel_rfl) ?_
 conv=>arg 6;dsimp only[List.take]
 refine .mo rfl<|.mo rfl<|.mo rfl ?_
 refine .dm b h k (λC=>?_)
 refine .q (.aD rfl)<|.mo rfl<|.mo rfl ?_
 refine .dm a h l (λD=>?_)
 refine .q (.aD rfl)<|.nil ?_
 refine .bV (first:=[]) (captured:=caps) (vs:=[(λp:CP=>Value.agg (bD p).toArray) x,(λp:CP=>Value.agg (bD p).toArray) y]) (n x y t w _ (λb o e=>.inl e)) (λu r=>?_)
 subst r
 refine .q .lss<|.zn ?_
 refine .cond rfl (λm=>?_) λm=>?_
 refine .sr<|.mo rfl<|.nc rfl<|.lo rfl<|.q .add ?_
 refine .nc rfl<|.cC rfl rfl<|.z<|.mo rfl<|.mo rfl<|.ag rfl<|.az rfl ?_
 refine .ret (bq (bb _ (.two (.tmp rfl) (.tmp rfl)) rH ?_))
 ·exact⟨_,rfl,_,b,a,rfl,rfl,e,i⟩
 refine .kn<|.sr<|.mo rfl<|.mo rfl<|.ag rfl<|.az rfl ?_
 refine .ret (bb _ (.two (.tmp rfl) (.tmp rfl)) rH ?_)
 ·exact⟨_,rfl,_,a,b,rfl,rfl,i,e⟩
theorem fw(v:Value)(xs:List CP)(a b d lo e g:Nat)(s:Int)(R:aC)(h:RS R 4 bD v xs)(m:lo<=a/\a<e)(n:lo<=b/\b<e)(o:lo<=d/\d<e)(k:e<=xs.length)(j:bR prog f caps R (λp:CP=>Value.agg (bD p).toArray) c ok)(l:∀x∈xs,ok x):
  Spec prog 411 [v,.int .i64 a,.int .i64 b,.int .i64 d,pT g,.func (.func f) #[] caps.toArray] R [bl g [.int .i64 s] 3] λu H'=>∃T',H'=[T']/\∃(s':Int) (p:Nat),u=.int .i64 p/\T'=(bl g [.int .i64 s'] 3)/\(lo<=p/\p<e):=by
 have M:=h.aF
 refine Spec.body func411 rfl results411 ntmps411 rfl ?_
 refine .sr<|.ag rfl<|.z<|.mo rfl<|.mo rfl<|.mo rfl<|.mo rfl<|.mo rfl ?_
 refine .aQ (eE v xs a b lo e g s _ h m n k j l) (λu H i=>?_)
 obtain⟨E,A,C,rfl,rfl,r,w⟩:=i
 refine .mo rfl<|.q .extract<|.q .extract<|.ag rfl<|.ag rfl<|.z<|.mo rfl<|.mo rfl<|.mo rfl<|.mo rfl<|.mo rfl ?_
 refine .aQ (eE v xs C d lo e g E _ h w o k j l) (λu I i=>?_)
 obtain⟨F,B,O,rfl,rfl,t,L⟩:=i
 refine .mo rfl<|.q .extract<|.q .extract<|.ag rfl<|.ag rfl<|.z<|.mo rfl<|.mo rfl<|.mo rfl<|.mo rfl<|.mo rfl ?_
 refine .aQ (eE v xs A B lo e g F _ h r t k j l) (λu J i=>?_)
 obtain⟨G,N,D,rfl,rfl,K,y⟩:=i
 refine .mo rfl<|.q .extract<|.q .extract<|.ag rfl<|.ag rfl<|.z<|.mo rfl<|.az rfl ?_
 refine .ret (bb _ (.one (.tmp rfl)) rH ?_)
 ·exact⟨_,rfl,G,D,rfl,rfl,y⟩
theorem eC(v:Value)(xs:List CP)(a lo d b:Nat)(s:Int)(R:aC)(h:RS R 4 bD v xs)(o:lo+1<=a/\a+1<d)(g:d<=xs.length)(q:xs.length<=1000000000)(e:bR prog f caps R (λp:CP=>Value.agg (bD p).toArray) c ok)(i:∀x∈xs,ok x):
  Spec prog 410 [v,.int .i64 a,pT b,.func (.func f) #[] caps.toArray] R [bl b [.int .i64 s] 3] λu H'=>∃T',H'=[T']/\∃(s':Int) (p:Nat),u=.int .i64 p/\T'=(bl b [.int .i64 s'] 3)/\(lo<=p/\p<d):=by
 have r:=h.aF
 refine Spec.body func410 rfl results410 ntmps410 rfl ?_
 refine .sr<|.ag rfl<|.z<|.mo rfl<|.mo rfl ?_
 refine .ia (a-1) .sub ?_
 refine .mo rfl<|.mo rfl ?_
 refine .ia (a+1) .add ?_
 refine .mo rfl<|.mo rfl ?_
 refine .aQ (fw v xs (a-1) a (a+1) lo d b s _ h (by omega) (by omega) (by omega) g e i) (λu n k=>?_)
 obtain⟨m,l,rfl,rfl,j⟩:=k
 refine .az rfl ?_
 refine .ret (bb _ (.one (.tmp rfl)) rH ?_)
 ·exact⟨_,rfl,m,l,rfl,rfl,j⟩
theorem choose_spec(v:Value)(xs:List CP)(a b:Nat)(R:aC)(h:RS R 4 bD v xs)(Y:a<b)(l:b<=xs.length)(w:xs.length<=1000000000)(m:bR prog f caps R (λp:CP=>Value.agg (bD p).toArray) c ok)(o:∀x∈xs,ok x):
  Spec prog 321 [v,.int .i64 a,.int .i64 b,.func (.func f) #[] caps.toArray] R [] λu H'=>(∃(p:Nat) (t:Int),u=.tuple [.int .i64 p,.int .i64 t].toArray/\a<=p/\p<b)/\H'=[]:=by
 have iv:=h.aF
 obtain⟨n,U⟩:∃n,b=a+n:=⟨b-a,by omega⟩
 subst U
 obtain⟨q,A⟩:∃q,q=n/4:=⟨_,rfl⟩
 refine Spec.body func321 rfl results321 ntmps321 rfl ?_
 refine .sr<|.ag rfl<|.ag rfl<|.z<|.mo rfl<|.mo rfl ?_
 refine .ia (n) .sub ?_
 refine .ag rfl<|.z ?_
 refine .gz (λe=>?_)
 refine .z<|.mo rfl<|.mo rfl ?_
 refine .q (.i64 ((q:Nat):Int) .quo ⟨by rw[A,acL (by omega)];omega,by omega,by omega⟩) ?_
 refine .ia (q) .mul ?_
 refine .ia (a+q) .add ?_
 refine .ag rfl<|.z<|.mo rfl<|.mo rfl ?_
 refine .q (.i64 ((q:Nat):Int) .quo ⟨by rw[A,acL (by omega)];omega,by omega,by omega⟩) ?_
 refine .ia (q*2) .mul ?_
 refine .ia (a+q*2) .add ?_
 refine .ag rfl<|.z<|.mo rfl<|.mo rfl ?_
 refine .q (.i64 ((q:Nat):Int) .quo ⟨by rw[A,acL (by omega)];omega,by omega,by omega⟩) ?_
 refine .ia (q*3) .mul ?_
 refine .ia (a+q*3) .add ?_
 refine .ag rfl<|.zs ?_
 refine bk.cut (X:=Nat×Int) (λz=>a<=z.1/\z.1<a+n) (λz=>[(11,pT e),(13,iN z.1)]) (λz=>[bl e [.int .i64 z.2] 3]) ?_ ?_
 refine .sr<|.mo rfl<|.q .geq<|.zn ?_
 refine .cond rfl (λB=>?_) λB=>?_
 have a0:8<=n:=by have:=bp B;omega
 refine .seq ?_
 refine bk.cut (X:=Nat×Nat×Nat×Int) (λz=>(a<=z.1/\z.1<a+n)/\(a<=z.2.1/\z.2.1<a+n)/\(a<=z.2.2.1/\z.2.2.1<a+n)) (λz=>[(0,v),(3,.func (.func f) #[] caps.toArray),(11,pT e),(12,iN z.1),(13,iN z.2.1),(14,iN z.2.2.1)]) (λz=>[bl e [.int .i64 z.2.2.2] 3]) ?_ ?_
 refine .sr<|.mo rfl<|.q .geq<|.zn ?_
 refine .cond rfl (λC=>?_) λC=>?_
 have Z:50<=n:=by have:=bp C;omega
 refine .sr<|.mo rfl<|.mo rfl<|.mo rfl ?_
 refine .aQ (eC v xs (a+q) a (a+n) e 0 _ h (by omega) l w m o) (λu r g=>?_)
 obtain⟨V,K,rfl,rfl,G⟩:=g
 refine .ag rfl<|.z<|.mo rfl<|.mo rfl<|.mo rfl ?_
 refine .aQ (eC v xs (a+q*2) a (a+n) e V _ h (by omega) l w m o) (λu r g=>?_)
 obtain⟨W,L,rfl,rfl,H⟩:=g
 refine .az rfl<|.region<|.mo rfl<|.mo rfl<|.mo rfl ?_
 refine .aQ (eC v xs (a+q*3) a (a+n) e W _ h (by omega) l w m o) (λu r g=>?_)
 obtain⟨O,M,rfl,rfl,I⟩:=g
 refine .ag rfl<|.nil ?_
 ·first
   |exact ax (K,L,M,O) ⟨G,H,I⟩ kE.c.c.c.c.c.c rH
   |exact ax (a+q,a+q*2,a+q*3,0) ⟨by simp only;omega,by simp only;omega,by simp only;omega⟩ kE.c.c.c.c.c.c rH
 refine .skip ?_
 ·first
   |exact ax (K,L,M,O) ⟨G,H,I⟩ kE.c.c.c.c.c.c rH
   |exact ax (a+q,a+q*2,a+q*3,0) ⟨by simp only;omega,by simp only;omega,by simp only;omega⟩ kE.c.c.c.c.c.c rH
 intro y d
 obtain⟨i,j,k,s⟩:=y
 obtain⟨D,E,F⟩:=d
 simp only at D E F⊢
 refine aI<|.region<|.mo rfl<|.mo rfl<|.mo rfl<|.mo rfl<|.mo rfl ?_
 refine .aQ (fw v xs i j k a (a+n) e s _ h D E F l m o) (λu r g=>?_)
 obtain⟨Q,N,rfl,rfl,J⟩:=g
 refine .ag rfl<|.nil ?_
 ·first
   |exact ax (N,Q) J kE.c.c rH
   |exact ax (a+q*2,0) (by simp only;omega) kE.c.c rH
 refine .skip ?_
 ·first
   |exact ax (N,Q) J kE.c.c rH
   |exact ax (a+q*2,0) (by simp only;omega) kE.c.c rH
 intro y d
 obtain⟨p,s⟩:=y
 simp only at d⊢
 refine aI<|.sr<|.lo rfl<|.zn<|.block<|.sr<|.q .cL<|.az rfl ?_
 refine .cond rfl (λS=>?_) λS=>?_
 refine .sr<|.mo rfl<|.ag rfl<|.az rfl ?_
 refine .ret (bu (bb _ (.two (.tmp rfl) (.tmp rfl)) (.none _) ?_))
 ·exact⟨⟨p,_,rfl,d.1,d.2⟩,rfl⟩
 refine .sr<|.q .cL<|.az rfl ?_
 refine .cond rfl (λT=>?_) λT=>?_
 refine .sr<|.mo rfl<|.ag rfl<|.az rfl ?_
 refine .ret (bu (bb _ (.two (.tmp rfl) (.tmp rfl)) (.none _) ?_))
 ·exact⟨⟨p,_,rfl,d.1,d.2⟩,rfl⟩
 refine .sr<|.mo rfl<|.ag rfl<|.az rfl ?_
 refine .ret (bu (bb _ (.two (.tmp rfl) (.tmp rfl)) (.none _) ?_))
 ·exact⟨⟨p,_,rfl,d.1,d.2⟩,rfl⟩
end
end SCL
namespace SCL
section
variable{c:CP->CP->Int}{ok:CP->Prop}{f:FuncId}{caps:List Value} [e:aL prog f]
theorem hS(v:Value)(xs:List CP)(T:ay)(a b m:Nat)(p:CP)(R:aC)(h:OS 24 4 bD v xs T)(b1:a<b)(hm:a<=m/\m<b)(C:xs[m]? =some p)(U:b<=xs.length)(hl:xs.length<=1000000000)(hf:bR prog f caps R (λp:CP=>Value.agg (bD p).toArray) c ok)(a0:∀x∈xs,ok x)(so:SO (ap c))
  (b7:∀(k:Nat) (x:CP),a<=k->k<b->xs[k]? =some x->ap c x p=false):
  Spec prog 324 [v,.int .i64 a,.int .i64 b,.int .i64 m,.func (.func f) #[] caps.toArray] R [T] λu H'=>∃T',H'=[T']/\∃ys mid,u=iN mid/\OS 24 4 bD v ys T'/\RP a b xs ys/\iM (ap c) ys a mid b p:=by
 have iv:=h.aF
 obtain⟨x0,E⟩:∃x,xs[a]? =some x:=⟨_,aE (by omega)⟩
 have a8:=a0 p (aG C)
 refine Spec.body func324 rfl results324 ntmps324 rfl ?_
 refine .sr<|.ag rfl<|.zs<|.bN [13,15] mixed ?_
 refine .tO 0 rfl .move<|.tO 1 rfl .move<|.tK 2 rfl .move<|.tK 3 rfl .move<|.tO 4 rfl .move<|.tO 5 rfl .move ?_
 refine RA.ar 6 rfl (m) h C rfl rfl rfl (by kernel_rfl) (λd1=>?_)
 refine .tO 7 rfl (.aD rfl)<|.tO 8 rfl .move<|.tO 9 rfl .move ?_
 refine RA.ar 10 rfl (a) h E rfl rfl rfl (by kernel_rfl) (λd2=>?_)
 refine .tO 11 rfl (.aD rfl) ?_
 refine RA.ar 12 rfl (a) h E rfl rfl rfl (by kernel_rfl) (λd3=>?_)
 refine .sT 13 rfl ?_
 refine .bh (a) h E p (λa9 a1=>?_) (h.one _ (aG C))
 refine .nil (Next.mod rfl ?_)
 refine RA.ar 14 rfl (m) h C rfl rfl rfl (by kernel_rfl) (λd4=>?_)
 refine .sT 15 rfl ?_
 obtain⟨zz,a2⟩:∃u,(xs.set (a) p)[m]? =some u:=⟨_,aE (by rw[acK];exact(acJ.1 C).1)⟩
 refine .bh (m) a1 a2 x0 (λY K=>?_) (h.one _ (aG E))
 rw[<-bP E C]at K
 refine .nil (Next.mod rfl ?_)
 refine RA.nil (by kernel_rfl) ?_
 have b0:RP a b xs (bi xs a m):=(RP.refl xs).step (by omega) (by omega) (by omega) (by omega) (by omega)
 have b2:(bi xs a m)[a]? =some p:=by
  rw[cR (by omega) (by omega)]
  by_cases hk:a=m
  ·rw[acI hk,E, <-C, <-hk,E]
  ·rw[acH hk,acI rfl,C]
 refine aI<|.sr<|.mo rfl ?_
 refine .ia (a+1) .add ?_
 refine .mo rfl ?_
 refine .ia (b-1) .sub ?_
 refine .ag rfl<|.ag rfl<|.zs<|.block ?_
 refine .loop (X:=Nat×Nat×List CP×ay) (λy=>OS 24 4 bD v y.2.2.1 y.2.2.2/\RP a b xs y.2.2.1/\PQ (λx=> !ap c p x) y.2.2.1 a y.1 y.2.1 b p) (λy=>[(0,v),(1,iN a),(4,.func (.func f) #[] caps.toArray),(11,iN y.1),(12,iN y.2.1)]) (λy=>[y.2.2.2]) (λy=>y.2.1+1-y.1) (a+1,b-1,bi xs a m,Y) ⟨K,b0,.start b1 b2⟩ kE.c.c.c.c.c rH ?_
 rintro⟨i,j,ys,N⟩ ⟨r,D,G⟩
 simp only at r D G⊢
 have d0:=D.length
 have c4:=G.i0
 have c6:=G.ij
 have c8:=G.jb
 have a7:=G.at_
 refine .block<|.seq ?_
 refine bk.cut (X:=Nat) (λs=>i<=s/\PQ (λx=> !ap c p x) ys a s j b p/\∀x,s<=j->ys[s]? =some x->(!ap c p x)=false) (λs=>[(0,v),(1,iN a),(4,.func (.func f) #[] caps.toArray),(11,.int .i64 (s:Nat)),(12,iN j)]) (λ_=>[N]) ?_ ?_
 refine .block ?_
 refine .loop (X:=Nat) (λs=>i<=s/\PQ (λx=> !ap c p x) ys a s j b p) (λs=>[(0,v),(1,iN a),(4,.func (.func f) #[] caps.toArray),(11,.int .i64 (s:Nat)),(12,iN j)]) (λ_=>[N]) (λs=>j+1-s) i ⟨acG _,G⟩ kE.c.c.c.c.c rH ?_
 rintro A ⟨V,I⟩
 refine .seq<|.seq ?_
 refine .bO 13 mixed (by kernel_rfl) ?_
 conv=>arg 6;dsimp only[List.take]
 refine .mo rfl<|.mo rfl<|.q .leq<|.mo rfl ?_
 refine .split (t:=34) rfl (λd=>?_) (λd=>?_)
 have b5:A<=j:=by have:=bp d;omega
 obtain⟨x2,L⟩:∃x,ys[A]? =some x:=⟨_,aE (by omega)⟩
 have c2:=a0 x2 (D.perm.mem_iff.1 (aG L))
 refine .gT d<|.mo rfl<|.gT d<|.mo rfl<|.gT d<|.mo rfl<|.gT d ?_
 refine .ar a r a7 (λd5=>?_)
 refine .gT d<|.q (.aD rfl)<|.gT d<|.mo rfl<|.gT d<|.mo rfl<|.gT d ?_
 refine .ar A r L (λd6=>?_)
 refine .gT d<|.q (.aD rfl)<|.nil<|.gT d ?_
 refine .bV (first:=[]) (captured:=caps) (vs:=[(λp:CP=>Value.agg (bD p).toArray) p,(λp:CP=>Value.agg (bD p).toArray) x2]) (hf p x2 a8 c2 _ (λb o U=>.inl U)) (λu hu=>?_)
 subst hu
 refine .gT d<|.q .lss<|.gT d<|.q .not<|.q (.bX d) ?_
 refine .zn ?_
 refine .cond rfl (λO=>?_) λO=>?_
 refine .kn<|.block<|.region<|.mo rfl ?_
 refine .ia (A+1) .add ?_
 refine .ag rfl<|.nil<|bg ?_
 ·exact aS (A+1) ⟨by omega,I.inc b5 L O⟩ (by omega) kE.c.c.c.c.c rH
 refine .exit<|aT<|aW<|aU ?_
 first
  |exact ax A ⟨V,I,λx g n=>by rw[L]at n;cases n;exact O⟩ kE.c.c.c.c.c rH
  |exact ax A ⟨V,I,λx g n=>by have:=bc d;omega⟩ kE.c.c.c.c.c rH
 refine .gF d<|.gF d<|.gF d<|.gF d<|.gF d<|.gF d<|.gF d<|.gF d<|.gF d<|.nil<|.gF d<|.gF d<|.gF d<|.q (.bU d) ?_
 refine .zn<|.bB<|.exit<|aT<|aW<|aU ?_
 first
  |exact ax A ⟨V,I,λx g n=>by rw[L]at n;cases n;exact O⟩ kE.c.c.c.c.c rH
  |exact ax A ⟨V,I,λx g n=>by have:=bc d;omega⟩ kE.c.c.c.c.c rH
 intro x g
 obtain⟨l,a4⟩:∃l,l=x:=⟨_,rfl⟩
 rw[<-a4]at g⊢
 clear a4 x
 obtain⟨c5,a3,c0⟩:=g
 refine aI<|.seq ?_
 refine bk.cut (X:=Nat) (λw=>w<=j/\PQ (λx=> !ap c p x) ys a l w b p/\∀x,l<=w->ys[w]? =some x->(!ap c p x)=true) (λw=>[(0,v),(1,iN a),(4,.func (.func f) #[] caps.toArray),(11,iN l),(12,.int .i64 (w:Nat))]) (λ_=>[N]) ?_ ?_
 refine .block ?_
 refine .loop (X:=Nat) (λw=>w<=j/\PQ (λx=> !ap c p x) ys a l w b p) (λw=>[(0,v),(1,iN a),(4,.func (.func f) #[] caps.toArray),(11,iN l),(12,.int .i64 (w:Nat))]) (λ_=>[N]) (λw=>w) j ⟨acG _,a3⟩ kE.c.c.c.c.c rH ?_
 rintro B ⟨W,J⟩
 have b4:=a3.i0
 refine .seq<|.seq ?_
 refine .bO 13 mixed (by kernel_rfl) ?_
 conv=>arg 6;dsimp only[List.take]
 refine .mo rfl<|.mo rfl<|.q .leq<|.mo rfl ?_
 refine .split (t:=53) rfl (λe=>?_) (λe=>?_)
 have b6:l<=B:=by have:=bp e;omega
 obtain⟨H,M⟩:∃x,ys[B]? =some x:=⟨_,aE (by omega)⟩
 have c3:=a0 H (D.perm.mem_iff.1 (aG M))
 refine .gT e<|.mo rfl<|.gT e<|.mo rfl<|.gT e<|.mo rfl<|.gT e ?_
 refine .ar a r a7 (λd7=>?_)
 refine .gT e<|.q (.aD rfl)<|.gT e<|.mo rfl<|.gT e<|.mo rfl<|.gT e ?_
 refine .ar B r M (λd8=>?_)
 refine .gT e<|.q (.aD rfl)<|.nil<|.gT e ?_
 refine .bV (first:=[]) (captured:=caps) (vs:=[(λp:CP=>Value.agg (bD p).toArray) p,(λp:CP=>Value.agg (bD p).toArray) H]) (hf p H a8 c3 _ (λb o U=>.inl U)) (λu hu=>?_)
 subst hu
 refine .gT e<|.q .lss<|.q (.bX e) ?_
 refine .zn ?_
 refine .cond rfl (λQ=>?_) λQ=>?_
 refine .kn<|.block<|.region<|.mo rfl ?_
 refine .ia (B-1) .sub ?_
 refine .ag rfl<|.nil<|bg ?_
 ·have b8:ap c p H=true:=Q
  exact aS (B-1) ⟨by omega,J.dec b6 M (by rw[b8];rfl)⟩ (by omega) kE.c.c.c.c.c rH
 refine .exit<|aT<|aW<|aU ?_
 first
  |exact ax B ⟨W,J,λx g n=>by have hh:ap c p H=false:=Q;rw[M]at n;cases n;rw[hh];rfl⟩ kE.c.c.c.c.c rH
  |exact ax B ⟨W,J,λx g n=>by have:=bc e;omega⟩ kE.c.c.c.c.c rH
 refine .gF e<|.gF e<|.gF e<|.gF e<|.gF e<|.gF e<|.gF e<|.gF e<|.gF e<|.nil<|.gF e<|.gF e<|.q (.bU e) ?_
 refine .zn<|.bB<|.exit<|aT<|aW<|aU ?_
 first
  |exact ax B ⟨W,J,λx g n=>by have hh:ap c p H=false:=Q;rw[M]at n;cases n;rw[hh];rfl⟩ kE.c.c.c.c.c rH
  |exact ax B ⟨W,J,λx g n=>by have:=bc e;omega⟩ kE.c.c.c.c.c rH
 intro x g
 obtain⟨z,a5⟩:∃z,z=x:=⟨_,rfl⟩
 rw[<-a5]at g⊢
 clear a5 x
 obtain⟨c9,S,c1⟩:=g
 have b4:=S.i0
 have c7:=S.ij
 refine aI<|.seq<|.sr<|.mo rfl<|.mo rfl<|.q .gtr<|.zn ?_
 refine .cond rfl (λZ=>?_) λZ=>?_
 refine .exit (aT (du (aW (aU ?_))))
 refine aI<|.sr<|.mo rfl<|.az rfl ?_
 refine .ret (bb _ (.one (.tmp rfl)) rH ?_)
 ·have b3:z<l:=cO Z
  exact⟨_,rfl,ys,l,rfl,r,D,S.kd so b3 (D.all (p:=λx=>ap c x p=false) b7)⟩
 have a6:l<=z:=by have:=bc Z;omega
 obtain⟨x,g⟩:∃x,ys[l]? =some x:=⟨_,aE (by omega)⟩
 obtain⟨y,F⟩:∃x,ys[z]? =some x:=⟨_,aE (by omega)⟩
 have b9:=S.sw a6 (by omega) g F (c0 x (by omega) g) (c1 y a6 F)
 refine .kn<|.seq<|.bN [13,15] mixed ?_
 refine .tO 0 rfl .move<|.tO 1 rfl .move<|.tK 2 rfl .move<|.tK 3 rfl .move<|.tO 4 rfl .move<|.tO 5 rfl .move ?_
 refine RA.ar 6 rfl (z) r F rfl rfl rfl (by kernel_rfl) (λd9=>?_)
 refine .tO 7 rfl (.aD rfl)<|.tO 8 rfl .move<|.tO 9 rfl .move ?_
 refine RA.ar 10 rfl (l) r g rfl rfl rfl (by kernel_rfl) (λe0=>?_)
 refine .tO 11 rfl (.aD rfl) ?_
 refine RA.ar 12 rfl (l) r g rfl rfl rfl (by kernel_rfl) (λe1=>?_)
 refine .sT 13 rfl ?_
 refine .bh (l) r g y (λa9 a1=>?_) (r.one _ (aG F))
 refine .nil (Next.mod rfl ?_)
 refine RA.ar 14 rfl (z) r F rfl rfl rfl (by kernel_rfl) (λe2=>?_)
 refine .sT 15 rfl ?_
 obtain⟨zz,a2⟩:∃u,(ys.set (l) y)[z]? =some u:=⟨_,aE (by rw[acK];exact(acJ.1 F).1)⟩
 refine .bh (z) a1 a2 x (λY K=>?_) (r.one _ (aG g))
 rw[<-bP g F]at K
 refine .nil (Next.mod rfl ?_)
 refine RA.nil (by kernel_rfl) ?_
 refine aI<|.sr<|.mo rfl ?_
 refine .ia (l+1) .add ?_
 refine .az rfl<|.region<|.mo rfl ?_
 refine .ia (z-1) .sub ?_
 refine .ag rfl<|.nil<|bg ?_
 ·exact aS (l+1,z-1,bi ys l z,Y) ⟨K,D.step (by omega) (by omega) (by omega) (by omega) (by omega),b9.2⟩ (by simp only;omega) kE.c.c.c.c.c rH
theorem fy(v:Value)(xs:List CP)(T:ay)(a b m:Nat)(p:CP)(R:aC)(h:OS 24 4 bD v xs T)(e0:a<b)(hm:a<=m/\m<b)(U:xs[m]? =some p)(S:b<=xs.length)(hl:xs.length<=1000000000)(hf:bR prog f caps R (λp:CP=>Value.agg (bD p).toArray) c ok)(b0:∀x∈xs,ok x)(so:SO (ap c)):
  Spec prog 325 [v,.int .i64 a,.int .i64 b,.int .i64 m,.func (.func f) #[] caps.toArray] R [T] λu H'=>∃T',H'=[T']/\∃ys mid z,u=.tuple [iN mid,.bool z].toArray/\OS 24 4 bD v ys T'/\RP a b xs ys/\Part (ap c) ys a mid b p:=by
 have iv:=h.aF
 obtain⟨x0,Z⟩:∃x,xs[a]? =some x:=⟨_,aE (by omega)⟩
 have c3:=b0 p (aG U)
 refine Spec.body func325 rfl results325 ntmps325 rfl ?_
 refine .sr<|.ag rfl<|.ag rfl<|.zs<|.bN [13,15] mixed ?_
 refine .tO 0 rfl .move<|.tO 1 rfl .move<|.tK 2 rfl .move<|.tK 3 rfl .move<|.tO 4 rfl .move<|.tO 5 rfl .move ?_
 refine RA.ar 6 rfl (m) h U rfl rfl rfl (by kernel_rfl) (λk0=>?_)
 refine .tO 7 rfl (.aD rfl)<|.tO 8 rfl .move<|.tO 9 rfl .move ?_
 refine RA.ar 10 rfl (a) h Z rfl rfl rfl (by kernel_rfl) (λk1=>?_)
 refine .tO 11 rfl (.aD rfl) ?_
 refine RA.ar 12 rfl (a) h Z rfl rfl rfl (by kernel_rfl) (λk4=>?_)
 refine .sT 13 rfl ?_
 refine .bh (a) h Z p (λb7 J=>?_) (h.one _ (aG U))
 refine .nil (Next.mod rfl ?_)
 refine RA.ar 14 rfl (m) h U rfl rfl rfl (by kernel_rfl) (λk5=>?_)
 refine .sT 15 rfl ?_
 obtain⟨zz,K⟩:∃u,(xs.set (a) p)[m]? =some u:=⟨_,aE (by rw[acK];exact(acJ.1 U).1)⟩
 refine .bh (m) J K x0 (λV E=>?_) (h.one _ (aG Z))
 rw[<-bP Z U]at E
 refine .nil (Next.mod rfl ?_)
 refine RA.nil (by kernel_rfl) ?_
 have a4:RP a b xs (bi xs a m):=(RP.refl xs).step (by omega) (by omega) (by omega) (by omega) (by omega)
 have I:(bi xs a m)[a]? =some p:=by
  rw[cR (by omega) (by omega)]
  by_cases hk:a=m
  ·rw[acI hk,Z, <-U, <-hk,Z]
  ·rw[acH hk,acI rfl,U]
 obtain⟨D,d5⟩:∃D,D=bi xs a m:=⟨_,rfl⟩
 rw[<-d5]at E a4 I
 obtain⟨T0,d9⟩:∃T0,T0=V:=⟨_,rfl⟩
 rw[<-d9]at E⊢
 have h8:=a4.length
 have A:=E
 clear E
 have d8:PQ (λx=>ap c x p) D a (a+1) (b-1) b p:=.start e0 I
 clear d5
 refine aI<|.sr<|.mo rfl ?_
 refine .ia (a+1) .add ?_
 refine .mo rfl ?_
 refine .ia (b-1) .sub ?_
 refine .ag rfl<|.ag rfl<|.zs ?_
 refine bk.cut (X:=Nat) (λs=>PQ (λx=>ap c x p) D a s (b-1) b p/\∀x,s<=b-1->D[s]? =some x->ap c x p=false) (λs=>[(0,v),(1,iN a),(4,.func (.func f) #[] caps.toArray),(12,.int .i64 (s:Nat)),(13,.int .i64 ((b-1:Nat):Int))]) (λ_=>[T0]) ?_ ?_
 refine .block ?_
 refine .loop (X:=Nat) (λs=>PQ (λx=>ap c x p) D a s (b-1) b p) (λs=>[(0,v),(1,iN a),(4,.func (.func f) #[] caps.toArray),(12,.int .i64 (s:Nat)),(13,.int .i64 ((b-1:Nat):Int))]) (λ_=>[T0]) (λs=>b-s) (a+1) d8 kE.c.c.c.c.c rH ?_
 rintro L a6
 refine .seq<|.seq ?_
 refine .bO 13 mixed (by kernel_rfl) ?_
 conv=>arg 6;dsimp only[List.take]
 refine .mo rfl<|.mo rfl<|.q .leq<|.mo rfl ?_
 refine .split (t:=35) rfl (λn=>?_) (λn=>?_)
 have e4:L<=b-1:=by have:=bp n;omega
 obtain⟨x2,b2⟩:∃x,D[L]? =some x:=⟨_,aE (by omega)⟩
 have f6:=b0 x2 (a4.perm.mem_iff.1 (aG b2))
 refine .gT n<|.mo rfl<|.gT n<|.mo rfl<|.gT n<|.mo rfl<|.gT n ?_
 refine .ar L A b2 (λk6=>?_)
 refine .gT n<|.q (.aD rfl)<|.gT n<|.mo rfl<|.gT n<|.mo rfl<|.gT n ?_
 refine .ar a A I (λk7=>?_)
 refine .gT n<|.q (.aD rfl)<|.nil<|.gT n ?_
 refine .bV (first:=[]) (captured:=caps) (vs:=[(λp:CP=>Value.agg (bD p).toArray) x2,(λp:CP=>Value.agg (bD p).toArray) p]) (hf x2 p f6 c3 _ (λb o S=>.inl S)) (λu Y=>?_)
 subst Y
 refine .gT n<|.q .lss<|.q (.bX n) ?_
 refine .zn ?_
 refine .cond rfl (λh1=>?_) λh1=>?_
 refine .kn<|.block<|.region<|.mo rfl ?_
 refine .ia (L+1) .add ?_
 refine .ag rfl<|.nil<|bg ?_
 ·exact aS (L+1) (a6.inc e4 b2 h1) (by omega) kE.c.c.c.c.c rH
 refine .exit<|aT<|aW<|aU ?_
 first
  |exact ax L ⟨a6,λx d e=>by rw[b2]at e;cases e;exact h1⟩ kE.c.c.c.c.c rH
  |exact ax L ⟨a6,λx d e=>by have:=bc n;omega⟩ kE.c.c.c.c.c rH
 refine .gF n<|.gF n<|.gF n<|.gF n<|.gF n<|.gF n<|.gF n<|.gF n<|.gF n<|.nil<|.gF n<|.gF n<|.q (.bU n) ?_
 refine .zn<|.bB<|.exit<|aT<|aW<|aU ?_
 first
  |exact ax L ⟨a6,λx d e=>by rw[b2]at e;cases e;exact h1⟩ kE.c.c.c.c.c rH
  |exact ax L ⟨a6,λx d e=>by have:=bc n;omega⟩ kE.c.c.c.c.c rH
 intro x d
 obtain⟨B,c7⟩:∃B,B=x:=⟨_,rfl⟩
 rw[<-c7]at d⊢
 clear c7 x
 obtain⟨c5,f2⟩:=d
 refine aI<|.seq ?_
 refine bk.cut (X:=Nat) (λr=>r<=b-1/\PQ (λx=>ap c x p) D a B r b p/\∀x,B<=r->D[r]? =some x->ap c x p=true) (λr=>[(0,v),(1,iN a),(4,.func (.func f) #[] caps.toArray),(12,iN B),(13,.int .i64 (r:Nat))]) (λ_=>[T0]) ?_ ?_
 refine .block ?_
 refine .loop (X:=Nat) (λr=>r<=b-1/\PQ (λx=>ap c x p) D a B r b p) (λr=>[(0,v),(1,iN a),(4,.func (.func f) #[] caps.toArray),(12,iN B),(13,.int .i64 (r:Nat))]) (λ_=>[T0]) (λr=>r) (b-1) ⟨acG _,c5⟩ kE.c.c.c.c.c rH ?_
 rintro M ⟨c0,a7⟩
 have e2:=c5.i0
 refine .seq<|.seq ?_
 refine .bO 13 mixed (by kernel_rfl) ?_
 conv=>arg 6;dsimp only[List.take]
 refine .mo rfl<|.mo rfl<|.q .leq<|.mo rfl ?_
 refine .split (t:=53) rfl (λk=>?_) (λk=>?_)
 have e5:B<=M:=by have:=bp k;omega
 obtain⟨x4,b3⟩:∃x,D[M]? =some x:=⟨_,aE (by omega)⟩
 have f7:=b0 x4 (a4.perm.mem_iff.1 (aG b3))
 refine .gT k<|.mo rfl<|.gT k<|.mo rfl<|.gT k<|.mo rfl<|.gT k ?_
 refine .ar M A b3 (λk8=>?_)
 refine .gT k<|.q (.aD rfl)<|.gT k<|.mo rfl<|.gT k<|.mo rfl<|.gT k ?_
 refine .ar a A I (λk9=>?_)
 refine .gT k<|.q (.aD rfl)<|.nil<|.gT k ?_
 refine .bV (first:=[]) (captured:=caps) (vs:=[(λp:CP=>Value.agg (bD p).toArray) x4,(λp:CP=>Value.agg (bD p).toArray) p]) (hf x4 p f7 c3 _ (λb o S=>.inl S)) (λu Y=>?_)
 subst Y
 refine .gT k<|.q .lss<|.gT k<|.q .not<|.q (.bX k) ?_
 refine .zn ?_
 refine .cond rfl (λh2=>?_) λh2=>?_
 refine .kn<|.block<|.region<|.mo rfl ?_
 refine .ia (M-1) .sub ?_
 refine .ag rfl<|.nil<|bg ?_
 ·have e8:ap c x4 p=false:=by
   have d6:(!ap c x4 p)=true:=h2
   simpa using d6
  exact aS (M-1) ⟨by omega,a7.dec e5 b3 e8⟩ (by omega) kE.c.c.c.c.c rH
 refine .exit<|aT<|aW<|aU ?_
 first
  |exact ax M ⟨c0,a7,λx d e=>by
    have W:(!ap c x4 p)=false:=h2
    rw[b3]at e;cases e
    simpa using W⟩ kE.c.c.c.c.c rH
  |exact ax M ⟨c0,a7,λx d e=>by have:=bc k;omega⟩ kE.c.c.c.c.c rH
 refine .gF k<|.gF k<|.gF k<|.gF k<|.gF k<|.gF k<|.gF k<|.gF k<|.gF k<|.nil<|.gF k<|.gF k<|.gF k<|.q (.bU k) ?_
 refine .zn<|.bB<|.exit<|aT<|aW<|aU ?_
 first
  |exact ax M ⟨c0,a7,λx d e=>by
    have W:(!ap c x4 p)=false:=h2
    rw[b3]at e;cases e
    simpa using W⟩ kE.c.c.c.c.c rH
  |exact ax M ⟨c0,a7,λx d e=>by have:=bc k;omega⟩ kE.c.c.c.c.c rH
 intro x d
 obtain⟨w,c8⟩:∃w,w=x:=⟨_,rfl⟩
 rw[<-c8]at d⊢
 clear c8 x
 obtain⟨g9,b8,f3⟩:=d
 have e2:=b8.i0
 have g3:=b8.ij
 refine aI<|.seq<|.sr<|.mo rfl<|.mo rfl<|.q .gtr<|.zn ?_
 refine .cond rfl (λh3=>?_) λh3=>?_
 have e1:w<B:=cO h3
 obtain⟨y,G⟩:∃x,D[w]? =some x:=⟨_,aE (by omega)⟩
 refine .seq<|.bN [13,15] mixed ?_
 refine .tO 0 rfl .move<|.tO 1 rfl .move<|.tK 2 rfl .move<|.tK 3 rfl .move<|.tO 4 rfl .move<|.tO 5 rfl .move ?_
 refine RA.ar 6 rfl (a) A I rfl rfl rfl (by kernel_rfl) (λl0=>?_)
 refine .tO 7 rfl (.aD rfl)<|.tO 8 rfl .move<|.tO 9 rfl .move ?_
 refine RA.ar 10 rfl (w) A G rfl rfl rfl (by kernel_rfl) (λl1=>?_)
 refine .tO 11 rfl (.aD rfl) ?_
 refine RA.ar 12 rfl (w) A G rfl rfl rfl (by kernel_rfl) (λl2=>?_)
 refine .sT 13 rfl ?_
 refine .bh (w) A G p (λb7 J=>?_) (A.one _ (aG I))
 refine .nil (Next.mod rfl ?_)
 refine RA.ar 14 rfl (a) A I rfl rfl rfl (by kernel_rfl) (λl3=>?_)
 refine .sT 15 rfl ?_
 obtain⟨zz,K⟩:∃u,(D.set (w) p)[a]? =some u:=⟨_,aE (by rw[acK];exact(acJ.1 I).1)⟩
 refine .bh (a) J K y (λV E=>?_) (A.one _ (aG G))
 rw[<-bP G I]at E
 refine .nil (Next.mod rfl ?_)
 refine RA.nil (by kernel_rfl) ?_
 refine aI<|.sr<|.mo rfl<|.ag rfl<|.az rfl ?_
 refine .ret (bq (bb _ (.two (.tmp rfl) (.tmp rfl)) rH ?_))
 ·exact⟨_,rfl,bi D w a,w,true,rfl,E,a4.step (by omega) (by omega) (by omega) (by omega) (by omega),b8.fin e1 (by omega)⟩
 have d1:B<=w:=by have:=bc h3;omega
 obtain⟨x,d⟩:∃x,D[B]? =some x:=⟨_,aE (by omega)⟩
 obtain⟨y,G⟩:∃x,D[w]? =some x:=⟨_,aE (by omega)⟩
 have f0:=b8.sw d1 (by omega) d G (f2 x (by omega) d) (f3 y d1 G)
 refine .kn<|.seq<|.bN [13,15] mixed ?_
 refine .tO 0 rfl .move<|.tO 1 rfl .move<|.tK 2 rfl .move<|.tK 3 rfl .move<|.tO 4 rfl .move<|.tO 5 rfl .move ?_
 refine RA.ar 6 rfl (w) A G rfl rfl rfl (by kernel_rfl) (λl4=>?_)
 refine .tO 7 rfl (.aD rfl)<|.tO 8 rfl .move<|.tO 9 rfl .move ?_
 refine RA.ar 10 rfl (B) A d rfl rfl rfl (by kernel_rfl) (λl5=>?_)
 refine .tO 11 rfl (.aD rfl) ?_
 refine RA.ar 12 rfl (B) A d rfl rfl rfl (by kernel_rfl) (λl6=>?_)
 refine .sT 13 rfl ?_
 refine .bh (B) A d y (λb7 J=>?_) (A.one _ (aG G))
 refine .nil (Next.mod rfl ?_)
 refine RA.ar 14 rfl (w) A G rfl rfl rfl (by kernel_rfl) (λi1=>?_)
 refine .sT 15 rfl ?_
 obtain⟨zz,K⟩:∃u,(D.set (B) y)[w]? =some u:=⟨_,aE (by rw[acK];exact(acJ.1 G).1)⟩
 refine .bh (w) J K x (λV E=>?_) (A.one _ (aG d))
 rw[<-bP d G]at E
 refine .nil (Next.mod rfl ?_)
 refine RA.nil (by kernel_rfl) ?_
 refine aI<|.sr<|.mo rfl ?_
 refine .ia (B+1) .add ?_
 refine .ag rfl<|.z<|.mo rfl ?_
 refine .ia (w-1) .sub ?_
 refine .ag rfl<|.zs ?_
 refine bk.cut (X:=Nat×Nat×List CP×ay) (λy=>OS 24 4 bD v y.2.2.1 y.2.2.2/\RP a b xs y.2.2.1/\PQ (λx=>ap c x p) y.2.2.1 a y.1 y.2.1 b p/\y.2.1<y.1) (λy=>[(0,v),(1,iN a),(4,.func (.func f) #[] caps.toArray),(12,iN y.1),(13,iN y.2.1)]) (λy=>[y.2.2.2]) ?_ ?_
 refine .block ?_
 refine .loop (X:=Nat×Nat×List CP×ay) (λy=>OS 24 4 bD v y.2.2.1 y.2.2.2/\RP a b xs y.2.2.1/\PQ (λx=>ap c x p) y.2.2.1 a y.1 y.2.1 b p) (λy=>[(0,v),(1,iN a),(4,.func (.func f) #[] caps.toArray),(12,iN y.1),(13,iN y.2.1)]) (λy=>[y.2.2.2]) (λy=>y.2.1+1-y.1) (B+1,w-1,bi D B w,V) ⟨E,a4.step (by omega) (by omega) (by omega) (by omega) (by omega),f0.2⟩ kE.c.c.c.c.c rH ?_
 rintro⟨i,j,ys,T1⟩ ⟨F,a5,a2⟩
 simp only at F a5 a2⊢
 have h7:=a5.length
 have g0:=a2.i0
 have g2:=a2.ij
 have g7:=a2.jb
 have d4:=a2.at_
 refine .block<|.seq ?_
 refine bk.cut (X:=Nat) (λs=>i<=s/\PQ (λx=>ap c x p) ys a s j b p/\∀x,s<=j->ys[s]? =some x->ap c x p=false) (λs=>[(0,v),(1,iN a),(4,.func (.func f) #[] caps.toArray),(12,.int .i64 (s:Nat)),(13,iN j)]) (λ_=>[T1]) ?_ ?_
 refine .block ?_
 refine .loop (X:=Nat) (λs=>i<=s/\PQ (λx=>ap c x p) ys a s j b p) (λs=>[(0,v),(1,iN a),(4,.func (.func f) #[] caps.toArray),(12,.int .i64 (s:Nat)),(13,iN j)]) (λ_=>[T1]) (λs=>j+1-s) i ⟨acG _,a2⟩ kE.c.c.c.c.c rH ?_
 rintro N ⟨c1,a8⟩
 refine .seq<|.seq ?_
 refine .bO 13 mixed (by kernel_rfl) ?_
 conv=>arg 6;dsimp only[List.take]
 refine .mo rfl<|.mo rfl<|.q .leq<|.mo rfl ?_
 refine .split (t:=108) rfl (λl=>?_) (λl=>?_)
 have e6:N<=j:=by have:=bp l;omega
 obtain⟨x6,b4⟩:∃x,ys[N]? =some x:=⟨_,aE (by omega)⟩
 have f8:=b0 x6 (a5.perm.mem_iff.1 (aG b4))
 refine .gT l<|.mo rfl<|.gT l<|.mo rfl<|.gT l<|.mo rfl<|.gT l ?_
 refine .ar N F b4 (λi4=>?_)
 refine .gT l<|.q (.aD rfl)<|.gT l<|.mo rfl<|.gT l<|.mo rfl<|.gT l ?_
 refine .ar a F d4 (λi5=>?_)
 refine .gT l<|.q (.aD rfl)<|.nil<|.gT l ?_
 refine .bV (first:=[]) (captured:=caps) (vs:=[(λp:CP=>Value.agg (bD p).toArray) x6,(λp:CP=>Value.agg (bD p).toArray) p]) (hf x6 p f8 c3 _ (λb o S=>.inl S)) (λu Y=>?_)
 subst Y
 refine .gT l<|.q .lss<|.q (.bX l) ?_
 refine .zn ?_
 refine .cond rfl (λh4=>?_) λh4=>?_
 refine .kn<|.block<|.region<|.mo rfl ?_
 refine .ia (N+1) .add ?_
 refine .ag rfl<|.nil<|bg ?_
 ·exact aS (N+1) ⟨by omega,a8.inc e6 b4 h4⟩ (by omega) kE.c.c.c.c.c rH
 refine .exit<|aT<|aW<|aU ?_
 first
  |exact ax N ⟨c1,a8,λx d e=>by rw[b4]at e;cases e;exact h4⟩ kE.c.c.c.c.c rH
  |exact ax N ⟨c1,a8,λx d e=>by have:=bc l;omega⟩ kE.c.c.c.c.c rH
 refine .gF l<|.gF l<|.gF l<|.gF l<|.gF l<|.gF l<|.gF l<|.gF l<|.gF l<|.nil<|.gF l<|.gF l<|.q (.bU l) ?_
 refine .zn<|.bB<|.exit<|aT<|aW<|aU ?_
 first
  |exact ax N ⟨c1,a8,λx d e=>by rw[b4]at e;cases e;exact h4⟩ kE.c.c.c.c.c rH
  |exact ax N ⟨c1,a8,λx d e=>by have:=bc l;omega⟩ kE.c.c.c.c.c rH
 intro x d
 obtain⟨C,d0⟩:∃C,C=x:=⟨_,rfl⟩
 rw[<-d0]at d⊢
 clear d0 x
 obtain⟨g6,c6,f4⟩:=d
 refine aI<|.seq ?_
 refine bk.cut (X:=Nat) (λr=>r<=j/\PQ (λx=>ap c x p) ys a C r b p/\∀x,C<=r->ys[r]? =some x->ap c x p=true) (λr=>[(0,v),(1,iN a),(4,.func (.func f) #[] caps.toArray),(12,iN C),(13,.int .i64 (r:Nat))]) (λ_=>[T1]) ?_ ?_
 refine .block ?_
 refine .loop (X:=Nat) (λr=>r<=j/\PQ (λx=>ap c x p) ys a C r b p) (λr=>[(0,v),(1,iN a),(4,.func (.func f) #[] caps.toArray),(12,iN C),(13,.int .i64 (r:Nat))]) (λ_=>[T1]) (λr=>r) j ⟨acG _,c6⟩ kE.c.c.c.c.c rH ?_
 rintro O ⟨c2,a9⟩
 have e3:=c6.i0
 refine .seq<|.seq ?_
 refine .bO 13 mixed (by kernel_rfl) ?_
 conv=>arg 6;dsimp only[List.take]
 refine .mo rfl<|.mo rfl<|.q .leq<|.mo rfl ?_
 refine .split (t:=126) rfl (λg=>?_) (λg=>?_)
 have e7:C<=O:=by have:=bp g;omega
 obtain⟨x7,b5⟩:∃x,ys[O]? =some x:=⟨_,aE (by omega)⟩
 have f9:=b0 x7 (a5.perm.mem_iff.1 (aG b5))
 refine .gT g<|.mo rfl<|.gT g<|.mo rfl<|.gT g<|.mo rfl<|.gT g ?_
 refine .ar O F b5 (λi6=>?_)
 refine .gT g<|.q (.aD rfl)<|.gT g<|.mo rfl<|.gT g<|.mo rfl<|.gT g ?_
 refine .ar a F d4 (λi7=>?_)
 refine .gT g<|.q (.aD rfl)<|.nil<|.gT g ?_
 refine .bV (first:=[]) (captured:=caps) (vs:=[(λp:CP=>Value.agg (bD p).toArray) x7,(λp:CP=>Value.agg (bD p).toArray) p]) (hf x7 p f9 c3 _ (λb o S=>.inl S)) (λu Y=>?_)
 subst Y
 refine .gT g<|.q .lss<|.gT g<|.q .not<|.q (.bX g) ?_
 refine .zn ?_
 refine .cond rfl (λh5=>?_) λh5=>?_
 refine .kn<|.block<|.region<|.mo rfl ?_
 refine .ia (O-1) .sub ?_
 refine .ag rfl<|.nil<|bg ?_
 ·have e9:ap c x7 p=false:=by
   have d7:(!ap c x7 p)=true:=h5
   simpa using d7
  exact aS (O-1) ⟨by omega,a9.dec e7 b5 e9⟩ (by omega) kE.c.c.c.c.c rH
 refine .exit<|aT<|aW<|aU ?_
 first
  |exact ax O ⟨c2,a9,λx d e=>by
    have W:(!ap c x7 p)=false:=h5
    rw[b5]at e;cases e
    simpa using W⟩ kE.c.c.c.c.c rH
  |exact ax O ⟨c2,a9,λx d e=>by have:=bc g;omega⟩ kE.c.c.c.c.c rH
 refine .gF g<|.gF g<|.gF g<|.gF g<|.gF g<|.gF g<|.gF g<|.gF g<|.gF g<|.nil<|.gF g<|.gF g<|.gF g<|.q (.bU g) ?_
 refine .zn<|.bB<|.exit<|aT<|aW<|aU ?_
 first
  |exact ax O ⟨c2,a9,λx d e=>by
    have W:(!ap c x7 p)=false:=h5
    rw[b5]at e;cases e
    simpa using W⟩ kE.c.c.c.c.c rH
  |exact ax O ⟨c2,a9,λx d e=>by have:=bc g;omega⟩ kE.c.c.c.c.c rH
 intro x d
 obtain⟨H,d3⟩:∃H,H=x:=⟨_,rfl⟩
 rw[<-d3]at d⊢
 clear d3 x
 obtain⟨h0,b9,f5⟩:=d
 have e3:=b9.i0
 have g4:=b9.ij
 refine aI<|.seq<|.sr<|.mo rfl<|.mo rfl<|.q .gtr<|.zn ?_
 refine .cond rfl (λh6=>?_) λh6=>?_
 refine .exit (aT (du (aW (aU ?_))))
 exact ax (C,H,ys,T1) ⟨F,a5,b9,by have:=bp h6;simp only;omega⟩ kE.c.c.c.c.c rH
 have d2:C<=H:=by have:=bc h6;omega
 obtain⟨x8,a0⟩:∃x,ys[C]? =some x:=⟨_,aE (by omega)⟩
 obtain⟨y8,a1⟩:∃x,ys[H]? =some x:=⟨_,aE (by omega)⟩
 have f1:=b9.sw d2 (by omega) a0 a1 (f4 x8 (by omega) a0) (f5 y8 d2 a1)
 refine .kn<|.seq<|.bN [13,15] mixed ?_
 refine .tO 0 rfl .move<|.tO 1 rfl .move<|.tK 2 rfl .move<|.tK 3 rfl .move<|.tO 4 rfl .move<|.tO 5 rfl .move ?_
 refine RA.ar 6 rfl (H) F a1 rfl rfl rfl (by kernel_rfl) (λi8=>?_)
 refine .tO 7 rfl (.aD rfl)<|.tO 8 rfl .move<|.tO 9 rfl .move ?_
 refine RA.ar 10 rfl (C) F a0 rfl rfl rfl (by kernel_rfl) (λj0=>?_)
 refine .tO 11 rfl (.aD rfl) ?_
 refine RA.ar 12 rfl (C) F a0 rfl rfl rfl (by kernel_rfl) (λj1=>?_)
 refine .sT 13 rfl ?_
 refine .bh (C) F a0 y8 (λb7 J=>?_) (F.one _ (aG a1))
 refine .nil (Next.mod rfl ?_)
 refine RA.ar 14 rfl (H) F a1 rfl rfl rfl (by kernel_rfl) (λj4=>?_)
 refine .sT 15 rfl ?_
 obtain⟨zz,K⟩:∃u,(ys.set (C) y8)[H]? =some u:=⟨_,aE (by rw[acK];exact(acJ.1 a1).1)⟩
 refine .bh (H) J K x8 (λV E=>?_) (F.one _ (aG a0))
 rw[<-bP a0 a1]at E
 refine .nil (Next.mod rfl ?_)
 refine RA.nil (by kernel_rfl) ?_
 refine aI<|.sr<|.mo rfl ?_
 refine .ia (C+1) .add ?_
 refine .az rfl<|.region<|.mo rfl ?_
 refine .ia (H-1) .sub ?_
 refine .ag rfl<|.nil<|bg ?_
 ·exact aS (C+1,H-1,bi ys C H,V) ⟨E,a5.step (by omega) (by omega) (by omega) (by omega) (by omega),f1.2⟩ (by simp only;omega) kE.c.c.c.c.c rH
 intro x d
 obtain⟨i9,j9,zs,T9⟩:=x
 obtain⟨Q,c4,a3,c9⟩:=d
 simp only at Q c4 a3 c9⊢
 have h9:=c4.length
 have g5:=a3.ij
 have g1:=a3.i0
 have g8:=a3.jb
 have b1:=a3.at_
 obtain⟨y9,b6⟩:∃x,zs[j9]? =some x:=⟨_,aE (by omega)⟩
 refine aI<|.seq<|.bN [13,15] mixed ?_
 refine .tO 0 rfl .move<|.tO 1 rfl .move<|.tK 2 rfl .move<|.tK 3 rfl .move<|.tO 4 rfl .move<|.tO 5 rfl .move ?_
 refine RA.ar 6 rfl (a) Q b1 rfl rfl rfl (by kernel_rfl) (λj5=>?_)
 refine .tO 7 rfl (.aD rfl)<|.tO 8 rfl .move<|.tO 9 rfl .move ?_
 refine RA.ar 10 rfl (j9) Q b6 rfl rfl rfl (by kernel_rfl) (λj6=>?_)
 refine .tO 11 rfl (.aD rfl) ?_
 refine RA.ar 12 rfl (j9) Q b6 rfl rfl rfl (by kernel_rfl) (λj7=>?_)
 refine .sT 13 rfl ?_
 refine .bh (j9) Q b6 p (λb7 J=>?_) (Q.one _ (aG b1))
 refine .nil (Next.mod rfl ?_)
 refine RA.ar 14 rfl (a) Q b1 rfl rfl rfl (by kernel_rfl) (λj8=>?_)
 refine .sT 15 rfl ?_
 obtain⟨zz,K⟩:∃u,(zs.set (j9) p)[a]? =some u:=⟨_,aE (by rw[acK];exact(acJ.1 b1).1)⟩
 refine .bh (a) J K y9 (λV E=>?_) (Q.one _ (aG b6))
 rw[<-bP b6 b1]at E
 refine .nil (Next.mod rfl ?_)
 refine RA.nil (by kernel_rfl) ?_
 refine aI<|.sr<|.mo rfl<|.ag rfl<|.az rfl ?_
 refine .ret (bb _ (.two (.tmp rfl) (.tmp rfl)) rH ?_)
 ·exact⟨_,rfl,bi zs j9 a,j9,false,rfl,E,c4.step (by omega) (by omega) (by omega) (by omega) (by omega),a3.fin c9 (by omega)⟩
end
end SCL
namespace SCL
section
variable{c:CP->CP->Int}{ok:CP->Prop}{f:FuncId}{caps:List Value} [e:aL prog f]
def fu(c:CP->CP->Int)(ok:CP->Prop)(f:FuncId)(caps:List Value)(n:Nat):Prop:=∀(v:Value) (xs:List CP) (T:ay) (a b lim:Nat) (R:aC),OS 24 4 bD v xs T->a<=b->b<=xs.length->xs.length<=1000000000->lim<=1000000000->bR prog f caps R (λp:CP=>Value.agg (bD p).toArray) c ok->(∀x∈xs,ok x)->LB (ap c) xs a b->b-a<n->
  Spec prog 231 [v,.int .i64 a,.int .i64 b,.int .i64 lim,.func (.func f) #[] caps.toArray] R [T] λu H'=>∃T',H'=[T']/\u=.tuple #[]/\∃ys,OS 24 4 bD v ys T'/\RP a b xs ys/\SR (ap c) ys a b
theorem hY(n:Nat)(ih:fu c ok f caps n)(D:SO (ap c))(v:Value)(xs:List CP)(T:ay)(H F c7:Nat)(R:aC)(h:OS 24 4 bD v xs T)(d6:H<=F)(hb:F<=xs.length)(hl:xs.length<=1000000000)(e0:c7<=1000000000)(O:bR prog f caps R (λp:CP=>Value.agg (bD p).toArray) c ok)(e2:∀x∈xs,ok x)(d8:LB (ap c) xs H F)(hn:F-H<n+1):
  Spec prog 231 [v,.int .i64 H,.int .i64 F,.int .i64 c7,.func (.func f) #[] caps.toArray] R [T] λu H'=>∃T',H'=[T']/\u=.tuple #[]/\∃ys,OS 24 4 bD v ys T'/\RP H F xs ys/\SR (ap c) ys H F:=by
 have iv:=h.aF
 refine Spec.body func231 rfl results231 ntmps231 rfl ?_
 refine .sr<|.ag rfl<|.z<|.az rfl<|.block ?_
 refine .loop (X:=Nat×Nat×Nat×Bool×Bool×List CP×ay) (λy=>(H<=y.1/\y.1<=y.2.1/\y.2.1<=F/\y.2.2.1<=1000000000)/\OS 24 4 bD v y.2.2.2.2.2.1 y.2.2.2.2.2.2/\RP H F xs y.2.2.2.2.2.1/\OX (ap c) y.2.2.2.2.2.1 H F y.1 y.2.1) (λy=>[(0,v),(1,iN y.1),(2,iN y.2.1),(3,iN y.2.2.1),(4,.func (.func f) #[] caps.toArray),(10,.bool y.2.2.2.1),(11,.bool y.2.2.2.2.1)]) (λy=>[y.2.2.2.2.2.2]) (λy=>y.2.1-y.1) (H,F,c7,true,true,xs,T) ⟨⟨acG _,d6,acG _,e0⟩,h,.refl _,.start⟩ kE.c.c.c.c.c.c.c rH ?_
 rintro⟨a,b,l,wb,wp,ys,T1⟩ ⟨⟨e,c1,g,d7⟩,b1,U,Z⟩
 simp only at e c1 g d7 b1 U Z⊢
 have f0:=U.length
 have b8:∀x∈ys,ok x:=λx W=>e2 x (U.perm.mem_iff.1 W)
 have d1:=Z.lb (d8.rp U) e g
 refine .block<|.sr<|.mo rfl<|.mo rfl ?_
 refine .ia (b-a) .sub ?_
 refine .ag rfl<|.zs<|.sr<|.mo rfl<|.q .leq<|.zn ?_
 refine .cond rfl (λh1=>?_) λh1=>?_
 refine .sr<|.mo rfl<|.mo rfl<|.mo rfl<|.mo rfl ?_
 refine .aQ (hG v ys T1 a b _ b1 c1 (by omega) (by omega) O b8 D) (λu T2 k=>?_)
 obtain⟨rfl,N,I,B,c0⟩:=k
 refine .zn ?_
 refine .ret (bq (bu (cH (bu (bb _ .none rH ?_)))))
 ·first
   |exact⟨_,rfl,rfl,N,I,U.trans (B.mono e g (by omega)),(Z.rp B e g).cS c0⟩
   |exact⟨_,rfl,rfl,ms,a2,U.trans ((C.trans Y).mono e g (by omega)),(Z.rp (C.trans Y) e g).cS (c4 (by assumption))⟩
 have f4:12<b-a:=by have:=bc h1;omega
 refine .kn<|.seq<|.sr<|.mo rfl<|.q .cL<|.zn ?_
 refine .cond rfl (λh2=>?_) λh2=>?_
 refine .sr<|.mo rfl<|.mo rfl<|.mo rfl<|.mo rfl ?_
 refine .aQ (hF v ys T1 a b _ b1 c1 (by omega) (by omega) O b8 D) (λu T2 k=>?_)
 obtain⟨rfl,N,I,B,c0⟩:=k
 refine .zn ?_
 refine .ret (bq (bu (cH (bu (bb _ .none rH ?_)))))
 ·first
   |exact⟨_,rfl,rfl,N,I,U.trans (B.mono e g (by omega)),(Z.rp B e g).cS c0⟩
   |exact⟨_,rfl,rfl,ms,a2,U.trans ((C.trans Y).mono e g (by omega)),(Z.rp (C.trans Y) e g).cS (c4 (by assumption))⟩
 have e9:0<l:=by
  have e8:¬((l:Int)=0):=by simpa using h2
  omega
 refine .kn<|.seq ?_
 refine bk.cut (X:=Nat×List CP×ay) (λz=>z.1<=1000000000/\OS 24 4 bD v z.2.1 z.2.2/\RP a b ys z.2.1) (λz=>[(0,v),(1,iN a),(2,iN b),(3,iN z.1),(4,.func (.func f) #[] caps.toArray),(10,.bool wb),(11,.bool wp),(12,.int .i64 ((b-a:Nat):Int))]) (λz=>[z.2.2]) ?_ ?_
 refine .sr<|.mo rfl<|.q .not<|.zn ?_
 refine .cond rfl (λh3=>?_) λh3=>?_
 refine .sr<|.mo rfl<|.mo rfl<|.mo rfl<|.mo rfl ?_
 refine .aQ (gV v ys T1 a b _ (.func (.func f) #[] caps.toArray) inferInstance b1 c1 (by omega) (by omega)) (λu T2 k=>?_)
 obtain⟨rfl,N,I,B⟩:=k
 refine .zn<|.region<|.mo rfl ?_
 refine .ia (l-1) .sub ?_
 refine .ag rfl<|.nil ?_
 ·first
   |exact ax (l-1,N,T2) ⟨by simp only;omega,I,B⟩ kE.c.c.c.c.c.c.c.c rH
   |exact ax (l,ys,T1) ⟨by simp only;omega,b1,.refl _⟩ kE.c.c.c.c.c.c.c.c rH
 refine .skip ?_
 ·first
   |exact ax (l-1,N,T2) ⟨by simp only;omega,I,B⟩ kE.c.c.c.c.c.c.c.c rH
   |exact ax (l,ys,T1) ⟨by simp only;omega,b1,.refl _⟩ kE.c.c.c.c.c.c.c.c rH
 intro y hy
 obtain⟨r,N,T2⟩:=y
 obtain⟨s,I,B⟩:=hy
 simp only at s I B⊢
 have f1:=B.length
 have e3:∀x∈N,ok x:=λx W=>b8 x (B.perm.mem_iff.1 W)
 refine aI<|.sr<|.mo rfl<|.mo rfl<|.mo rfl<|.mo rfl ?_
 refine .bx (choose_spec v N a b _ (I.rs λp hp=>.inr (by simpa using hp)) (by omega) (by omega) (by omega) (O.mono λb o hb=>.inl hb) e3) (λu k=>?_)
 obtain⟨pv,d0,rfl,d2,d3⟩:=k
 refine .mo rfl<|.q .extract<|.q .extract<|.ag rfl<|.ag rfl<|.zs ?_
 refine bk.cut (X:=Nat×Int×List CP×ay) (λz=>(a<=z.1/\z.1<b)/\OS 24 4 bD v z.2.2.1 z.2.2.2/\RP a b ys z.2.2.1) (λz=>[(0,v),(1,iN a),(2,iN b),(3,iN r),(4,.func (.func f) #[] caps.toArray),(10,.bool wb),(11,.bool wp),(12,.int .i64 ((b-a:Nat):Int)),(13,iN z.1),(14,.int .i64 z.2.1)]) (λz=>[z.2.2.2]) ?_ ?_
 refine .sr<|.mo rfl<|.q .cL<|.zn ?_
 refine .cond rfl (λh4=>?_) λh4=>?_
 refine .sr<|.mo rfl<|.mo rfl<|.mo rfl<|.mo rfl ?_
 refine .aQ (ie v N T2 a b _ (.func (.func f) #[] caps.toArray) inferInstance I (by omega) (by omega) (by omega)) (λu T3 k=>?_)
 obtain⟨rfl,ws,c8,c9⟩:=k
 refine .z<|.mo rfl ?_
 refine .ia (b-1) .sub ?_
 refine .mo rfl<|.mo rfl ?_
 refine .ia (pv-a) .sub ?_
 refine .ia ((b-1)-(pv-a)) .sub ?_
 refine .az rfl<|.region<|.ag rfl<|.nil ?_
 ·first
   |exact ax ((b-1)-(pv-a),1,ws,T3) ⟨by simp only;omega,c8,B.trans c9⟩ kE.c.c.c.c.c.c.c.c.c.c rH
   |exact ax (pv,d0,N,T2) ⟨⟨d2,d3⟩,I,B⟩ kE.c.c.c.c.c.c.c.c.c.c rH
 refine .skip ?_
 ·first
   |exact ax ((b-1)-(pv-a),1,ws,T3) ⟨by simp only;omega,c8,B.trans c9⟩ kE.c.c.c.c.c.c.c.c.c.c rH
   |exact ax (pv,d0,N,T2) ⟨⟨d2,d3⟩,I,B⟩ kE.c.c.c.c.c.c.c.c.c.c rH
 intro y hy
 obtain⟨q,f5,us,T4⟩:=y
 obtain⟨⟨c2,c3⟩,b2,C⟩:=hy
 simp only at c2 c3 b2 C⊢
 have f2:=C.length
 have e4:∀x∈us,ok x:=λx W=>b8 x (C.perm.mem_iff.1 W)
 refine aI<|.seq ?_
 refine bk.cut (X:=List CP×ay) (λz=>OS 24 4 bD v z.1 z.2/\RP a b ys z.1) (λz=>[(0,v),(1,iN a),(2,iN b),(3,iN r),(4,.func (.func f) #[] caps.toArray),(10,.bool wb),(11,.bool wp),(12,.int .i64 ((b-a:Nat):Int)),(13,iN q)]) (λz=>[z.2]) ?_ ?_
 refine .sr<|.mo rfl<|.mo rfl ?_
 refine .split (t:=69) rfl (λb5=>?_) (λb5=>?_)
 refine .gT b5<|.mo rfl<|.q (.bX b5) ?_
 refine .mo rfl ?_
 refine .split (t:=72) rfl (λa1=>?_) (λa1=>?_)
 refine .gT a1<|.mo rfl<|.gT a1<|.q .cL<|.q (.bX a1) ?_
 refine .zn ?_
 refine .cond rfl (λh5=>?_) λh5=>?_
 refine .sr<|.mo rfl<|.mo rfl<|.mo rfl<|.mo rfl ?_
 refine .aQ (hU v us T4 a b _ b2 (by omega) (by omega) (by omega) O e4 D (d1.rp C)) (λu T5 k=>?_)
 obtain⟨ms,mb,rfl,a2,Y,c4⟩:=k
 refine .zn ?_
 refine .cond rfl (λh6=>?_) λh6=>?_
 refine .ret (ki (bq (bu (cH (bu (bb _ .none rH ?_))))))
 ·first
   |exact⟨_,rfl,rfl,N,I,U.trans (B.mono e g (by omega)),(Z.rp B e g).cS c0⟩
   |exact⟨_,rfl,rfl,ms,a2,U.trans ((C.trans Y).mono e g (by omega)),(Z.rp (C.trans Y) e g).cS (c4 (by assumption))⟩
 refine .skip ?_
 ·first
   |exact ax (ms,T5) ⟨a2,C.trans Y⟩ kE.c.c.c.c.c.c.c.c.c rH
   |exact ax (us,T4) ⟨b2,C⟩ kE.c.c.c.c.c.c.c.c.c rH
 refine .skip ?_
 ·first
   |exact ax (ms,T5) ⟨a2,C.trans Y⟩ kE.c.c.c.c.c.c.c.c.c rH
   |exact ax (us,T4) ⟨b2,C⟩ kE.c.c.c.c.c.c.c.c.c rH
 refine .gF a1<|.gF a1<|.q (.bU a1) ?_
 refine .zn<|.bB<|.skip ?_
 ·first
   |exact ax (ms,T5) ⟨a2,C.trans Y⟩ kE.c.c.c.c.c.c.c.c.c rH
   |exact ax (us,T4) ⟨b2,C⟩ kE.c.c.c.c.c.c.c.c.c rH
 refine .gF b5<|.q (.bU b5) ?_
 refine .mo rfl<|.gX<|.gX<|.q .iE<|.zn<|.bB<|.skip ?_
 ·first
   |exact ax (ms,T5) ⟨a2,C.trans Y⟩ kE.c.c.c.c.c.c.c.c.c rH
   |exact ax (us,T4) ⟨b2,C⟩ kE.c.c.c.c.c.c.c.c.c rH
 intro y hy
 obtain⟨a9,T6⟩:=y
 obtain⟨b3,b4⟩:=hy
 simp only at b3 b4⊢
 have f3:=b4.length
 have a8:∀x∈a9,ok x:=λx W=>b8 x (b4.perm.mem_iff.1 W)
 have a3:RP H F xs a9:=U.trans (b4.mono e g (by omega))
 have a5:=Z.rp b4 e g
 have c5:=d1.rp b4
 obtain⟨p,hp⟩:∃x,a9[q]? =some x:=⟨_,aE (by omega)⟩
 have e5:=a8 p (aG hp)
 refine aI<|.seq<|.seq ?_
 refine .bO 13 mixed (by kernel_rfl) ?_
 conv=>arg 6;dsimp only[List.take]
 refine .mo rfl<|.q .gtr<|.mo rfl ?_
 refine .split (t:=83) rfl (λi=>?_) (λi=>?_)
 have d5:0<a:=by have:=bp i;omega
 obtain⟨w,hw⟩:∃x,a9[a-1]? =some x:=⟨_,aE (by omega)⟩
 have e6:=a8 w (aG hw)
 refine .gT i<|.mo rfl<|.gT i<|.mo rfl<|.gT i<|.mo rfl<|.gT i ?_
 refine .ia (a-1) .sub ?_
 refine .gT i ?_
 refine .ar (a-1) b3 hw (λf6=>?_)
 refine .gT i<|.q (.aD rfl)<|.gT i<|.mo rfl<|.gT i<|.mo rfl<|.gT i ?_
 refine .ar q b3 hp (λf7=>?_)
 refine .gT i<|.q (.aD rfl)<|.nil<|.gT i ?_
 refine .bV (first:=[]) (captured:=caps) (vs:=[(λp:CP=>Value.agg (bD p).toArray) w,(λp:CP=>Value.agg (bD p).toArray) p]) (O w p e6 e5 _ (λb o hb=>.inl hb)) (λu k=>?_)
 subst k
 refine .gT i<|.q .lss<|.gT i<|.q .not<|.q (.bX i) ?_
 refine .zn ?_
 refine .cond rfl (λh7=>?_) λh7=>?_
 have e1:ap c w p=false:=by
  have d4:(!ap c w p)=true:=h7
  simpa using d4
 refine .sr<|.mo rfl<|.mo rfl<|.mo rfl<|.mo rfl<|.mo rfl ?_
 refine .aQ (hS v a9 T6 a b q p _ b3 (by omega) ⟨c2,c3⟩ hp (by omega) (by omega) O a8 D (c5.kr D d5 hw e1)) (λu Q k=>?_)
 obtain⟨E,j,rfl,S,m,A⟩:=k
 have a7:=A.lo
 have a6:=A.hi
 refine .ag rfl<|.z<|.mo rfl<|.az rfl<|.exit<|aT<|aU ?_
 ·first
   |exact aS (j+1,b,r,_,_,M,G) ⟨⟨by simp only;omega,by simp only;omega,by simp only;omega,s⟩,J,K,L⟩ (by simp only;omega) (((((((kE.d rfl).d rfl).d rfl).d rfl).d rfl).d rfl).d rfl) rH
   |exact aS (a,j,r,_,_,M,G) ⟨⟨e,a7,by simp only;omega,s⟩,J,K,L⟩ (by simp only;omega) (((((((kE.d rfl).d rfl).d rfl).d rfl).d rfl).d rfl).d rfl) rH
   |exact aS (j,b,r,_,_,E,Q) ⟨⟨by simp only;omega,a6,g,s⟩,S,a3.trans (m.mono e g (by omega)),(a5.rp m e g).eqs D A⟩ (by simp only;omega) (((((((kE.d rfl).d rfl).d rfl).d rfl).d rfl).d rfl).d rfl) rH
 refine .kn<|.sr<|.mo rfl<|.mo rfl<|.mo rfl<|.mo rfl<|.mo rfl ?_
 refine .aQ (fy v a9 T6 a b q p _ b3 (by omega) ⟨c2,c3⟩ hp (by omega) (by omega) O a8 D) (λu Q k=>?_)
 obtain⟨E,j,e7,rfl,S,m,A⟩:=k
 have a7:=A.lo
 have a6:=A.hi
 have d9:=m.length
 have b9:∀x∈E,ok x:=λx W=>a8 x (m.perm.mem_iff.1 W)
 have b7:=a5.rp m e g
 have b6:RP H F xs E:=a3.trans (m.mono e g (by omega))
 have c6:=c5.rp m
 refine .mo rfl<|.q .extract<|.q .extract<|.ag rfl<|.ag rfl<|.z<|.mo rfl<|.ag rfl<|.z<|.mo rfl<|.mo rfl ?_
 refine .ia (j-a) .sub ?_
 refine .mo rfl<|.mo rfl ?_
 refine .ia (b-j) .sub ?_
 refine .ag rfl<|.ag rfl<|.z<|.mo rfl ?_
 refine .q (.i64 (((b-a)/8:Nat):Int) .quo ⟨by rw[acL (by omega)];omega,by omega,by omega⟩) ?_
 refine .ag rfl<|.z<|.mo rfl<|.mo rfl<|.q .lss<|.zn ?_
 refine .cond rfl (λh8=>?_) λh8=>?_
 refine .sr<|.mo rfl<|.mo rfl<|.q .geq<|.ag rfl<|.z<|.mo rfl<|.mo rfl<|.mo rfl<|.mo rfl<|.mo rfl ?_
 refine .aQ (ih v E Q a j r _ S (by omega) (by omega) (by omega) s O b9 (c6.less (by omega)) (by omega)) (λu G k=>?_)
 obtain⟨rfl,M,J,V,a4⟩:=k
 have L:=b7.left D A V a4 e g (by omega)
 have K:=b6.trans (V.mono e (by omega) (by omega))
 refine .zn<|.region<|.mo rfl ?_
 refine .ia (j+1) .add ?_
 refine .ag rfl<|.nil<|bg ?_
 ·first
   |exact aS (j+1,b,r,_,_,M,G) ⟨⟨by simp only;omega,by simp only;omega,by simp only;omega,s⟩,J,K,L⟩ (by simp only;omega) (((((((kE.d rfl).d rfl).d rfl).d rfl).d rfl).d rfl).d rfl) rH
   |exact aS (a,j,r,_,_,M,G) ⟨⟨e,a7,by simp only;omega,s⟩,J,K,L⟩ (by simp only;omega) (((((((kE.d rfl).d rfl).d rfl).d rfl).d rfl).d rfl).d rfl) rH
   |exact aS (j,b,r,_,_,E,Q) ⟨⟨by simp only;omega,a6,g,s⟩,S,a3.trans (m.mono e g (by omega)),(a5.rp m e g).eqs D A⟩ (by simp only;omega) (((((((kE.d rfl).d rfl).d rfl).d rfl).d rfl).d rfl).d rfl) rH
 refine .sr<|.mo rfl<|.mo rfl<|.q .geq<|.ag rfl<|.z<|.mo rfl<|.mo rfl ?_
 refine .ia (j+1) .add ?_
 refine .mo rfl<|.mo rfl<|.mo rfl ?_
 refine .aQ (ih v E Q (j+1) b r _ S (by omega) (by omega) (by omega) s O b9 A.lb (by omega)) (λu G k=>?_)
 obtain⟨rfl,M,J,V,a4⟩:=k
 have L:=b7.right D A V a4 e g (by omega)
 have K:=b6.trans (V.mono (by omega) g (by omega))
 refine .zn<|.region<|.mo rfl<|.ag rfl<|.nil<|bg ?_
 ·first
   |exact aS (j+1,b,r,_,_,M,G) ⟨⟨by simp only;omega,by simp only;omega,by simp only;omega,s⟩,J,K,L⟩ (by simp only;omega) (((((((kE.d rfl).d rfl).d rfl).d rfl).d rfl).d rfl).d rfl) rH
   |exact aS (a,j,r,_,_,M,G) ⟨⟨e,a7,by simp only;omega,s⟩,J,K,L⟩ (by simp only;omega) (((((((kE.d rfl).d rfl).d rfl).d rfl).d rfl).d rfl).d rfl) rH
   |exact aS (j,b,r,_,_,E,Q) ⟨⟨by simp only;omega,a6,g,s⟩,S,a3.trans (m.mono e g (by omega)),(a5.rp m e g).eqs D A⟩ (by simp only;omega) (((((((kE.d rfl).d rfl).d rfl).d rfl).d rfl).d rfl).d rfl) rH
 refine .gF i<|.gF i<|.gF i<|.gF i<|.gF i<|.gF i<|.gF i<|.gF i<|.gF i<|.gF i<|.nil<|.gF i<|.gF i<|.gF i<|.q (.bU i) ?_
 refine .zn<|.bB<|.kn<|.sr<|.mo rfl<|.mo rfl<|.mo rfl<|.mo rfl<|.mo rfl ?_
 refine .aQ (fy v a9 T6 a b q p _ b3 (by omega) ⟨c2,c3⟩ hp (by omega) (by omega) O a8 D) (λu Q k=>?_)
 obtain⟨E,j,e7,rfl,S,m,A⟩:=k
 have a7:=A.lo
 have a6:=A.hi
 have d9:=m.length
 have b9:∀x∈E,ok x:=λx W=>a8 x (m.perm.mem_iff.1 W)
 have b7:=a5.rp m e g
 have b6:RP H F xs E:=a3.trans (m.mono e g (by omega))
 have c6:=c5.rp m
 refine .mo rfl<|.q .extract<|.q .extract<|.ag rfl<|.ag rfl<|.z<|.mo rfl<|.ag rfl<|.z<|.mo rfl<|.mo rfl ?_
 refine .ia (j-a) .sub ?_
 refine .mo rfl<|.mo rfl ?_
 refine .ia (b-j) .sub ?_
 refine .ag rfl<|.ag rfl<|.z<|.mo rfl ?_
 refine .q (.i64 (((b-a)/8:Nat):Int) .quo ⟨by rw[acL (by omega)];omega,by omega,by omega⟩) ?_
 refine .ag rfl<|.z<|.mo rfl<|.mo rfl<|.q .lss<|.zn ?_
 refine .cond rfl (λh8=>?_) λh8=>?_
 refine .sr<|.mo rfl<|.mo rfl<|.q .geq<|.ag rfl<|.z<|.mo rfl<|.mo rfl<|.mo rfl<|.mo rfl<|.mo rfl ?_
 refine .aQ (ih v E Q a j r _ S (by omega) (by omega) (by omega) s O b9 (c6.less (by omega)) (by omega)) (λu G k=>?_)
 obtain⟨rfl,M,J,V,a4⟩:=k
 have L:=b7.left D A V a4 e g (by omega)
 have K:=b6.trans (V.mono e (by omega) (by omega))
 refine .zn<|.region<|.mo rfl ?_
 refine .ia (j+1) .add ?_
 refine .ag rfl<|.nil<|bg ?_
 ·first
   |exact aS (j+1,b,r,_,_,M,G) ⟨⟨by simp only;omega,by simp only;omega,by simp only;omega,s⟩,J,K,L⟩ (by simp only;omega) (((((((kE.d rfl).d rfl).d rfl).d rfl).d rfl).d rfl).d rfl) rH
   |exact aS (a,j,r,_,_,M,G) ⟨⟨e,a7,by simp only;omega,s⟩,J,K,L⟩ (by simp only;omega) (((((((kE.d rfl).d rfl).d rfl).d rfl).d rfl).d rfl).d rfl) rH
   |exact aS (j,b,r,_,_,E,Q) ⟨⟨by simp only;omega,a6,g,s⟩,S,a3.trans (m.mono e g (by omega)),(a5.rp m e g).eqs D A⟩ (by simp only;omega) (((((((kE.d rfl).d rfl).d rfl).d rfl).d rfl).d rfl).d rfl) rH
 refine .sr<|.mo rfl<|.mo rfl<|.q .geq<|.ag rfl<|.z<|.mo rfl<|.mo rfl ?_
 refine .ia (j+1) .add ?_
 refine .mo rfl<|.mo rfl<|.mo rfl ?_
 refine .aQ (ih v E Q (j+1) b r _ S (by omega) (by omega) (by omega) s O b9 A.lb (by omega)) (λu G k=>?_)
 obtain⟨rfl,M,J,V,a4⟩:=k
 have L:=b7.right D A V a4 e g (by omega)
 have K:=b6.trans (V.mono (by omega) g (by omega))
 refine .zn<|.region<|.mo rfl<|.ag rfl<|.nil<|bg ?_
 ·first
   |exact aS (j+1,b,r,_,_,M,G) ⟨⟨by simp only;omega,by simp only;omega,by simp only;omega,s⟩,J,K,L⟩ (by simp only;omega) (((((((kE.d rfl).d rfl).d rfl).d rfl).d rfl).d rfl).d rfl) rH
   |exact aS (a,j,r,_,_,M,G) ⟨⟨e,a7,by simp only;omega,s⟩,J,K,L⟩ (by simp only;omega) (((((((kE.d rfl).d rfl).d rfl).d rfl).d rfl).d rfl).d rfl) rH
   |exact aS (j,b,r,_,_,E,Q) ⟨⟨by simp only;omega,a6,g,s⟩,S,a3.trans (m.mono e g (by omega)),(a5.rp m e g).eqs D A⟩ (by simp only;omega) (((((((kE.d rfl).d rfl).d rfl).d rfl).d rfl).d rfl).d rfl) rH
theorem hX(q:SO (ap c))(n:Nat):fu c ok f caps n:=by
 induction n with
 |zero=>exact λv e T a b d R _ _ _ _ _ _ _ _ r=>by omega
 |succ n ih=>exact λv e T a b d R g h i j k l m o p=>hY n ih q v e T a b d R g h i j k l m o p
end
end SCL
namespace SCL
section
variable{c:CP->CP->Int}{ok:CP->Prop}{f:FuncId}{caps:List Value} [e:aL prog f]
theorem il(v:Value)(xs:List CP)(T:ay)(R:aC)(h:OS 24 4 bD v xs T)(k:xs.length<=1000000000)(j:bR prog f caps R (λp:CP=>Value.agg (bD p).toArray) c ok)(l:∀x∈xs,ok x)(m:SO (ap c)):
  Spec prog 148 [v,.func (.func f) #[] caps.toArray] R [T] λu H'=>∃T',H'=[T']/\u=.tuple #[]/\∃ys,OS 24 4 bD v ys T'/\ys.Perm xs/\SR (ap c) ys 0 ys.length:=by
 have s:=h.aF
 have i:Lib.bitLen xs.length<=1000000000:=by
  have r:=bitLen_le 64 xs.length
  have o:Lib.bitLen xs.length=Lib.bitLenAux 64 xs.length:=rfl
  omega
 refine Spec.body func148 rfl results148 ntmps148 rfl ?_
 refine .sr<|.mo rfl<|.q (.gL h) ?_
 refine .az rfl<|.region<|.mo rfl<|.mo rfl<|.mo rfl ?_
 refine .q (aV.cast (v':=.int .u64 ((xs.length:Nat):Int)) .dT (by rw[fN (by omega) (by omega)])) ?_
 refine .bx (js xs.length (by omega) _) (λu a=>?_)
 subst a
 refine .mo rfl ?_
 refine .aQ (hX m (xs.length+1) v xs T 0 xs.length (Lib.bitLen xs.length) _ h (Nat.zero_le _) (acG _) k i j l (λd=>absurd d (by omega)) (by omega)) (λu n a=>?_)
 obtain⟨rfl,ys,e,b,g⟩:=a
 refine .nil<|cz _ .none rH ?_
 ·exact⟨_,rfl,rfl,ys,e,b.perm,b.length▸g⟩
end
end SCL
def jm(M:List (ByteArray×CP))(k:ByteArray):dy:=((da k M).map (·.2)).getD dy.zero
theorem Ag{M:List (ByteArray×CP)}(a:(M.map (·.1)).Nodup):(M.map (·.1)).map (jm M)=M.map (·.2.2):=by
 rw[List.map_map]
 refine List.map_congr_left λp b=>?_
 have:da p.1 M=some p.2:=gj a (by exact b)
 simp[jm,this]
theorem qq(g:Nat)(A:List dy)(T:ay)(h:RI g A T)(hl:A.length<=1000000)(R:aC)(w:∀p∈T,R p.1 p.2):
  Spec prog 74 [pT g] R [] λv H'=>∃T',H'=[T']/\∃ps To Ti,T'=To++Ti/\OS 24 4 bD v ps To/\(∀p∈ps,eT (sg Ti) p.1 p.2)/\(ps.map (·.2)).Perm A/\ps.Pairwise (λp q=>ap ji q p=false):=by
 obtain⟨vm,M,Tm,G,rfl,i,hI,H⟩:=h
 obtain⟨d,rfl⟩:∃b,vm=.map (some b):=by obtain⟨b,es,clock,h1,_⟩:=i;exact⟨b,h1⟩
 have pq:PC R (pT g) [.map (some d)]:=PC.of (E:=222) (fr:=(0,0)) (w (g,.cells [.map (some d)].toArray 222 (0,0)) (by simp))
 have rm:RM R (λs:ByteArray=>.string s) (λp:CR×dy=>.agg p.1.cells.toArray) (.map (some d)) M:=i.rm λp hp=>w p (by simp[hp])
 have hT:∀b o,sg G b o->R b o:=λb o a=>w (b,o) (by have:(b,o)∈G:=a;simp[this])
 have b0:M.length=A.length:=by simpa using H.length_eq
 refine Spec.eg (H':=[[],[]]) (by simp) ?_
 refine Spec.body func74 rfl results74 ntmps74 rfl ?_
 refine .sr<|.ag rfl<|.zs<|.sr<|.mo rfl ?_
 refine .bx (qx g d _) (λv B=>?_)
 subst B
 refine .q .not<|.zn<|.bB<|.kn<|.sr<|.ag rfl<|.zs<|.sr<|.mo rfl<|.nc rfl<|.fa rfl<|.lo rfl ?_
 refine .range rm (λ_ _=>.inl) rfl (λU Z a5=>?_)
 refine .zn<|.block ?_
 refine .loop (X:=List CP×List ByteArray×Value×ay×ay×ay) (λy=>(∀p∈y.1,eT (sg y.2.2.2.2.1) p.1 p.2)/\y.2.1.Nodup/\(y.1.map (·.2)++y.2.1.map (jm M)).Perm A/\OS 24 4 bD y.2.2.1 y.1 y.2.2.2.1/\It R (λs:ByteArray=>.string s) (λp:CR×dy=>.agg p.1.cells.toArray) (.map (some d)) M U y.2.1 y.2.2.2.2.2) (λy=>[(0,pT g),(3,y.2.2.1),(13,U)]) (λy=>[y.2.2.2.2.2,y.2.2.2.1,y.2.2.2.2.1]) (λy=>y.2.1.length) ([],M.map (·.1),sZ,[],[],Z) ⟨by simp,i.nd,by rw[Ag i.nd];exact H,OS.nil,a5⟩ kE.c.c.c rH ?_
 rintro⟨ps,a8,vo,To,m,Ti⟩ ⟨l,t,f,j,L⟩
 simp only at l t f j L⊢
 have i2:=j.aF
 have Q:=f.length_eq
 simp only[List.length_append,List.length_map]at Q
 refine .sr ?_
 refine .kq L (λ_ _=>.inl) rfl (λb rest a0 hf ht=>?_)
 refine .q .extract<|.zs ?_
 refine .cond rfl (λn=>?_) λn=>?_
 obtain⟨k,⟨C,e⟩,hk,O,N⟩:=ht n
 obtain⟨_,J,a2⟩:=hI (k,(C,e)) (iZ O)
 have i3:cB C.cells:=⟨J.dx⟩
 have a4:jm M k=e:=by simp[jm,O]
 have K:=filter_one t hk
 refine .kn<|.block<|.sr ?_
 refine .q (.entry N (λ_ _=>.inl) rfl) ?_
 refine .q .extract ?_
 refine .dM (λb5=>?_)
 refine .dA rfl rfl<|.zn<|.region<|.mo rfl<|.q (.aD rfl) ?_
 refine .bY (qC C e _ (J.mono λb o a=>.inl (hT b o a)) a2) (λv W B=>?_)
 obtain⟨D,rfl,r⟩:=B
 have i4:cB D.cells:=⟨r.dx⟩
 refine .iQ (λa9=>?_)
 refine .append j (RS.lits (xs:=[(D,e)]) rfl (by simp[bD,CR.cells]) (by have:=r.dx;simpa[bD]using this)) (by simp;omega) (λv5 Y a1=>?_)
 refine .ag rfl<|.nil<|bg ?_
 ·refine aS (ps++[(D,e)],a8.filter λk'=>decide (k'≠k),v5,Y,W++m,a0) ⟨λp hp=>?_,t.sublist List.filter_sublist,?_,a1,N.it⟩ ?_ kE.c.c.c ((cw [3,3,1,2]).trans (bJ.cW (by simp[take,bM])))
  ·simp only
   rcases List.mem_append.1 hp with hp|hp
   ·exact(l p hp).mono λb o a=>B2 a
   ·simp only[List.mem_singleton]at hp;subst hp
    exact r.mono λb o a=>B1 a
  ·simp only
   refine List.Perm.trans ?_ f
   rw[List.map_append,List.append_assoc]
   refine List.Perm.append_left _ ?_
   have:=(K.map (jm M)).symm
   rw[List.map_cons,a4]at this
   exact this
  ·have:=K.length_eq
   simp only[List.length_cons]at this
   simp only;omega
 have a7:=hf n
 subst a7
 simp only[List.map_nil,List.append_nil]at f
 have a3:bR prog 149 [] R (λp:CP=>Value.agg (bD p).toArray) ji mc:=λx y hx hy V _=>qp x y V hx hy
 refine .exit<|aT<|aW<|aU<|aI<|.sr<|.mo rfl ?_
 refine .aQ (SCL.il (caps:=[]) vo ps To _ j (by simp at Q;omega) a3 (λp hp=>(l p hp).dx) qo) (λu F hu=>?_)
 obtain⟨rfl,ys,I,S,a6⟩:=hu
 have i5:=I.aF
 refine .z<|.mo rfl<|.az rfl ?_
 refine .ret (bb _ (.one (.tmp rfl)) ((cw [1,1]).trans (bJ.cW (H':=[F++m]) (by simp[take,bM]))) ?_)
 ·exact⟨_,rfl,ys,F,m,rfl,I,λp hp=>l p (S.mem_iff.1 hp),(S.map _).trans f,a6.ordered⟩
set_option linter.unusedSimpArgs false
def eD(a b:bs):Int:=if dH a b then-1 else if dH b a then 1 else 0
theorem AS:ap eD=ap gn:=by
 funext a b
 unfold ap eD
 by_cases c:dH a b=true
 ·rw[acI c];unfold dH at c;rw[c];rfl
 ·rw[acH c]
  unfold dH at c
  have d:decide (gn a b<0)=false:=by simpa using c
  rw[d]
  split<;>rfl
theorem Bl(a b:bs)(R:aC):Spec prog 239 [.agg a.enc.toArray,.agg b.enc.toArray] R [] λv H'=>v=.int .i64 (eD a b)/\H'=[]:=by
 refine Spec.body func239 rfl results239 ntmps239 rfl ?_
 refine .sr ?_
 refine .cQ rfl (λf=>?_)
 refine .cQ rfl (λg=>?_)
 refine .ag rfl<|.zs<|.block<|.sr<|.q (.aD rfl)<|.q (.aD rfl) ?_
 refine .bx (pE a b _) (λv e=>?_)
 subst e
 refine .az rfl ?_
 refine .cond rfl (λc=>?_) λc=>?_
 refine .sr<|.az rfl ?_
 refine .ret (bu (bq (cf rfl ?_)))
 ·exact⟨by unfold eD;rw[acI c],rfl⟩
 refine .sr<|.q (.aD rfl)<|.q (.aD rfl) ?_
 refine .bx (pE b a _) (λv e=>?_)
 subst e
 refine .az rfl ?_
 refine .cond rfl (λd=>?_) λd=>?_
 refine .sr<|.az rfl ?_
 refine .ret (bu (bq (cf rfl ?_)))
 ·exact⟨by unfold eD;rw[acH (by rw[c];simp),acI d],rfl⟩
 refine .skip<|bg<|aI<|.sr<|.az rfl ?_
 refine .ret (cf rfl ?_)
 ·exact⟨by unfold eD;rw[acH (by rw[c];simp),acH (by rw[d];simp)],rfl⟩
abbrev kh(ys:List bs):Prop:=ys.Pairwise λp q=>ap gn q p=false
theorem nX{α:Type} [DecidableEq α]{k:α}:∀{l:List α},l.Nodup->k∈l->l.Perm (k::l.filter λk'=>decide (k'≠k))
 |[],_,h=>by cases h
 |x::l,hn,h=>by
  have b:=List.nodup_cons.1 hn
  by_cases a:x=k
  ·subst a
   have:l.filter (λk'=>decide (k'≠x))=l:=List.filter_eq_self.2 λy f=>by
    have:y≠x:=λe=>b.1 (e▸f)
    simp[this]
   rw[acO]
   simp only[ne_eq,not_true_eq_false,decide_false,Bool.false_eq_true,if_false]
   have c:l.filter (λk'=> !decide (k'=x))=l:=by simpa using this
   simp only[decide_not,c]
   exact .refl _
  ·have d:k∈l:=by
    rcases List.mem_cons.1 h with e|h
    ·exact absurd e.symm a
    ·exact h
   have:=(nX b.2 d).cons x
   rw[acO,acI (by simp[a])]
   exact this.trans (List.Perm.swap k x _)
theorem nZ{α:Type}{a b c:α->Bool}:∀L:List α,(∀x∈L,c x=(a x||b x)/\¬(a x=true/\b x=true))->(L.filter c).Perm (L.filter a++L.filter b)
 |[],_=>by simp
 |x::L,h=>by
  obtain⟨e,f⟩:=h x (by simp)
  have d:=nZ L λy g=>h y (by simp[g])
  rw[acO,acO,acO,e]
  cases ha:a x<;>cases hb:b x
  ·simpa using d
  ·simpa using(d.cons x).trans List.perm_middle.symm
  ·simpa using d.cons x
  ·exact absurd ⟨ha,hb⟩ f
def oY(S:cZ)(f:bs)(r:Int)(ys:List bs):Prop:=ys.Perm (if scan S r then jJ S f r else [])/\kh ys
abbrev strict(ys:List bs):Prop:=ys.Pairwise λp q=>dH p q=true
theorem Ct{a b:bs}:ap gn a b=dH a b:=rfl
theorem lT{a b:bs}(h:a≠b):dH a b=true\/dH b a=true:=by
 unfold dH
 have d:=fB.sw b a
 have c:gn a b≠0:=λe=>h (pH e)
 rcases Int.lt_or_lt_of_ne c with h4|h4
 ·exact .inl (decide_eq_true h4)
 ·exact .inr (decide_eq_true (by omega))
theorem pF{a b:bs}(h:dH a b=true):dH b a=false:=by
 unfold dH at *
 have c:=fB.sw b a
 have h:=bp h
 exact decide_eq_false (by omega)
theorem ns(a:bs):dH a a=false:=by
 unfold dH
 have:=fB.refl a
 exact decide_eq_false (by omega)
theorem pG(x y z:bs)(a:dH x y=true)(b:dH y z=true):dH x z=true:=by
 unfold dH at *
 exact decide_eq_true (fB.t2 x y z (by have:=bp a;omega) (bp b))
theorem strict.order{ys:List bs}(h:strict ys):kh ys:=h.imp λ{p q} a=>pF a
theorem strict.of{ys:List bs}(h:kh ys)(c:ys.Nodup):strict ys:=by
 refine(h.and c).imp λ{p q} ⟨a,b⟩=>?_
 rcases lT b with h3|h3
 ·exact h3
 ·rw[Ct,h3]at a;cases a
theorem Bj{xs ys:List bs}(a:ys.Perm xs)(b:kh xs)(c:kh ys):ys=xs:=qu fB (λ_ _=>pH) a b c
theorem o6{S:cZ}{r:Int}:scan S r=true↔S.dk<=r/\r<=S.head:=by unfold scan;simp
structure iP(S:cZ)(cs:List cN)(i:Nat)(W:List bs):Prop where
 pm:W.Perm (jJ ⟨(cs.take i).foldl (fl (S.head+1)) S.rows,S.head+1,S.dk⟩ ⟨⟨#[]⟩,⟨#[]⟩,⟨#[]⟩,⟨#[]⟩,⟨#[]⟩,⟨#[]⟩,⟨#[]⟩⟩ (S.head+1))
 st:strict W
theorem Cu(t:bs):nt (⟨⟨#[]⟩,⟨#[]⟩,⟨#[]⟩,⟨#[]⟩,⟨#[]⟩,⟨#[]⟩,⟨#[]⟩⟩:bs) t=true:=by unfold nt;simp
theorem kI{S:cZ}{r:Int}:jJ S (⟨⟨#[]⟩,⟨#[]⟩,⟨#[]⟩,⟨#[]⟩,⟨#[]⟩,⟨#[]⟩,⟨#[]⟩⟩:bs) r=(S.rows.filter λx=>x.there r).map (·.t):=by
 unfold jJ
 congr 1
 exact acR λx _=>by rw[Cu,Bool.and_true]
theorem pD{S:cZ}(a:eH S){x:aM}(b:x∈S.rows):x.there S.head=(x.to==0):=by
 obtain⟨_,c,d,e⟩:=a.ok x b
 unfold aM.there
 rw[Bool.eq_iff_iff]
 simp only[acM,acN,acP,beq_iff_eq]
 omega
theorem iP.start{S:cZ}(b:eH S){cs:List cN}{W:List bs}(h:oY S (⟨⟨#[]⟩,⟨#[]⟩,⟨#[]⟩,⟨#[]⟩,⟨#[]⟩,⟨#[]⟩,⟨#[]⟩⟩:bs) S.head W):iP S cs 0 W:=by
 have d:scan S S.head=true:=o6.2 ⟨b.h1,Int.le_refl _⟩
 have a:=h.1
 rw[acI d]at a
 refine⟨a.trans (.of_eq ?_),strict.of h.2 (a.nodup_iff.2 (b.Cq _ _))⟩
 rw[kI,kI,List.take_zero,List.foldl_nil]
 simp only
 congr 1
 refine acR λx c=>?_
 rw[pD b c]
 obtain⟨_,a,e,f⟩:=b.ok x c
 unfold aM.there
 rw[Bool.eq_iff_iff]
 simp only[acM,acN,acP,beq_iff_eq]
 omega
theorem iP.next{S:cZ}(k:eH S){cs:List cN}(m:jP S cs){i:Nat}{c:cN}(r:cs[i]? =some c){W:List bs}(h:iP S cs i W):iP S cs (i+1) (if c.put then iX dH c.t (W.filter λt=>decide (t≠c.t))else W.filter λt=>decide (t≠c.t)):=by
 have s:=k.fold (m.take i)
 have n:cs.take (i+1)=cs.take i++[c]:=by rw[List.take_add_one,r];rfl
 have E:c.t∉(cs.take i).map (·.t):=by
  have u:=(m.take (i+1)).nd
  rw[n,List.map_append,List.nodup_append]at u
  intro l
  exact u.2.2 _ l _ (by simp) rfl
 obtain⟨L,j⟩:∃L,L=(cs.take i).foldl (fl (S.head+1)) S.rows:=⟨_,rfl⟩
 have G:fc L c.t=fc S.rows c.t:=by rw[j];exact pp _ _ E
 have D:c∈cs:=aG r
 have b:=h.pm
 rw[kI]at b
 rw[<-j]at s b
 simp only at b
 have o:(cs.take (i+1)).foldl (fl (S.head+1)) S.rows=fl (S.head+1) L c:=by rw[n,List.foldl_append,j];rfl
 have d:∀x∈L,x.there (S.head+1)=(x.to==0):=λx a=>pD s a
 cases hp:c.put with
 |true=>
  have v:c.t∉W:=by
   intro l
   obtain⟨x,a,H⟩:=List.mem_map.1 (b.mem_iff.1 l)
   obtain⟨w,z⟩:=List.mem_filter.1 a
   rw[d x w]at z
   have p:=m.mq c D hp
   rw[<-G]at p
   exact po.1 p x w H (by simpa using z)
  have C:(W.filter λt=>decide (t≠c.t))=W:=List.filter_eq_self.2 λt F=>by
   have:t≠c.t:=λe=>v (e▸F)
   simpa using this
  rw[acI rfl,C]
  refine⟨?_,n7 pG h.st λy I=>lT λe=>v (e▸I)⟩
  refine mN.trans ?_
  rw[kI,o]
  unfold fl
  rw[acI hp]
  simp only[List.filter_append,List.map_append]
  refine List.Perm.trans (b.cons c.t) ?_
  have:aM.there ⟨c.t,S.head+1,0⟩ (S.head+1)=true:=by unfold aM.there;simp
  rw[acO,acI this]
  exact(List.perm_append_singleton _ _).symm
 |false=>
  rw[acH (by simp)]
  refine⟨?_,h.st.sublist List.filter_sublist⟩
  refine(b.filter _).trans (.of_eq ?_)
  rw[kI,o]
  unfold fl
  rw[acH (by simp[hp])]
  simp only
  rw[List.filter_map,List.filter_map,List.map_map,List.filter_filter]
  have A:L.filter ((λx=>x.there (S.head+1))∘aM.close c.t (S.head+1))=L.filter λx=>decide (x.t≠c.t)&&x.there (S.head+1):=acR λx a=>by
   simp only[Function.comp]
   rw[d x a]
   unfold aM.close aM.fL
   by_cases f:x.t=c.t
   ·by_cases q:x.to=0
    ·have B:S.head+1≠0:=by have:=k.h0;have:=k.h1;omega
     simp[f,q,aM.there,B]
    ·have g:=d x a
     simp[f,q,g]
   ·have g:=d x a
    simp[f,g]
  rw[A]
  refine List.map_congr_left λx a=>?_
  simp only[Function.comp]
  unfold aM.close
  split<;>rfl
theorem iP.done{S:cZ}(d:eH S){cD no:List bs}{cs:List cN}(e:o8 S cD no cs=0){W Z:List bs}(h:iP S cs cs.length W)(a:oY (nr S cD no cs) (⟨⟨#[]⟩,⟨#[]⟩,⟨#[]⟩,⟨#[]⟩,⟨#[]⟩,⟨#[]⟩,⟨#[]⟩⟩:bs) (S.head+1) Z):Z=W:=by
 have g:nr S cD no cs=⟨cs.foldl (fl (S.head+1)) S.rows,S.head+1,S.dk⟩:=by unfold nr;rw[acI e]
 rw[g]at a
 have f:scan ⟨cs.foldl (fl (S.head+1)) S.rows,S.head+1,S.dk⟩ (S.head+1)=true:=o6.2 ⟨by have:=d.h1;simp only;omega,Int.le_refl _⟩
 have b:=a.1
 rw[acI f]at b
 have c:=h.pm
 rw[List.take_length]at c
 exact Bj (b.trans c.symm) h.st.order a.2
theorem ly{a b:bs}:eD a b<0↔gn a b<0:=by
 have h:=congrFun (congrFun AS a) b
 unfold ap at h
 exact decide_eq_decide.1 h
theorem kx(a b:bs):0<eD a b↔eD b a<0:=by
 unfold eD
 have c:= @pF b a
 cases ha:dH a b<;>cases hb:dH b a<;>simp_all
theorem oL:dr eD where
 sw x y:=by rw[kx]
 tr x y z h1 h2:=by
  have d:¬eD y x<0:=λe=>by have:=(kx x y).2 e;omega
  have a:¬eD z y<0:=λe=>by have:=(kx y z).2 e;omega
  rw[ly]at d a
  have f:=fB.sw y x
  have g:=fB.sw x y
  have b:=fB.sw y z
  have c:=fB.sw z y
  have h:=fB.tr x y z (by omega) (by omega)
  have i:=fB.sw z x
  have j:¬eD z x<0:=by rw[ly];omega
  have:=kx x z
  omega
 tl x y z h1 h2:=by
  have a:¬eD z y<0:=λe=>by have:=(kx y z).2 e;omega
  rw[ly]at a h1⊢
  have b:=fB.sw y z
  have c:=fB.sw z y
  exact fB.tl x y z h1 (by omega)
theorem Bk{a b:bs}(h:eD a b=0):a=b:=by
 unfold eD at h
 split at h
 ·omega
 ·split at h
  ·omega
  ·rename_i d e
   exact Classical.byContradiction λc=>by rcases lT c with h3|h3<;>contradiction
def jB(a b:aM):Int:=dE [eD a.t b.t,dU a.fr b.fr]
theorem oW:dr jB:=(oL.map aM.t).cons ((oa.map aM.fr).cons .nil)
def jc(a b:aM):Bool:=dH a.t b.t||decide (a.t=b.t)&&decide (a.fr<b.fr)
theorem mR(a b:aM):ap jB a b=jc a b:=by
 unfold ap jB jc
 rw[jw,jw]
 rw[Bool.eq_iff_iff]
 simp only[acN,acP,acM]
 by_cases h:a.t=b.t
 ·rw[acI (by rw[h];exact oL.refl _)]
  rw[h,ns]
  unfold dU dE
  simp
  split
  ·split<;>omega
  ·split
   ·split<;>omega
   ·split<;>omega
 ·rw[acH λe=>h (Bk e),ly]
  unfold dH
  simp[h]
abbrev lH(ys:List aM):Prop:=ys.Pairwise λp q=>ap jB q p=false
abbrev m8(ys:List aM):Prop:=ys.Pairwise λp q=>jc p q=true
theorem BH{a b:aM}(h:jc a b=true):jc b a=false:=by
 rw[<-mR]at *
 unfold ap at *
 have c:=oW.sw b a
 have h:=bp h
 exact decide_eq_false (by omega)
theorem m8.order{ys:List aM}(h:m8 ys):lH ys:=h.imp λ{p q} a=>by rw[mR];exact BH a
def lJ(head dk:Int)(x:aM):Bool:=iY x.t&&(decide (1<=x.fr)&&(decide (x.fr<=head)&&(x.to==0||(decide (x.fr<x.to)&&(decide (dk<x.to)&&decide (x.to<=head))))))
def jG(x a:aM):Bool:=if x.t=a.t then !(a.to==0)&&decide (a.to<=x.fr)else dH a.t x.t
def BG(head dk:Int)(xs:List aM)(i:Nat):Prop:=∀j x,j<i->xs[j]? =some x->lJ head dk x=true/\∀a,0<j->xs[j-1]? =some a->jG x a=true
def BN(xs:List aM)(head dk:Int):Prop:=(dk<=head/\head<=4611686018427387903/\xs.length<=4096)/\BG head dk xs xs.length
theorem oZ{head dk:Int}{x:aM}:lJ head dk x=true↔iY x.t=true/\1<=x.fr/\x.fr<=head/\(x.to=0\/(x.fr<x.to/\dk<x.to/\x.to<=head)):=by
 unfold lJ
 simp
theorem Dc{y x a:aM}{head dk:Int}(h:lJ head dk x=true)(f:jG y x=true)(d:jG x a=true):jG y a=true:=by
 obtain⟨_,_,_,i⟩:=oZ.1 h
 unfold jG at *
 by_cases c:y.t=x.t
 ·rw[acI c]at f
  by_cases b:x.t=a.t
  ·rw[acI b]at d
   rw[acI (c.trans b)]
   simp only[acM,Bool.not_eq_true',beq_eq_false_iff_ne,acN]at f d⊢
   omega
  ·rw[acH b]at d
   rw[acH (by rw[c];exact b),c]
   exact d
 ·rw[acH c]at f
  by_cases b:x.t=a.t
  ·rw[<-b,acH c];exact f
  ·rw[acH b]at d
   have g:=pG _ _ _ d f
   rw[acH]
   ·exact g
   ·intro e
    rw[e,ns]at g
    cases g
theorem eH.two{S:cZ}(c:eH S){ys:List aM}(d:ys.Perm S.rows):ys.Pairwise λx y=>x.t=y.t->(x.to≠0/\x.to<=y.fr)\/(y.to≠0/\y.to<=x.fr):=by
 have h:S.rows.Pairwise λx y=>x.t=y.t->(x.to≠0/\x.to<=y.fr)\/(y.to≠0/\y.to<=x.fr):=c.pw.imp λ{x y} b a=>.inl (b a)
 exact d.symm.pairwise h λ{x y} b a=>(b a.symm).symm
theorem eH.strict{S:cZ}(b:eH S){ys:List aM}(c:ys.Perm S.rows)(ho:lH ys):m8 ys:=by
 refine((b.two c).and ho).imp_of_mem λ{x y} f h g=>?_
 obtain⟨d,a⟩:=g
 rw[mR]at a
 obtain⟨_,_,_,i⟩:=b.ok x (c.mem_iff.1 f)
 obtain⟨_,_,_,j⟩:=b.ok y (c.mem_iff.1 h)
 unfold jc at a⊢
 simp only[Bool.or_eq_false_iff,Bool.and_eq_false_iff,decide_eq_false_iff_not]at a
 simp only[acP,acM,acN]
 by_cases e:x.t=y.t
 ·have k:=d e
  refine .inr ⟨e,?_⟩
  rcases a.2 with h4|h4
  ·exact absurd e.symm h4
  ·omega
 ·left
  rcases lT e with h5|h5
  ·exact h5
  ·rw[a.1]at h5;cases h5
theorem eH.right{S:cZ}(b:eH S){ys:List aM}(c:ys.Perm S.rows)(ho:lH ys):BN ys S.head S.dk:=by
 refine⟨⟨b.h1,b.h2,by rw[c.length_eq];exact b.len⟩,λj x s d=>⟨oZ.2 (b.ok x (c.mem_iff.1 (aG d))),λa p l=>?_⟩⟩
 have i:=List.pairwise_iff_getElem.1 (b.strict c ho)
 have k:=List.pairwise_iff_getElem.1 (b.two c)
 obtain⟨h,n⟩:=acJ.1 d
 obtain⟨g,m⟩:=acJ.1 l
 have h3:=i (j-1) j g h (by omega)
 have f:=k (j-1) j g h (by omega)
 rw[n,m]at h3 f
 obtain⟨_,_,_,o⟩:=b.ok x (c.mem_iff.1 (aG d))
 unfold jG
 unfold jc at h3
 simp only[acP,acM,acN]at h3
 split
 ·rename_i e
  have q:=f e.symm
  have r:a.fr<x.fr:=by
   rcases h3 with h3|h3
   ·rw[e,ns]at h3;cases h3
   ·exact h3.2
  simp only[acM,Bool.not_eq_true',beq_eq_false_iff_ne,acN]
  omega
 ·rename_i e
  rcases h3 with h3|h3
  ·exact h3
  ·exact absurd h3.1.symm e
end Go.Proofs.YtgppncmdpcefhaaGreatDoor
