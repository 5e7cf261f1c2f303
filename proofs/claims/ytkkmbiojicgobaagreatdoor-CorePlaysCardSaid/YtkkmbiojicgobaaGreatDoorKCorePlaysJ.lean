/- What the law 'CorePlays' uses. No condition. -/
import Derived.Test.YtkkmbiojicgobaaGreatDoorKCorePlaysA
import Derived.Test.YtkkmbiojicgobaaGreatDoorKCorePlaysB
import Derived.Test.YtkkmbiojicgobaaGreatDoorKCorePlaysE
import Derived.Test.YtkkmbiojicgobaaGreatDoorKCorePlaysF
set_option linter.unusedSimpArgs false
set_option linter.unusedVariables false
namespace Go.Proofs.YtkkmbiojicgobaaGreatDoor
set_option linter.defProp false
def ac5:=@Nat.zero_le
def ac6:=@List.length_set
def ac7:=@Nat.le_refl
def ac8:=@Nat.le_of_ble_eq_true
def ac9:=@List.length_cons
def ada:=@Nat.mod_lt
def adb:=@List.append_assoc
def ade:=@Nat.zero_add
def adf:=@List.length_append
def adg:=@List.take_add_one
def adh:=@List.length_drop
def adi:=@List.getD_eq_getElem?_getD
def adj:=@Nat.sub_self
def adk:=@List.set_append_right
def adl:=@List.set_cons_zero
def adm:=@List.nil_append
def adn:=@List.length_take
def ado:=@List.replicate_succ
def adp:=@Nat.and_two_pow_sub_one_eq_mod
open Tryz
set_option linter.unusedVariables false
set_option maxRecDepth 4000
instance O9:bL prog 301 .unsafePointer:=⟨underlying301⟩
def BI(b:Nat)(xs:List UInt8)(T:ax):Prop:=∃a vs Tb,T=(b,.cells [a,vs].toArray 234 (0,0))::Tb/\(a=.pointer none\/a=pT b)/\OS 5 1 cK vs xs Tb/\(xs=[]->vs=sZ)
theorem BI.new{b:Nat}:BI b [] (bl b [.pointer none,sZ] 234):=⟨_,_,[],rfl,.inl rfl,OS.nil,λ_=>rfl⟩
theorem yX(b:Nat)(a vs:Value)(R:au)(d:a=.pointer none\/a=pT b)(e:One vs):
  Spec prog 261 [pT b] R [bl b [a,vs] 234] λu H'=>∃T',H'=[T']/\u=.tuple #[]/\T'=(bl b [pT b,vs] 234):=by
 rcases d with rfl|rfl
 ·skip
  refine Spec.body func261 rfl results261 ntmps261 rfl ?_
  refine .sr<|.mo rfl<|.nc rfl<|.fa rfl<|.lo rfl<|.q (.qf rfl rfl) ?_
  refine .zn<|.dn<|.region<|.mo rfl<|.mo rfl ?_
  refine .q (.NR (b:=b) (E:=234) (c:=[.pointer none,vs].toArray) (fr:=(0,0)) (by simp) (by simp) (by kernel_rfl) rfl) ?_
  refine .q (.K0 func286 (by kernel_rfl) (by kernel_rfl) (by kernel_rfl) (by kernel_rfl) rfl) ?_
  refine .q (.J9 (b:=b) (E:=234) (n:=2) (c:=[.pointer none,vs].toArray) (fr:=(0,0)) (by simp) rfl (by kernel_rfl) (by kernel_rfl) rfl) ?_
  refine .nc rfl<|.fa rfl<|.cH rfl rfl<|.nil<|ed _ .none (.one [0] _) ?_
  ·exact⟨_,by simp[take];rfl,rfl,rfl⟩
 ·skip
  refine Spec.body func261 rfl results261 ntmps261 rfl ?_
  refine .sr<|.mo rfl<|.nc rfl<|.fa rfl<|.lo rfl<|.q (.qf rfl rfl) ?_
  refine .zn<|.bX<|.sr<|.mo rfl<|.nc rfl<|.fa rfl<|.lo rfl<|.mo rfl ?_
  refine .q (.KW rfl rfl (by kernel_rfl)) ?_
  refine .zn<|.bX<|.skip<|ed _ .none (.one [0] _) ?_
  ·exact⟨_,by simp[take],rfl,rfl⟩
theorem tS(b:Nat)(xs:List UInt8)(T:ax)(c:UInt8)(R:au)(h:BI b xs T)(p:xs.length<=1000000000):
  Spec prog 201 [pT b,.int .u8 (c.toNat:Int)] R [T] λu H'=>∃T',H'=[T']/\BI b (xs++[c]) T':=by
 obtain⟨a,j,k,rfl,g,e,q⟩:=h
 have m:=e.av
 have s:One a:=⟨by rcases g with rfl|rfl<;>rfl⟩
 refine Spec.cX (H':=[bl b [a,j] 234,k]) (by simp) ?_
 refine Spec.body func201 rfl results201 ntmps201 rfl ?_
 refine .sr<|.ag rfl<|.z<|.mo rfl ?_
 refine .bT (yX b a j _ g m) (λu n l=>?_)
 obtain⟨rfl,rfl⟩:=l
 refine .z<|.mo rfl<|.mo rfl<|.nc rfl<|.fa rfl<|.lo rfl<|.mo rfl ?_
 refine .hZ (λo=>?_)
 refine .append e (RS.lits (xs:=[c]) rfl (by simp[cK]) (by simp[cK,av])) (by simp;omega) (λi d f=>?_)
 have r:=f.av
 refine .nc rfl<|.fa rfl<|.cH rfl rfl<|.z<|.az rfl ?_
 refine .ret (aN _ (.one (.tmp rfl)) ((aH [1,1]).trans (aU.bu (H':=[(b,.cells [pT b,i].toArray 234 (0,0))::d]) (by simp[take,aY];exact .refl _))) ?_)
 ·exact⟨_,rfl,_,i,d,rfl,.inr rfl,f,by simp⟩
theorem p7(b:Nat)(xs:List UInt8)(T:ax)(R:au)(h:BI b xs T):
  Spec prog 202 [pT b] R [T] λu H'=>u=.string ⟨xs.toArray⟩/\H'=[]:=by
 obtain⟨a,p,f,rfl,j,e,m⟩:=h
 have B:=e.av
 have A:One a:=⟨by rcases j with rfl|rfl<;>rfl⟩
 have l:=e.le
 refine Spec.cX (H':=[bl b [a,p] 234,f]) (by simp) ?_
 by_cases d:xs=[]
 ·subst d
  have o:=m rfl
  subst o
  refine Spec.body func202 rfl results202 ntmps202 rfl ?_
  refine .sr<|.ag rfl<|.zs<|.cP [] mixed ?_
  refine .tO 0 rfl .move<|.tO 1 rfl (.nilCheck rfl)<|.tO 2 rfl (.fieldAddr rfl)<|.tO 3 rfl (.bK rfl)<|.tO 5 rfl .move<|.tO 6 rfl (.nilCheck rfl)<|.tO 7 rfl (.fieldAddr rfl)<|.tO 8 rfl (.bK rfl) ?_
  refine .tO 9 rfl (.nG rfl) ?_
  refine .sT 4 rfl ?_
  refine .q (.Nm rfl) ?_
  refine .nil (Next.sub ?_)
  refine .sT 10 rfl ?_
  refine .q (.Oa rfl rfl) ?_
  refine .nil (Next.sub ?_)
  refine .tO 11 rfl .assign ?_
  refine RA.nil (by kernel_rfl) ?_
  refine aD ?_
  refine .ret (aO rfl ?_)
  ·exact⟨rfl,rfl⟩
 ·obtain⟨y,z,k⟩:=e
  rcases k with⟨_,i,_⟩|⟨g,off,c,r,rfl,rfl,t,v,w,n⟩
  ·exact absurd i d
  ·have x:0<xs.length:=List.length_pos_iff.2 d
   refine Spec.body func202 rfl results202 ntmps202 rfl ?_
   refine .sr<|.ag rfl<|.zs<|.cP [10] mixed ?_
   refine .tO 0 rfl .move<|.tO 1 rfl (.nilCheck rfl)<|.tO 2 rfl (.fieldAddr rfl)<|.tO 3 rfl (.bK rfl)<|.tO 5 rfl .move<|.tO 6 rfl (.nilCheck rfl)<|.tO 7 rfl (.fieldAddr rfl)<|.tO 8 rfl (.bK rfl) ?_
   refine .tO 9 rfl (.nG rfl) ?_
   refine .sT 4 rfl ?_
   refine .q (.Nl (by omega) rfl) ?_
   refine .nil (Next.sub ?_)
   refine .sT 10 rfl ?_
   refine .N9 (b:=g) (off:=off) (c:=c) (xs:=xs) d n (by omega) (by kernel_rfl) l rfl rfl (λs=>?_)
   refine .nil (Next.mod rfl ?_)
   refine .tK 11 rfl .assign ?_
   refine RA.nil (by kernel_rfl) ?_
   refine aD ?_
   refine .ret (aO rfl ?_)
   ·exact⟨rfl,rfl⟩
def kW:ByteArray:=⟨#[65,66,67,68,69,70,71,72,73,74,75,76,77,78,79,80,81,82,83,84,85,86,87,88,89,90,97,98,99,100,101,102,103,104,105,106,107,108,109,110,111,112,113,114,115,116,117,118,119,120,121,122,48,49,50,51,52,53,54,55,56,57,45,95]⟩
theorem yG{n:Nat}(h:n<kW.size):kW[n]=cN n:=by
 have a:n<64:=h
 have:∀k:Fin 64,kW[k.val]'(k.isLt)=cN k.val:=by decide+kernel
 exact this ⟨n,a⟩
theorem tn(n:Nat):kW[n % 2^6]'(ada _ (by decide))=cN n:=(yG _).trans (KJ n)
def kR(l:List UInt8):Nat×Nat×List UInt8:=l.foldl jj (0,0,[])
theorem uG:∀(n h:Nat),(emit h n).length=n/6:=by
 intro n
 induction n using Nat.strongRecOn with
 |_ n ih=>
  intro h
  by_cases a:6<=n
  ·rw[nl a,ac9,ih (n-6) (by omega)];omega
  ·rw[oJ a];simp;omega
theorem Nu(l:List UInt8):(kR l).2.1<6/\(kR l).1<18446744073709551616/\(kR l).2.2.length<=2*l.length:=by
 unfold kR
 suffices h:∀(l:List UInt8) (s:Nat×Nat×List UInt8),s.2.1<6->s.1<18446744073709551616->(l.foldl jj s).2.1<6/\(l.foldl jj s).1<18446744073709551616/\(l.foldl jj s).2.2.length<=s.2.2.length+2*l.length by
  have:=h l (0,0,[]) (by decide) (by decide)
  simpa using this
 intro l
 induction l with
 |nil=>intro s b d;exact⟨b,d,by simp⟩
 |cons c l ih=>
  intro s b d
  have a:=ih (jj s c) (by unfold jj;simp only;omega) (by unfold jj held;simp only;exact ada _ (by decide))
  rw[List.foldl_cons]
  refine⟨a.1,a.2.1,?_⟩
  have e:(jj s c).2.2.length<=s.2.2.length+2:=by
   unfold jj
   simp only[adf,uG]
   omega
  have:=a.2.2
  simp only[ac9]
  omega
theorem Nv{l:List UInt8}{i:Nat}{c:UInt8}(h:l[i]? =some c):kR (l.take (i+1))=jj (kR (l.take i)) c:=by
 unfold kR
 rw[adg,h]
 simp
theorem Kt{h:Nat}{c:UInt8}:h*2^8 % eE|||c.toNat=held h c:=by
 have a:=c.toNat_lt
 have e:h*2^8 % eE=(h % 2^56)*2^8:=by unfold eE;omega
 rw[e,wL (by omega)]
 unfold held
 omega
theorem tM(v:Value)(xs:List UInt8)(R:au)(h:RS R 1 cK v xs)(V:xs.length<=1000000):
  Spec prog 149 [v] R [] λu H'=>u=.string ⟨(dv xs).toArray⟩/\H'=[]:=by
 obtain⟨H,G,rfl⟩:=h.val
 refine Spec.body func149 rfl results149 ntmps149 rfl ?_
 refine .sr<|.ag rfl<|.z ?_
 refine .cG (λe=>?_)
 refine .z<|.ag rfl<|.ag rfl<|.zs<|.sr<|.mo rfl<|.q (.di h) ?_
 refine .mo rfl<|.zn<|.block ?_
 refine .loop (X:=Nat×ax) (λy=>y.1<=xs.length/\BI e (kR (xs.take y.1)).2.2 y.2) (λy=>[(3,pT e),(4,.int .u64 ((kR (xs.take y.1)).1:Nat)),(5,.int .i64 ((kR (xs.take y.1)).2.1:Nat)),(8,.slice H xs.length G),(9,iN xs.length),(10,iN y.1)]) (λy=>[y.2]) (λy=>xs.length-y.1) (0,_) ⟨ac5 _,BI.new⟩ kE.c.c.c.c.c.c rH ?_
 rintro⟨i,T⟩ ⟨K,d⟩
 simp only at K d⊢
 obtain⟨N,I,S⟩:=Nu (xs.take i)
 have Y:(xs.take i).length<=i:=by rw[adn];omega
 obtain⟨s,D⟩:∃s,s=kR (xs.take i):=⟨_,rfl⟩
 rw[<-D]at N I S d⊢
 refine .sr<|.q .lss<|.zs ?_
 refine .cond rfl (λt=>?_) λt=>?_
 have E:i<xs.length:=dT t
 obtain⟨c,F⟩:=dR E
 have U:=c.toNat_lt
 have C:=Nv F
 rw[<-D]at C
 have J:held s.1 c<eE:=ada _ (by decide)
 refine .kn<|.seq<|.block<|.sr ?_
 refine .ct i h F (λZ=>?_)
 refine .lo rfl<|.ag rfl<|.z<|.mo rfl ?_
 refine .q (.qJ (a:=s.1) (n:=8) rfl rfl (by decide)) ?_
 refine .mo rfl ?_
 refine .q (.qO rfl (by unfold eE;omega)) ?_
 refine .q (.wK rfl rfl (ada _ (by decide)) (by unfold eE;omega)) ?_
 rw[Kt]
 refine .ag rfl<|.z<|.mo rfl ?_
 refine .ia (s.2.1+8) .add ?_
 refine .az rfl<|.block ?_
 refine .loop (X:=Nat×List UInt8×ax) (λy=>y.1<14/\y.1 % 6=(s.2.1+8) % 6/\y.2.1++emit (held s.1 c) y.1=s.2.2++emit (held s.1 c) (s.2.1+8)/\BI e y.2.1 y.2.2) (λy=>[(3,pT e),(4,.int .u64 (held s.1 c:Nat)),(5,iN y.1),(8,.slice H xs.length G),(9,iN xs.length),(10,iN i)]) (λy=>[y.2.2]) (λy=>y.1) (s.2.1+8,s.2.2,T) ⟨by simp only;omega,rfl,rfl,d⟩ kE.c.c.c.c.c.c rH ?_
 clear d T
 rintro⟨n,o,T⟩ ⟨M,Q,j,d⟩
 simp only at M Q j d⊢
 have W:o.length<=2*i+4:=by
  have:=congrArg List.length j
  simp only[adf,uG]at this
  omega
 refine .seq<|.sr<|.mo rfl<|.q .geq<|.zn ?_
 refine .cond rfl (λw=>?_) λw=>?_
 have A:6<=n:=by have:=bq w;omega
 refine .kn<|.seq<|.block<|.region<|.mo rfl<|.mo rfl ?_
 refine .ia (n-6) .sub ?_
 refine .q (.xX rfl rfl (by omega)) ?_
 refine .q (.ra (b:=63) rfl rfl (Nat.lt_of_le_of_lt (Nat.div_le_self _ _) J) (by decide)) ?_
 rw[show(63:Nat)=2^6-1 from rfl,adp]
 have B:=tn (held s.1 c/2^(n-6))
 refine .q (aP.cast (v':=.int .u8 ((cN (held s.1 c/2^(n-6))).toNat:Int)) (.iG (p:=kW) (held s.1 c/2^(n-6) % 2^6) (ada _ (by decide))) (by rw[B])) ?_
 refine .bT (tS e o T (cN (held s.1 c/2^(n-6))) _ d (by omega)) (λu l f=>?_)
 refine .nil<|bw<|aD<|.region<|.mo rfl ?_
 refine .ia (n-6) .sub ?_
 refine .ag rfl<|.nil ?_
 ·exact bd (n-6,o++[cN (held s.1 c/2^(n-6))],l) ⟨by simp only;omega,by simp only;omega,by rw[<-j,nl A];simp,f⟩ (by simp only;omega) kE.c.c.c.c.c.c rH
 have A:¬6<=n:=by have:=bi w;omega
 rw[oJ A,List.append_nil]at j
 have O:n=(s.2.1+8) % 6:=by omega
 refine .exit<|bE<|bH<|bF<|bw<|aD<|.region ?_
 refine .ia (i+1) .add ?_
 refine .mo rfl<|.nil ?_
 ·exact bd (i+1,T) ⟨E,by rw[C];unfold jj;simp only;rw[<-j];exact d⟩ (by simp only;omega) (by simp only[C,jj];rw[<-O];exact kE.c.c.c.c.c.c) rH
 have L:i=xs.length:=by have:=bi t;omega
 have g:nv s=dv xs:=by
  rw[D,L,List.take_length]
  have:=uJ xs 0 []
  simpa[kR]using this
 unfold nv at g
 refine .exit<|bE<|bH<|bF<|aD<|.seq<|.sr<|.mo rfl<|.q .gtr<|.zn ?_
 refine .cond rfl (λx=>?_) λx=>?_
 have r:0<s.2.1:=by simp at x;omega
 rw[if_pos r]at g
 refine .region<|.mo rfl<|.mo rfl ?_
 refine .ia (6-s.2.1) .sub ?_
 refine .q (.qJ rfl rfl (by omega)) ?_
 refine .q (.ra (b:=63) rfl rfl (ada _ (by decide)) (by decide)) ?_
 rw[show(63:Nat)=2^6-1 from rfl,adp]
 have B:=tn (s.1*2^(6-s.2.1) % eE)
 refine .q (aP.cast (v':=.int .u8 ((cN (s.1*2^(6-s.2.1))).toNat:Int)) (.iG (p:=kW) (s.1*2^(6-s.2.1) % eE % 2^6) (ada _ (by decide))) (by rw[B,ie (n:=s.1*2^(6-s.2.1) % eE) (m:=s.1*2^(6-s.2.1)) (by unfold eE;omega)])) ?_
 refine .bT (tS e s.2.2 T _ _ d (by omega)) (λu l f=>?_)
 rw[g]at f
 refine .z ?_
 first
  |refine aF.call [0] (p7 e (dv xs) T _ d) (λu H' k=>?_)
  |refine aF.call [0] (p7 e (dv xs) l _ f) (λu H' k=>?_)
 obtain⟨rfl,rfl⟩:=k
 refine .az rfl ?_
 refine .ret (aO rfl ?_)
 ·exact⟨rfl,rfl⟩
 have r:¬0<s.2.1:=by simp at x;omega
 rw[if_neg r,List.append_nil]at g
 rw[g]at d
 refine .kn<|.sr ?_
 first
  |refine aF.call [0] (p7 e (dv xs) T _ d) (λu H' k=>?_)
  |refine aF.call [0] (p7 e (dv xs) l _ f) (λu H' k=>?_)
 obtain⟨rfl,rfl⟩:=k
 refine .az rfl ?_
 refine .ret (aO rfl ?_)
 ·exact⟨rfl,rfl⟩
set_option linter.unusedSimpArgs false
theorem lG(n:Nat)(h:n<64)(R:au):Spec prog 170 [iN n] R [] λv H'=>v=.string ⟨#[cN n]⟩/\H'=[]:=by
 have a:kW.extract n (n+1)=⟨#[cN n]⟩:=by
  have e:∀k:Fin 64,kW.extract k.val (k.val+1)=⟨#[cN k.val]⟩:=by decide+kernel
  exact e ⟨n,h⟩
 refine Spec.body func170 rfl results170 ntmps170 rfl ?_
 refine .sr<|.ag rfl<|.z<|.mo rfl<|.mo rfl ?_
 refine .ia (n+1) .add ?_
 refine .q (.sL (s:=kW) n (n+1) ⟨_,rfl⟩ ⟨_,rfl⟩ (by omega) h) ?_
 rw[a]
 refine .az rfl ?_
 refine .ret (aO rfl ?_)
 ·exact⟨rfl,rfl⟩
theorem mC:∀l:List UInt8,(dv l).length<=2*l.length
 |a::b::c::r=>by have:=mC r;simp only[dv,ac9];omega
 |[a,b]=>by simp[dv]
 |[a]=>by simp[dv]
 |[]=>by simp[dv]
theorem fy(l:List UInt8):(⟨l.toArray⟩:ByteArray).size=l.length:=by simp[ByteArray.size]
theorem kO(v:Value)(xs:List UInt8)(R:au)(h:RS R 1 cK v xs)(T:xs.length<=1000000):
  Spec prog 106 [v] R [] λu H'=>u=.string ⟨(dv xs).toArray⟩/\H'=[]:=by
 have S:=mC xs
 refine Spec.body func106 rfl results106 ntmps106 rfl ?_
 refine .sr<|.ag rfl<|.z<|.ag rfl<|.zs<|.block ?_
 refine .loop (X:=List UInt8×Value×List UInt8) (λy=>RS R 1 cK y.2.1 y.1/\y.1.length<=xs.length/\y.2.2++dv y.1=dv xs) (λy=>[(0,y.2.1),(3,.string ⟨y.2.2.toArray⟩)]) (λy=>[]) (λy=>y.1.length) (xs,v,[]) ⟨h,ac7 _,rfl⟩ kE.c.c rH ?_
 rintro⟨r,vr,o⟩ ⟨i,F,g⟩
 simp only at i F g⊢
 have U:=i.av
 obtain⟨M,L,rfl⟩:=i.val
 have B:o.length+(dv r).length<=2*xs.length:=by have:=congrArg List.length g;rw[adf]at this;omega
 refine .seq<|.sr<|.mo rfl<|.q (.di i) ?_
 refine .q .geq<|.zn ?_
 refine .cond rfl (λw=>?_) λw=>?_
 obtain⟨a,b,c,q,rfl⟩:∃a b c q,r=a::b::c::q:=by
  have j:3<=r.length:=by have:=bq w;omega
  match r,j with
  |a::b::c::q,_=>exact⟨a,b,c,q,rfl⟩
 have D:=a.toNat_lt
 have G:=b.toNat_lt
 have Q:=c.toNat_lt
 simp only[dv,ac9]at B g
 refine .kn<|.block<|.seq ?_
 refine .iA mixed (by kernel_rfl) ?_
 refine .mo rfl ?_
 refine .ct 0 i (show(a::b::c::q)[0]? =some a from rfl) (λV=>?_)
 refine .lo rfl ?_
 refine .q (.i64 ((a.toNat:Nat):Int) .gW ⟨rfl,by omega,by omega⟩) ?_
 refine .ia (a.toNat*65536) .mul ?_
 refine .mo rfl ?_
 refine .ct 1 i (show(a::b::c::q)[1]? =some b from rfl) (λW=>?_)
 refine .lo rfl ?_
 refine .q (.i64 ((b.toNat:Nat):Int) .gW ⟨rfl,by omega,by omega⟩) ?_
 refine .ia (b.toNat*256) .mul ?_
 refine .ia (a.toNat*65536+b.toNat*256) .add ?_
 refine .mo rfl ?_
 refine .ct 2 i (show(a::b::c::q)[2]? =some c from rfl) (λY=>?_)
 refine .lo rfl ?_
 refine .q (.i64 ((c.toNat:Nat):Int) .gW ⟨rfl,by omega,by omega⟩) ?_
 refine .ia (a.toNat*65536+b.toNat*256+c.toNat) .add ?_
 refine .ag rfl<|.z ?_
 obtain⟨x,k⟩:∃x,x=a.toNat*65536+b.toNat*256+c.toNat:=⟨_,rfl⟩
 rw[<-k]
 have m:cN (x/262144)=cN (a.toNat/4):=ie (by omega)
 have n:cN (x/4096 % 64)=cN (a.toNat % 4*16+b.toNat/16):=ie (by omega)
 have C:cN (x/64 % 64)=cN (b.toNat % 16*4+c.toNat/64):=ie (by omega)
 have N:cN (x % 64)=cN c.toNat:=ie (by omega)
 refine .mo rfl<|.mo rfl ?_
 refine .q (.mm (a:=x) 262144 rfl rfl (by decide) (by omega)) ?_
 refine .aL (lG (x/262144) (by omega) _) (λu f=>?_)
 subst f
 refine .q (.gB (p:=⟨o.toArray⟩) (q:=⟨[cN (x/262144)].toArray⟩) (by rw[fy,fy];simp;omega) rfl rfl) ?_
 rw[kY,m]
 refine .mo rfl ?_
 refine .q (.mm (a:=x) 4096 rfl rfl (by decide) (by omega)) ?_
 refine .q (.lK (a:=x/4096) 64 rfl rfl (by decide)) ?_
 refine .aL (lG (x/4096 % 64) (by omega) _) (λu f=>?_)
 subst f
 refine .q (.gB (q:=⟨[cN (x/4096 % 64)].toArray⟩) (by rw[fy,fy];simp;omega) rfl rfl) ?_
 rw[kY,n]
 refine .mo rfl ?_
 refine .q (.mm (a:=x) 64 rfl rfl (by decide) (by omega)) ?_
 refine .q (.lK (a:=x/64) 64 rfl rfl (by decide)) ?_
 refine .aL (lG (x/64 % 64) (by omega) _) (λu f=>?_)
 subst f
 refine .q (.gB (q:=⟨[cN (x/64 % 64)].toArray⟩) (by rw[fy,fy];simp;omega) rfl rfl) ?_
 rw[kY,C]
 refine .mo rfl ?_
 refine .q (.lK (a:=x) 64 rfl rfl (by decide)) ?_
 refine .aL (lG (x % 64) (by omega) _) (λu f=>?_)
 subst f
 refine .q (.gB (q:=⟨[cN (x % 64)].toArray⟩) (by rw[fy,fy];simp;omega) rfl rfl) ?_
 rw[kY,N]
 refine .az rfl<|.region<|.mo rfl ?_
 refine .jS 3 (a::b::c::q).length i ⟨_,rfl⟩ rfl (by simp) (ac7 _) (λO E=>?_)
 rw[show((a::b::c::q).drop 3).take ((a::b::c::q).length-3)=q by rw[List.take_of_length_le (by simp)];rfl]at E
 refine .ag rfl<|.nil<|bw ?_
 ·exact bd (q,O,_) ⟨E,by simp only;simp only[ac9]at F;omega,by simp only[adb];exact g⟩ (by simp only[ac9];omega) ((kE.d rfl).d rfl) rH
 have j:r.length<3:=by have:=bi w;omega
 refine .exit<|bE<|bH<|bF<|aD<|.seq<|.sr<|.mo rfl<|.q (.di i) ?_
 refine .q .bR<|.zn ?_
 refine bO.cut (X:=List UInt8) (λt=>(r.length=2->t=o)/\(r.length≠2->t=dv xs)) (λt=>[(0,.slice M r.length L),(3,.string ⟨t.toArray⟩)]) (λ_=>[]) ?_ ?_
 refine .cond rfl (λs=>?_) λs=>?_
 obtain⟨a,rfl⟩:∃a,r=[a]:=List.length_eq_one_iff.1 (by simp at s;omega)
 have D:=a.toNat_lt
 simp only[dv,ac9,List.length_nil]at B g
 refine .sr<|.mo rfl ?_
 refine .ct 0 i (show [a][0]? =some a from rfl) (λZ=>?_)
 refine .lo rfl ?_
 refine .q (.i64 ((a.toNat:Nat):Int) .gW ⟨rfl,by omega,by omega⟩) ?_
 refine .ia (a.toNat*16) .mul ?_
 refine .az rfl<|.region ?_
 obtain⟨x,k⟩:∃x,x=a.toNat*16:=⟨_,rfl⟩
 rw[<-k]
 have m:cN (x/64)=cN (a.toNat/4):=ie (by omega)
 have n:cN (x % 64)=cN (a.toNat % 4*16):=ie (by omega)
 refine .mo rfl<|.mo rfl ?_
 refine .q (.mm (a:=x) 64 rfl rfl (by decide) (by omega)) ?_
 refine .aL (lG (x/64) (by omega) _) (λu f=>?_)
 subst f
 refine .q (.gB (p:=⟨o.toArray⟩) (q:=⟨[cN (x/64)].toArray⟩) (by rw[fy,fy];simp;omega) rfl rfl) ?_
 rw[kY,m]
 refine .mo rfl ?_
 refine .q (.lK (a:=x) 64 rfl rfl (by decide)) ?_
 refine .aL (lG (x % 64) (by omega) _) (λu f=>?_)
 subst f
 refine .q (.gB (q:=⟨[cN (x % 64)].toArray⟩) (by rw[fy,fy];simp;omega) rfl rfl) ?_
 rw[kY,n]
 refine .ag rfl<|.nil ?_
 ·first
   |exact aA (o++[cN (a.toNat/4)]++[cN (a.toNat % 4*16)]) ⟨λl=>by simp at l,λ_=>by simp only[adb];exact g⟩ kE.c.c rH
   |exact aA o ⟨λ_=>rfl,λl=>by
     have A:r=[]:=by
      have:r.length≠1:=λe=>by simp[e]at s
      exact List.length_eq_zero_iff.1 (by omega)
     rw[A]at g
     simpa[dv]using g⟩ kE.c.c rH
 refine .skip ?_
 ·first
   |exact aA (o++[cN (a.toNat/4)]++[cN (a.toNat % 4*16)]) ⟨λl=>by simp at l,λ_=>by simp only[adb];exact g⟩ kE.c.c rH
   |exact aA o ⟨λ_=>rfl,λl=>by
     have A:r=[]:=by
      have:r.length≠1:=λe=>by simp[e]at s
      exact List.length_eq_zero_iff.1 (by omega)
     rw[A]at g
     simpa[dv]using g⟩ kE.c.c rH
 intro x k
 refine aD<|.seq<|.sr<|.mo rfl<|.q (.di i) ?_
 refine .q .bR<|.zn ?_
 refine .cond rfl (λj=>?_) λj=>?_
 have H:r.length=2:=by simp at j;omega
 obtain⟨a,b,rfl⟩:∃a b,r=[a,b]:=by
  match r,H with
  |[a,b],_=>exact⟨a,b,rfl⟩
 have J:=k.1 rfl
 subst J
 have D:=a.toNat_lt
 have G:=b.toNat_lt
 simp only[dv,ac9,List.length_nil]at B g
 refine .seq ?_
 refine .iA mixed (by kernel_rfl) ?_
 refine .mo rfl ?_
 refine .ct 0 i (show [a,b][0]? =some a from rfl) (λa0=>?_)
 refine .lo rfl ?_
 refine .q (.i64 ((a.toNat:Nat):Int) .gW ⟨rfl,by omega,by omega⟩) ?_
 refine .ia (a.toNat*1024) .mul ?_
 refine .mo rfl ?_
 refine .ct 1 i (show [a,b][1]? =some b from rfl) (λa1=>?_)
 refine .lo rfl ?_
 refine .q (.i64 ((b.toNat:Nat):Int) .gW ⟨rfl,by omega,by omega⟩) ?_
 refine .ia (b.toNat*4) .mul ?_
 refine .ia (a.toNat*1024+b.toNat*4) .add ?_
 refine .az rfl<|.region ?_
 obtain⟨y,K⟩:∃y,y=a.toNat*1024+b.toNat*4:=⟨_,rfl⟩
 rw[<-K]
 have m:cN (y/4096)=cN (a.toNat/4):=ie (by omega)
 have n:cN (y/64 % 64)=cN (a.toNat % 4*16+b.toNat/16):=ie (by omega)
 have C:cN (y % 64)=cN (b.toNat % 16*4):=ie (by omega)
 refine .mo rfl<|.mo rfl ?_
 refine .q (.mm (a:=y) 4096 rfl rfl (by decide) (by omega)) ?_
 refine .aL (lG (y/4096) (by omega) _) (λu f=>?_)
 subst f
 refine .q (.gB (p:=⟨x.toArray⟩) (q:=⟨[cN (y/4096)].toArray⟩) (by rw[fy,fy];simp;omega) rfl rfl) ?_
 rw[kY,m]
 refine .mo rfl ?_
 refine .q (.mm (a:=y) 64 rfl rfl (by decide) (by omega)) ?_
 refine .q (.lK (a:=y/64) 64 rfl rfl (by decide)) ?_
 refine .aL (lG (y/64 % 64) (by omega) _) (λu f=>?_)
 subst f
 refine .q (.gB (q:=⟨[cN (y/64 % 64)].toArray⟩) (by rw[fy,fy];simp;omega) rfl rfl) ?_
 rw[kY,n]
 refine .mo rfl ?_
 refine .q (.lK (a:=y) 64 rfl rfl (by decide)) ?_
 refine .aL (lG (y % 64) (by omega) _) (λu f=>?_)
 subst f
 refine .q (.gB (q:=⟨[cN (y % 64)].toArray⟩) (by rw[fy,fy];simp;omega) rfl rfl) ?_
 rw[kY,C]
 refine .ag rfl<|.z<|.mo rfl<|.az rfl ?_
 refine .ret (aO rfl ?_)
 ·first
   |exact⟨rfl,rfl⟩
   |exact⟨by rw[<-g];simp,rfl⟩
 have I:=k.2 (by simp at j;omega)
 subst I
 refine .kn<|.sr<|.mo rfl<|.az rfl ?_
 refine .ret (aO rfl ?_)
 ·first
   |exact⟨rfl,rfl⟩
   |exact⟨by rw[<-g];simp,rfl⟩
theorem lQ(x:da)(n:Nat)(a:n<=32)(R:au):Spec prog 290 [.int .u32 (x.toNat:Int),.int .u64 (n:Nat)] R [] λv H'=>v=.int .u32 ((gN x n).toNat:Int)/\H'=[]:=by
 refine Spec.body func290 rfl results290 ntmps290 rfl ?_
 refine .sr<|.ag rfl<|.z<|.mo rfl<|.mo rfl ?_
 refine .q (.mL rfl rfl (by omega)) ?_
 refine .mo rfl<|.mo rfl ?_
 refine .q (.u64 ((32-n:Nat):Int) .sub ⟨by omega,by omega,by omega⟩) ?_
 refine .q (.pf rfl rfl (by omega)) ?_
 refine .q (.o1 rfl rfl) ?_
 refine .az rfl ?_
 refine .ret (aO rfl ?_)
 ·exact⟨by rw[N7],rfl⟩
theorem vk(l:List da):l.flatMap kl=wv l:=by
 induction l with
 |nil=>rfl
 |cons x l ih=>rw[List.flatMap_cons,ih];rfl
theorem OF{b:List UInt8}{l:List da}{i:Nat}(a:l.length=i)(h:i<16):(((b.getD (4*i) 0).toBitVec.setWidth 32*16777216#32+(b.getD (4*i+1) 0).toBitVec.setWidth 32*65536#32)+(b.getD (4*i+2) 0).toBitVec.setWidth 32*256#32)+(b.getD (4*i+3) 0).toBitVec.setWidth 32=jl b l:=by
 refine(OI (b.getD (4*i) 0) (b.getD (4*i+1) 0) (b.getD (4*i+2) 0) (b.getD (4*i+3) 0)).trans ?_
 unfold jl
 rw[a,if_pos h]
theorem OE{b:List UInt8}{l:List da}{i:Nat}(a:l.length=i)(h:¬i<16):((l.getD (i-16) 0+((gN (l.getD (i-15) 0) 7^^^gN (l.getD (i-15) 0) 18)^^^l.getD (i-15) 0/8#32))+l.getD (i-7) 0)+((gN (l.getD (i-2) 0) 17^^^gN (l.getD (i-2) 0) 19)^^^l.getD (i-2) 0/1024#32)=jl b l:=by
 rw[show(8#32)=BitVec.ofNat 32 (2^3)from rfl,show(1024#32)=BitVec.ofNat 32 (2^10)from rfl,uD _ 3 (by decide),uD _ 10 (by decide)]
 unfold jl
 rw[a,if_neg h]
 rfl
theorem KE{i:Nat}(h:i<64):(wv ks)[i]? =some (.int .u32 ((ks.getD i 0).toNat:Int)):=by
 have a:ks.length=64:=rfl
 refine lS ?_
 rw[adi,bB (by omega)]
 rfl
theorem Mw(s:er)(vs O:Value)(b:List UInt8)(R:au)(l:RS R 1 kl vs s.dk)(n:RS R 1 cK O b)(hl:64<=b.length):
  Spec prog 267 [vs,O] R [] λu H'=>∃T,H'=[T]/\OS 217 1 kl u (comp s b).dk T:=by
 have o:∀j,j<64->b[j]? =some (b.getD j 0):=λj hj=>by
  rw[adi,bB (by omega)];rfl
 obtain⟨V,U,rfl⟩:=n.val
 obtain⟨J,I,rfl⟩:=l.val
 refine Spec.body func267 rfl results267 ntmps267 rfl ?_
 refine .sr<|.ag rfl<|.z ?_
 refine .q (.tR (out:=wv ks) rfl (by kernel_rfl) rfl) ?_
 refine .cG (λr=>?_)
 refine .cc rfl rfl ?_ rfl (ac8 rfl)
 rw[kQ (by rfl)]
 refine .z<|.ag rfl<|.zs<|.sr<|.az rfl<|.block ?_
 refine .loop (X:=Nat×Value×ax) (λy=>y.1<=16/\OS 217 1 kl y.2.1 (sched b y.1) y.2.2) (λy=>[(0,.slice J s.dk.length I),(1,.slice V b.length U),(5,pT r),(6,y.2.1),(7,iN y.1)]) (λy=>[bl r (wv ks) 308,y.2.2]) (λy=>16-y.1) (0,sZ,[]) ⟨ac5 _,OS.nil⟩ kE.c.c.c.c.c (aU.bu (by simp)) ?_
 rintro⟨i,A,v⟩ ⟨w,m⟩
 simp only at w m⊢
 have N:=m.av
 have t:=iU (b:=b) i
 refine .seq<|.sr<|.mo rfl<|.q .lss<|.zn ?_
 refine .cond rfl (λC=>?_) λC=>?_
 have p:i<16:=dT C
 have H:=OF (b:=b) t p
 have q0:=n.pc (o (4*i) (by omega))
 have q1:=n.pc (o (4*i+1) (by omega))
 have q2:=n.pc (o (4*i+2) (by omega))
 have q3:=n.pc (o (4*i+3) (by omega))
 refine .kn<|.seq<|.block<|.cP [35] mixed ?_
 refine .tO 0 rfl .move<|.tO 1 rfl .move<|.tO 2 rfl .move ?_
 refine .eA 3 rfl (.i64 ((4*i:Nat):Int) .mul ⟨by omega,by omega,by omega⟩) (by kernel_rfl) ?_
 refine .eA 4 rfl (.ct (4*i) n (o _ (by omega)) rfl rfl rfl) (by kernel_rfl) ?_
 refine .tO 5 rfl (.bK rfl) ?_
 refine .tO 6 rfl (.wide rfl) ?_
 refine .tO 7 rfl (.sc (b:=16777216#32) rfl rfl) ?_
 refine .tO 8 rfl .move<|.tO 9 rfl .move ?_
 refine .eA 10 rfl (.i64 ((4*i:Nat):Int) .mul ⟨by omega,by omega,by omega⟩) (by kernel_rfl) ?_
 refine .eA 11 rfl (.i64 ((4*i+1:Nat):Int) .add ⟨by omega,by omega,by omega⟩) (by kernel_rfl) ?_
 refine .eA 12 rfl (.ct (4*i+1) n (o _ (by omega)) rfl rfl rfl) (by kernel_rfl) ?_
 refine .tO 13 rfl (.bK rfl) ?_
 refine .tO 14 rfl (.wide rfl) ?_
 refine .tO 15 rfl (.sc (b:=65536#32) rfl rfl) ?_
 refine .tO 16 rfl (.fg rfl rfl) ?_
 refine .tO 17 rfl .move<|.tO 18 rfl .move ?_
 refine .eA 19 rfl (.i64 ((4*i:Nat):Int) .mul ⟨by omega,by omega,by omega⟩) (by kernel_rfl) ?_
 refine .eA 20 rfl (.i64 ((4*i+2:Nat):Int) .add ⟨by omega,by omega,by omega⟩) (by kernel_rfl) ?_
 refine .eA 21 rfl (.ct (4*i+2) n (o _ (by omega)) rfl rfl rfl) (by kernel_rfl) ?_
 refine .tO 22 rfl (.bK rfl) ?_
 refine .tO 23 rfl (.wide rfl) ?_
 refine .tO 24 rfl (.sc (b:=256#32) rfl rfl) ?_
 refine .tO 25 rfl (.fg rfl rfl) ?_
 refine .tO 26 rfl .move<|.tO 27 rfl .move ?_
 refine .eA 28 rfl (.i64 ((4*i:Nat):Int) .mul ⟨by omega,by omega,by omega⟩) (by kernel_rfl) ?_
 refine .eA 29 rfl (.i64 ((4*i+3:Nat):Int) .add ⟨by omega,by omega,by omega⟩) (by kernel_rfl) ?_
 refine .eA 30 rfl (.ct (4*i+3) n (o _ (by omega)) rfl rfl rfl) (by kernel_rfl) ?_
 refine .tO 31 rfl (.bK rfl) ?_
 refine .tO 32 rfl (.wide rfl) ?_
 refine .tO 33 rfl (.fg rfl rfl) ?_
 refine .sT 34 rfl ?_
 refine .hZ (λZ=>?_)
 refine .nil (Next.sub ?_)
 refine .sT 35 rfl ?_
 rw[H]
 refine .append m (RS.lits (xs:=[jl b (sched b i)]) rfl (by simp[kl]) (by simp[kl,av])) (by simp[t];omega) (λK B F=>?_)
 refine .nil (Next.mod rfl ?_)
 refine .tK 36 rfl .assign ?_
 refine RA.nil (by kernel_rfl) ?_
 refine bw<|aD<|.region<|.mo rfl ?_
 refine .ia (i+1) .add ?_
 refine .ag rfl<|.nil ?_
 ·exact bd (i+1,K,B) ⟨p,F⟩ (by simp only;omega) kE.c.c.c.c.c (aH [1,1])
 have Q:i=16:=by have:=bi C;omega
 subst Q
 refine .exit<|bE<|bH<|bF<|aD<|.seq<|.sr<|.az rfl<|.block ?_
 refine .loop (X:=Nat×Value×ax) (λy=>(16<=y.1/\y.1<=64)/\OS 217 1 kl y.2.1 (sched b y.1) y.2.2) (λy=>[(0,.slice J s.dk.length I),(5,pT r),(6,y.2.1),(8,iN y.1)]) (λy=>[bl r (wv ks) 308,y.2.2]) (λy=>64-y.1) (16,A,v) ⟨⟨ac7 _,by simp only;omega⟩,m⟩ kE.c.c.c.c rH ?_
 clear m N A v
 rintro⟨i,A,v⟩ ⟨⟨w,S⟩,m⟩
 simp only at w S m⊢
 have N:=m.av
 have t:=iU (b:=b) i
 refine .seq<|.sr<|.mo rfl<|.q .lss<|.zn ?_
 refine .cond rfl (λD=>?_) λD=>?_
 have p:i<64:=dT D
 have H:=OE (b:=b) t (by omega)
 refine .kn<|.seq<|.block<|.seq ?_
 refine .iA mixed (by kernel_rfl) ?_
 refine .mo rfl<|.mo rfl ?_
 refine .ia (i-15) .sub ?_
 refine .ba (i-15) m (nS (by omega)) (λb8=>?_)
 refine .lo rfl<|.mo rfl<|.mo rfl ?_
 refine .ia (i-2) .sub ?_
 refine .ba (i-2) m (nS (by omega)) (λb9=>?_)
 refine .lo rfl<|.ag rfl<|.ag rfl<|.zs<|.cP [] mixed ?_
 refine .tO 0 rfl .move<|.tO 1 rfl .move ?_
 refine .eA 2 rfl (.i64 ((i-16:Nat):Int) .sub ⟨by omega,by omega,by omega⟩) (by kernel_rfl) ?_
 refine RA.ba 3 rfl (i-16) m (nS (by omega)) rfl rfl rfl (by kernel_rfl) (λc0=>?_)
 refine .tO 4 rfl (.bK rfl)<|.tO 5 rfl .move<|.tO 7 rfl .move<|.tO 10 rfl .move ?_
 refine .tO 11 rfl (.xu (b:=8#32) rfl rfl (by decide)) ?_
 refine .tO 14 rfl .move<|.tO 15 rfl .move ?_
 refine .eA 16 rfl (.i64 ((i-7:Nat):Int) .sub ⟨by omega,by omega,by omega⟩) (by kernel_rfl) ?_
 refine RA.ba 17 rfl (i-7) m (nS (by omega)) rfl rfl rfl (by kernel_rfl) (λc1=>?_)
 refine .tO 18 rfl (.bK rfl)<|.tO 20 rfl .move<|.tO 22 rfl .move<|.tO 25 rfl .move ?_
 refine .tO 26 rfl (.xu (b:=1024#32) rfl rfl (by decide)) ?_
 refine .sT 6 rfl ?_
 refine .aL (lQ _ 7 (by decide) _) (λu k=>?_)
 subst k
 refine .nil (Next.sub ?_)
 refine .sT 8 rfl ?_
 refine .aL (lQ _ 18 (by decide) _) (λu k=>?_)
 subst k
 refine .nil (Next.sub ?_)
 refine .tO 9 rfl (.gy rfl rfl) ?_
 refine .tO 12 rfl (.gy rfl rfl) ?_
 refine .tO 13 rfl (.fg rfl rfl) ?_
 refine .tO 19 rfl (.fg rfl rfl) ?_
 refine .sT 21 rfl ?_
 refine .aL (lQ _ 17 (by decide) _) (λu k=>?_)
 subst k
 refine .nil (Next.sub ?_)
 refine .sT 23 rfl ?_
 refine .aL (lQ _ 19 (by decide) _) (λu k=>?_)
 subst k
 refine .nil (Next.sub ?_)
 refine .tO 24 rfl (.gy rfl rfl) ?_
 refine .tO 27 rfl (.gy rfl rfl) ?_
 refine .tO 28 rfl (.fg rfl rfl) ?_
 refine .tO 29 rfl .assign ?_
 refine RA.nil (by kernel_rfl) ?_
 refine aD<|.region<|.mo rfl<|.mo rfl ?_
 refine .hZ (λW=>?_)
 rw[H]
 refine .append m (RS.lits (xs:=[jl b (sched b i)]) rfl (by simp[kl]) (by simp[kl,av])) (by simp[t];omega) (λK B F=>?_)
 refine .ag rfl<|.nil<|bw<|aD<|.region<|.mo rfl ?_
 refine .ia (i+1) .add ?_
 refine .ag rfl<|.nil ?_
 ·exact bd (i+1,K,B) ⟨⟨by simp only;omega,by simp only;omega⟩,F⟩ (by simp only;omega) kE.c.c.c.c (aH [1,1])
 have G:i=64:=by have:=bi D;omega
 subst G
 refine .exit<|bE<|bH<|bF<|aD<|.seq ?_
 refine .iA mixed (by kernel_rfl) ?_
 refine .mo rfl ?_
 refine .ct 0 l (show s.dk[0]? =some s.a from rfl) (λa0=>?_)
 refine .lo rfl<|.mo rfl ?_
 refine .ct 1 l (show s.dk[1]? =some s.b from rfl) (λa1=>?_)
 refine .lo rfl<|.mo rfl ?_
 refine .ct 2 l (show s.dk[2]? =some s.c from rfl) (λa2=>?_)
 refine .lo rfl<|.mo rfl ?_
 refine .ct 3 l (show s.dk[3]? =some s.d from rfl) (λa3=>?_)
 refine .lo rfl<|.mo rfl ?_
 refine .ct 4 l (show s.dk[4]? =some s.e from rfl) (λa4=>?_)
 refine .lo rfl<|.mo rfl ?_
 refine .ct 5 l (show s.dk[5]? =some s.f from rfl) (λa5=>?_)
 refine .lo rfl<|.mo rfl ?_
 refine .ct 6 l (show s.dk[6]? =some s.g from rfl) (λa6=>?_)
 refine .lo rfl<|.mo rfl ?_
 refine .ct 7 l (show s.dk[7]? =some s.h from rfl) (λa7=>?_)
 refine .lo rfl<|.ag rfl<|.ag rfl<|.ag rfl<|.ag rfl<|.ag rfl<|.ag rfl<|.ag rfl<|.ag rfl<|.zs<|.sr<|.az rfl<|.block ?_
 refine .loop (X:=Nat) (λi=>i<=64) (λi=>[(0,.slice J s.dk.length I),(5,pT r),(6,A),(12,.int .u32 ((rounds (sched b 64) s i).a.toNat:Int)),(13,.int .u32 ((rounds (sched b 64) s i).b.toNat:Int)),(14,.int .u32 ((rounds (sched b 64) s i).c.toNat:Int)),(15,.int .u32 ((rounds (sched b 64) s i).d.toNat:Int)),(16,.int .u32 ((rounds (sched b 64) s i).e.toNat:Int)),(17,.int .u32 ((rounds (sched b 64) s i).f.toNat:Int)),(18,.int .u32 ((rounds (sched b 64) s i).g.toNat:Int)),(19,.int .u32 ((rounds (sched b 64) s i).h.toNat:Int)),(20,iN i)]) (λi=>[bl r (wv ks) 308,v]) (λi=>64-i) 0 (ac5 _) kE.c.c.c.c.c.c.c.c.c.c.c.c rH ?_
 rintro i w
 refine .seq<|.sr<|.mo rfl<|.q .lss<|.zn ?_
 refine .cond rfl (λE=>?_) λE=>?_
 have p:i<64:=dT E
 obtain⟨x,M⟩:∃x,x=rounds (sched b 64) s i:=⟨_,rfl⟩
 rw[<-M]
 refine .kn<|.seq<|.block<|.seq<|.cP [] mixed ?_
 refine .tO 0 rfl .move<|.tO 1 rfl .move<|.tO 3 rfl .move<|.tO 6 rfl .move<|.tO 10 rfl .move<|.tO 11 rfl .move ?_
 refine .tO 12 rfl (.lA rfl rfl) ?_
 refine .tO 13 rfl .move ?_
 refine .tO 14 rfl (.gy (b:=4294967295#32) rfl rfl) ?_
 refine .tO 15 rfl .move ?_
 refine .tO 16 rfl (.lA rfl rfl) ?_
 refine .tO 17 rfl (.gy rfl rfl) ?_
 refine .tO 19 rfl .move ?_
 refine .tO 20 rfl (.fE i p rfl rfl rfl) ?_
 refine .eA 21 rfl (.bK rfl (lC (KE p))) (by kernel_rfl) ?_
 refine .tO 23 rfl .move<|.tO 24 rfl .move ?_
 refine RA.ba 25 rfl i m (nS p) rfl rfl rfl (by kernel_rfl) (λa8=>?_)
 refine .tO 26 rfl (.bK rfl) ?_
 refine .sT 2 rfl ?_
 refine .aL (lQ _ 6 (by decide) _) (λu k=>?_)
 subst k
 refine .nil (Next.sub ?_)
 refine .sT 4 rfl ?_
 refine .aL (lQ _ 11 (by decide) _) (λu k=>?_)
 subst k
 refine .nil (Next.sub ?_)
 refine .tO 5 rfl (.gy rfl rfl) ?_
 refine .sT 7 rfl ?_
 refine .aL (lQ _ 25 (by decide) _) (λu k=>?_)
 subst k
 refine .nil (Next.sub ?_)
 refine .tO 8 rfl (.gy rfl rfl) ?_
 refine .tO 9 rfl (.fg rfl rfl) ?_
 refine .tO 18 rfl (.fg rfl rfl) ?_
 refine .tO 22 rfl (.fg rfl rfl) ?_
 refine .tO 27 rfl (.fg rfl rfl) ?_
 refine .tO 28 rfl .assign ?_
 refine RA.nil (by kernel_rfl) ?_
 refine aD<|.sr ?_
 rw[OO]
 refine .mo rfl ?_
 refine .aL (lQ _ 2 (by decide) _) (λu k=>?_)
 subst k
 refine .mo rfl ?_
 refine .aL (lQ _ 13 (by decide) _) (λu k=>?_)
 subst k
 refine .q (.gy rfl rfl) ?_
 refine .mo rfl ?_
 refine .aL (lQ _ 22 (by decide) _) (λu k=>?_)
 subst k
 refine .q (.gy rfl rfl) ?_
 refine .mo rfl<|.mo rfl<|.q (.lA rfl rfl) ?_
 refine .mo rfl<|.mo rfl<|.q (.lA rfl rfl) ?_
 refine .q (.gy rfl rfl) ?_
 refine .mo rfl<|.mo rfl<|.q (.lA rfl rfl) ?_
 refine .q (.gy rfl rfl) ?_
 refine .q (.fg rfl rfl) ?_
 refine .ag rfl<|.z<|.mo rfl<|.ag rfl<|.z<|.mo rfl<|.ag rfl<|.z<|.mo rfl<|.ag rfl<|.z<|.mo rfl<|.mo rfl<|.q (.fg rfl rfl) ?_
 refine .ag rfl<|.z<|.mo rfl<|.ag rfl<|.z<|.mo rfl<|.ag rfl<|.z<|.mo rfl<|.az rfl<|.region<|.mo rfl<|.mo rfl<|.q (.fg rfl rfl) ?_
 refine .ag rfl<|.nil<|bw<|aD<|.region<|.mo rfl ?_
 refine .ia (i+1) .add ?_
 refine .ag rfl<|.nil ?_
 ·exact bd (i+1) p (by omega) (by rw[show rounds (sched b 64) s (i+1)=sC x (ks.getD i 0) ((sched b 64).getD i 0) by rw[M];rfl];exact kE.c.c.c.c.c.c.c.c.c.c.c.c) rH
 have G:i=64:=by have:=bi E;omega
 subst G
 have L:comp s b=po s (rounds (sched b 64) s 64):=rfl
 generalize rounds (sched b 64) s 64=x at L⊢
 refine .exit<|bE<|bH<|bF<|aD<|.seq ?_
 refine .dc 40 mixed (by kernel_rfl) ?_
 conv=>arg 6;dsimp only[List.take]
 refine .mo rfl ?_
 refine .ct 0 l (show s.dk[0]? =some s.a from rfl) (λa9=>?_)
 refine .lo rfl<|.mo rfl<|.q (.fg rfl rfl) ?_
 refine .mo rfl ?_
 refine .ct 1 l (show s.dk[1]? =some s.b from rfl) (λb0=>?_)
 refine .lo rfl<|.mo rfl<|.q (.fg rfl rfl) ?_
 refine .mo rfl ?_
 refine .ct 2 l (show s.dk[2]? =some s.c from rfl) (λb1=>?_)
 refine .lo rfl<|.mo rfl<|.q (.fg rfl rfl) ?_
 refine .mo rfl ?_
 refine .ct 3 l (show s.dk[3]? =some s.d from rfl) (λb2=>?_)
 refine .lo rfl<|.mo rfl<|.q (.fg rfl rfl) ?_
 refine .mo rfl ?_
 refine .ct 4 l (show s.dk[4]? =some s.e from rfl) (λb3=>?_)
 refine .lo rfl<|.mo rfl<|.q (.fg rfl rfl) ?_
 refine .mo rfl ?_
 refine .ct 5 l (show s.dk[5]? =some s.f from rfl) (λb4=>?_)
 refine .lo rfl<|.mo rfl<|.q (.fg rfl rfl) ?_
 refine .mo rfl ?_
 refine .ct 6 l (show s.dk[6]? =some s.g from rfl) (λb6=>?_)
 refine .lo rfl<|.mo rfl<|.q (.fg rfl rfl) ?_
 refine .mo rfl ?_
 refine .ct 7 l (show s.dk[7]? =some s.h from rfl) (λb7=>?_)
 refine .lo rfl<|.mo rfl<|.q (.fg rfl rfl) ?_
 refine .nil ?_
 refine .p8 (wv (po s x).dk) (λY=>?_) (ho:=qW)
 refine .az rfl ?_
 refine .ret (aN _ (.one (.tmp rfl)) (.one [0] _) ?_)
 ·rw[L]
  exact⟨_,rfl,OS.lits (xs:=(po s x).dk) (vk _) (λ_ _=>rfl) (λx _ u k=>by simp only[kl,List.mem_singleton]at k;subst k;rfl)⟩
theorem lM(x:da)(n:Nat)(a:n∈[2,6,7,11,13,17,18,19,22,25])(R:au):Spec prog 304 [.int .u32 (x.toNat:Int),.int .i64 (-(n:Int))] R [] λv H'=>v=.int .u32 ((gN x n).toNat:Int)/\H'=[]:=by
 have e:IntKind.u64.wrap ((BitVec.ofInt IntKind.u64.bits (IntKind.u64.wrap (-(n:Int)))&&&BitVec.ofInt IntKind.u64.bits 31).toNat:Int)=((32-n:Nat):Int)/\n<=32:=by
  simp only[List.mem_cons,List.not_mem_nil,or_false]at a
  rcases a with rfl|rfl|rfl|rfl|rfl|rfl|rfl|rfl|rfl|rfl<;>exact⟨by decide,by decide⟩
 obtain⟨e,b⟩:=e
 refine Spec.body func304 rfl results304 ntmps304 rfl ?_
 refine .sr<|.ag rfl<|.z<|.mo rfl<|.q .gW<|.q .om ?_
 rw[e]
 refine .ag rfl<|.z<|.mo rfl<|.mo rfl ?_
 refine .q (.pf rfl rfl (by omega)) ?_
 refine .mo rfl<|.mo rfl ?_
 refine .q (.u64 ((n:Nat):Int) .sub ⟨by omega,by omega,by omega⟩) ?_
 refine .q (.mL rfl rfl (by omega)) ?_
 refine .q (.o1 rfl rfl) ?_
 refine .az rfl ?_
 refine .ret (aO rfl ?_)
 ·exact⟨rfl,rfl⟩
theorem Ns(v:Value)(b:List UInt8)(R:au)(h:RS R 1 cK v b)(B:64<=b.length):Spec prog 303 [v] R [] λu H'=>u=.agg (wv (sched b 64)).toArray/\H'=[]:=by
 have k:∀j,j<64->b[j]? =some (b.getD j 0):=λj A=>by
  rw[adi,bB (by omega)];rfl
 obtain⟨s,r,rfl⟩:=h.val
 refine Spec.body func303 rfl results303 ntmps303 rfl ?_
 refine .sr ?_
 refine .cG (λf=>?_)
 refine .z ?_
 refine .cG (λg=>?_)
 refine .zs<|.sr<|.mo rfl<|.zn<|.block ?_
 refine .loop (X:=Nat) (λi=>i<=16) (λi=>[(0,.slice s b.length r),(2,pT f),(3,pT g),(10,iN i)]) (λi=>[bl g (wv (arr b i)) 308,bl f (wv (List.replicate 64 0#32)) 308]) (λi=>16-i) 0 (ac5 _) kE.c.c.c.c rH ?_
 rintro i t
 have d:=tF (b:=b) (i:=i) (by omega)
 have e:=iU (b:=b) i
 refine .sr<|.q .lss<|.zs ?_
 refine .cond rfl (λl=>?_) λl=>?_
 have o:i<16:=dT l
 have p:(((((b.getD (4*i) 0).toBitVec.setWidth 32:da)<<<24|||((b.getD (4*i+1) 0).toBitVec.setWidth 32:da)<<<16)|||((b.getD (4*i+2) 0).toBitVec.setWidth 32:da)<<<8)|||((b.getD (4*i+3) 0).toBitVec.setWidth 32:da))=jl b (sched b i):=by
  unfold jl
  rw[if_pos (by rw[e];exact o),e]
  rfl
 refine .kn<|.seq<|.block<|.sr<|.mo rfl<|.az rfl ?_
 refine .dc 35 mixed (by kernel_rfl) ?_
 conv=>arg 6;dsimp only[List.take]
 refine .mo rfl<|.mo rfl<|.mo rfl ?_
 refine .ia (4*i) .mul ?_
 refine .ct (4*i) h (k _ (by omega)) (λC=>?_)
 refine .lo rfl<|.q (.wide rfl) ?_
 refine .q (.pf (n:=24) rfl rfl (by decide)) ?_
 refine .mo rfl<|.mo rfl ?_
 refine .ia (4*i) .mul ?_
 refine .ia (4*i+1) .add ?_
 refine .ct (4*i+1) h (k _ (by omega)) (λD=>?_)
 refine .lo rfl<|.q (.wide rfl) ?_
 refine .q (.pf (n:=16) rfl rfl (by decide)) ?_
 refine .q (.o1 rfl rfl) ?_
 refine .mo rfl<|.mo rfl ?_
 refine .ia (4*i) .mul ?_
 refine .ia (4*i+2) .add ?_
 refine .ct (4*i+2) h (k _ (by omega)) (λE=>?_)
 refine .lo rfl<|.q (.wide rfl) ?_
 refine .q (.pf (n:=8) rfl rfl (by decide)) ?_
 refine .q (.o1 rfl rfl) ?_
 refine .mo rfl<|.mo rfl ?_
 refine .ia (4*i) .mul ?_
 refine .ia (4*i+3) .add ?_
 refine .ct (4*i+3) h (k _ (by omega)) (λF=>?_)
 refine .lo rfl<|.q (.wide rfl) ?_
 refine .q (.o1 rfl rfl) ?_
 refine .q (.fE i (by omega) rfl rfl rfl) ?_
 refine .nil ?_
 refine .cH rfl rfl ?_ (by rw[kU,d];omega)
 rw[th (i:=i) (by omega) (by rw[d];omega),p,tG (by omega)]
 refine .nil<|bw<|aD<|.region ?_
 refine .ia (i+1) .add ?_
 refine .mo rfl<|.nil ?_
 ·exact bd (i+1) o (by omega) kE.c.c.c.c rH
 have w:i=16:=by have:=bi l;omega
 subst w
 refine .exit<|bE<|bH<|bF<|aD<|.seq<|.sr<|.az rfl<|.block ?_
 refine .loop (X:=Nat) (λi=>16<=i/\i<=64) (λi=>[(0,.slice s b.length r),(2,pT f),(3,pT g),(5,iN i)]) (λi=>[bl g (wv (arr b i)) 308,bl f (wv (List.replicate 64 0#32)) 308]) (λi=>64-i) 16 ⟨ac7 _,by omega⟩ kE.c.c.c.c rH ?_
 rintro i ⟨t,y⟩
 have d:=tF (b:=b) (i:=i) (by omega)
 have e:=iU (b:=b) i
 refine .seq<|.sr<|.mo rfl<|.q .lss<|.zn ?_
 refine .cond rfl (λm=>?_) λm=>?_
 have o:i<64:=dT m
 have p:(((sched b i).getD (i-16) 0+((gN ((sched b i).getD (i-15) 0) 7^^^gN ((sched b i).getD (i-15) 0) 18)^^^(sched b i).getD (i-15) 0>>>3))+(sched b i).getD (i-7) 0+((gN ((sched b i).getD (i-2) 0) 17^^^gN ((sched b i).getD (i-2) 0) 19)^^^(sched b i).getD (i-2) 0>>>10))=jl b (sched b i):=by
  unfold jl
  rw[if_neg (by rw[e];omega),e]
  rfl
 refine .kn<|.seq<|.block<|.seq ?_
 refine .iA mixed (by kernel_rfl) ?_
 refine .mo rfl ?_
 refine .ia (i-15) .sub ?_
 refine .q (.fE (i-15) (by omega) rfl rfl rfl) ?_
 refine .q (.bK rfl (lC (lS (p3 (by omega))))) ?_
 refine .mo rfl ?_
 refine .ia (i-2) .sub ?_
 refine .q (.fE (i-2) (by omega) rfl rfl rfl) ?_
 refine .q (.bK rfl (lC (lS (p3 (by omega))))) ?_
 refine .ag rfl<|.ag rfl<|.z<|.mo rfl ?_
 refine .aL (lM _ 7 (by decide) _) (λu a=>?_)
 subst a
 refine .mo rfl ?_
 refine .aL (lM _ 18 (by decide) _) (λu a=>?_)
 subst a
 refine .q (.gy rfl rfl) ?_
 refine .mo rfl ?_
 refine .q (.mL (n:=3) rfl rfl (by decide)) ?_
 refine .q (.gy rfl rfl) ?_
 refine .ag rfl<|.z<|.mo rfl ?_
 refine .aL (lM _ 17 (by decide) _) (λu a=>?_)
 subst a
 refine .mo rfl ?_
 refine .aL (lM _ 19 (by decide) _) (λu a=>?_)
 subst a
 refine .q (.gy rfl rfl) ?_
 refine .mo rfl ?_
 refine .q (.mL (n:=10) rfl rfl (by decide)) ?_
 refine .q (.gy rfl rfl) ?_
 refine .az rfl ?_
 refine .dc 15 mixed (by kernel_rfl) ?_
 conv=>arg 6;dsimp only[List.take]
 refine .mo rfl<|.mo rfl ?_
 refine .ia (i-16) .sub ?_
 refine .q (.fE (i-16) (by omega) rfl rfl rfl) ?_
 refine .q (.bK rfl (lC (lS (p3 (by omega))))) ?_
 refine .mo rfl<|.q (.fg rfl rfl) ?_
 refine .mo rfl ?_
 refine .ia (i-7) .sub ?_
 refine .q (.fE (i-7) (by omega) rfl rfl rfl) ?_
 refine .q (.bK rfl (lC (lS (p3 (by omega))))) ?_
 refine .q (.fg rfl rfl) ?_
 refine .mo rfl<|.q (.fg rfl rfl) ?_
 refine .q (.fE i (by omega) rfl rfl rfl) ?_
 refine .nil ?_
 refine .cH rfl rfl ?_ (by rw[kU,d];omega)
 rw[th (i:=i) (by omega) (by rw[d];omega),p,tG (by omega)]
 refine .nil<|bw<|aD<|.region<|.mo rfl ?_
 refine .ia (i+1) .add ?_
 refine .ag rfl<|.nil ?_
 ·exact bd (i+1) ⟨by omega,by omega⟩ (by omega) kE.c.c.c.c rH
 have x:i=64:=by have:=bi m;omega
 subst x
 rw[yR]
 refine .exit<|bE<|bH<|bF<|aD<|.sr ?_
 refine .q (.bI rfl (by rw[kU,iU])) ?_
 refine .cc rfl rfl ?_ (by rw[kU,iU]) (by rw[kU,iU];exact ac7 _)
 rw[kQ (by rw[kU,iU];rfl)]
 refine .zn ?_
 refine .ret (aN _ (.one (.dO rfl (by rw[kU,iU]))) (.none _) ?_)
 ·exact⟨rfl,rfl⟩
def ly(l m:List da)(i:Nat):List da:=(List.zipWith (· + ·) l m).take i++l.drop i
theorem yN{l m:List da}{i:Nat}(h:l.length=m.length)(a:i<=l.length):(ly l m i).length=l.length:=by
 simp[ly,h];omega
theorem yM{l m:List da}{i:Nat}(h:l.length=m.length)(b:i<l.length):(ly l m i)[i]? =l[i]? :=by
 unfold ly
 have a:((List.zipWith (· + ·) l m).take i).length=i:=by simp;omega
 rw[List.getElem?_append_right (by omega),a,adj,List.getElem?_drop,Nat.add_zero]
theorem yO{l m:List da}{i:Nat}{x y:da}(a:l[i]? =some x)(b:m[i]? =some y):(ly l m i).set i (x+y)=ly l m (i+1):=by
 unfold ly
 obtain⟨d,e⟩:=List.getElem?_eq_some_iff.1 a
 obtain⟨f,g⟩:=List.getElem?_eq_some_iff.1 b
 have c:((List.zipWith (· + ·) l m).take i).length=i:=by simp;omega
 rw[adk _ _ (by omega),c,adj,lC a,adl,adg]
 have:(List.zipWith (· + ·) l m)[i]? =some (x+y):=by rw[List.getElem?_zipWith,a,b]
 rw[this]
 simp
theorem sU{s:er}:s.dk.length=8:=rfl
theorem yL{s x:er}:ly s.dk x.dk 8=(po s x).dk:=rfl
theorem KF{i:Nat}(h:i<64):(wv ks)[i]? =some (.int .u32 ((ks.getD i 0).toNat:Int)):=by
 have a:ks.length=64:=rfl
 refine lS ?_
 rw[adi,bB (by omega)]
 rfl
theorem Ox{b:List UInt8}{i:Nat}(h:i<64):(wv (sched b 64))[i]? =some (.int .u32 (((sched b 64).getD i 0).toNat:Int)):=lS (nS h)
theorem KZ(s:er)(v:Value)(b:List UInt8)(R:au)(h:RS R 1 cK v b)(H:64<=b.length)(J:PC R (pT 1) (wv ks)):
  Spec prog 298 [.agg (wv s.dk).toArray,v] R [] λu H'=>u=.agg (wv (comp s b).dk).toArray/\H'=[]:=by
 have K:=h.av
 refine Spec.body func298 rfl results298 ntmps298 rfl ?_
 refine .sr ?_
 refine .dA rfl (λg=>?_)
 refine .cG (λj=>?_)
 refine .z<|.mo rfl ?_
 refine .aL (Ns v b _ h.rx H) (λu d=>?_)
 subst d
 obtain⟨w,o⟩:∃w,w=sched b 64:=⟨_,rfl⟩
 have A:w.length=64:=by rw[o];exact iU 64
 have I:∀i,i<64->(wv w)[i]? =some (.int .u32 ((w.getD i 0).toNat:Int)):=λi k=>by rw[o];exact Ox k
 rw[<-o]
 refine .cG (λp=>?_)
 refine .cc rfl rfl ?_ (by rw[kU,A]) (by rw[kU,A];exact ac7 _)
 rw[kQ (by rw[kU,A];rfl)]
 refine .z<|.q (.bI rfl) ?_
 refine .cG (λe=>?_)
 refine .cc rfl rfl ?_ rfl (ac8 rfl)
 rw[kQ (by rfl)]
 refine .zs<|.sr<|.q (.bI rfl)<|.mo rfl<|.zn<|.block ?_
 refine .loop (X:=Nat) (λi=>i<=64) (λi=>[(2,pT g),(4,pT j),(5,pT p),(6,pT e),(17,.agg (wv ks).toArray),(18,iN i)]) (λi=>[bl e (wv (rounds w s i).dk) 315,bl p (wv w) 308,bl j (wv (List.replicate 8 0#32)) 315,bl g (wv s.dk) 315]) (λi=>64-i) 0 (ac5 _) kE.c.c.c.c.c.c rH ?_
 rintro i k
 refine .sr<|.q .lss<|.zs ?_
 refine .cond rfl (λr=>?_) λr=>?_
 have a:i<64:=dT r
 obtain⟨x,f⟩:∃x,x=rounds w s i:=⟨_,rfl⟩
 rw[<-f]
 refine .kn<|.seq<|.block<|.sr<|.mo rfl<|.q (.vF i (KF a) a rfl rfl rfl) ?_
 refine .ag rfl<|.ag rfl<|.zs ?_
 refine .iA mixed (by kernel_rfl) ?_
 refine .q (.fE 0 (by decide) rfl rfl rfl) ?_
 refine .lo rfl ?_
 refine .q (.fE 4 (by decide) rfl rfl rfl) ?_
 refine .lo rfl<|.ag rfl<|.ag rfl<|.zs<|.cP [] mixed ?_
 refine .tO 0 rfl (.fE 7 (by decide) rfl rfl rfl) ?_
 refine .tO 1 rfl (.bK rfl)<|.tO 2 rfl .move<|.tO 4 rfl .move<|.tO 7 rfl .move<|.tO 11 rfl .move ?_
 refine .tO 12 rfl (.fE 5 (by decide) rfl rfl rfl) ?_
 refine .tO 13 rfl (.bK rfl) ?_
 refine .tO 14 rfl (.lA rfl rfl) ?_
 refine .tO 15 rfl .move ?_
 refine .tO 16 rfl (.zX rfl) ?_
 refine .tO 17 rfl (.fE 6 (by decide) rfl rfl rfl) ?_
 refine .tO 18 rfl (.bK rfl) ?_
 refine .tO 19 rfl (.lA rfl rfl) ?_
 refine .tO 20 rfl (.gy rfl rfl) ?_
 refine .tO 22 rfl .move<|.tO 24 rfl .move ?_
 refine .tO 25 rfl (.fE i a rfl rfl rfl) ?_
 refine .eA 26 rfl (.bK rfl (lC (I i a))) (by kernel_rfl) ?_
 refine .sT 3 rfl ?_
 refine .aL (lM _ 6 (by decide) _) (λu d=>?_)
 subst d
 refine .nil (Next.sub ?_)
 refine .sT 5 rfl ?_
 refine .aL (lM _ 11 (by decide) _) (λu d=>?_)
 subst d
 refine .nil (Next.sub ?_)
 refine .tO 6 rfl (.gy rfl rfl) ?_
 refine .sT 8 rfl ?_
 refine .aL (lM _ 25 (by decide) _) (λu d=>?_)
 subst d
 refine .nil (Next.sub ?_)
 refine .tO 9 rfl (.gy rfl rfl) ?_
 refine .tO 10 rfl (.fg rfl rfl) ?_
 refine .tO 21 rfl (.fg rfl rfl) ?_
 refine .tO 23 rfl (.fg rfl rfl) ?_
 refine .tO 27 rfl (.fg rfl rfl) ?_
 refine .tO 28 rfl .assign ?_
 refine RA.nil (by kernel_rfl) ?_
 refine aD<|.seq<|.cP [] mixed ?_
 refine .tO 0 rfl .move<|.tO 2 rfl .move<|.tO 5 rfl .move<|.tO 8 rfl .move ?_
 refine .tO 9 rfl (.fE 1 (by decide) rfl rfl rfl) ?_
 refine .tO 10 rfl (.bK rfl) ?_
 refine .tO 11 rfl (.lA rfl rfl) ?_
 refine .tO 12 rfl .move ?_
 refine .tO 13 rfl (.fE 2 (by decide) rfl rfl rfl) ?_
 refine .tO 14 rfl (.bK rfl) ?_
 refine .tO 15 rfl (.lA rfl rfl) ?_
 refine .tO 16 rfl (.gy rfl rfl) ?_
 refine .tO 17 rfl (.fE 1 (by decide) rfl rfl rfl) ?_
 refine .tO 18 rfl (.bK rfl) ?_
 refine .tO 19 rfl (.fE 2 (by decide) rfl rfl rfl) ?_
 refine .tO 20 rfl (.bK rfl) ?_
 refine .tO 21 rfl (.lA rfl rfl) ?_
 refine .tO 22 rfl (.gy rfl rfl) ?_
 refine .sT 1 rfl ?_
 refine .aL (lM _ 2 (by decide) _) (λu d=>?_)
 subst d
 refine .nil (Next.sub ?_)
 refine .sT 3 rfl ?_
 refine .aL (lM _ 13 (by decide) _) (λu d=>?_)
 subst d
 refine .nil (Next.sub ?_)
 refine .tO 4 rfl (.gy rfl rfl) ?_
 refine .sT 6 rfl ?_
 refine .aL (lM _ 22 (by decide) _) (λu d=>?_)
 subst d
 refine .nil (Next.sub ?_)
 refine .tO 7 rfl (.gy rfl rfl) ?_
 refine .tO 23 rfl (.fg rfl rfl) ?_
 refine .tO 24 rfl .assign ?_
 refine RA.nil (by kernel_rfl) ?_
 refine aD<|.seq ?_
 refine .dc 2 mixed (by kernel_rfl) ?_
 conv=>arg 6;dsimp only[List.take]
 refine .q (.sJ 1 8 rfl ⟨_,rfl⟩ rfl (by decide) (by decide) (by decide)) ?_
 refine .q (.sJ 0 7 rfl rfl ⟨_,rfl⟩ (by decide) (by decide) (by decide)) ?_
 refine .nil ?_
 refine .zZ (b:=e) (E:=315) (lo:=1) (vs:=wv x.dk) (ys:=((wv x.dk).drop 0).take 7) (RS.ze (b:=e) (E:=315) (fr:=(0,0)) (lo:=0) (n:=7) (cap:=8) (.inr (by simp)) qW (ac8 rfl) (by decide) (by decide)) rfl rfl rfl (ac8 rfl) ?_
 refine .z ?_
 refine .q (.fE 4 (by decide) rfl rfl rfl) ?_
 refine .lo rfl<|.mo rfl<|.q (.fg rfl rfl) ?_
 refine .q (.fE 4 (by decide) rfl rfl rfl) ?_
 refine .cH rfl rfl<|.zn<|.region<|.mo rfl<|.mo rfl<|.q (.fg rfl rfl) ?_
 refine .q (.fE 0 (by decide) rfl rfl rfl) ?_
 refine .cH rfl rfl<|.nil<|bw<|aD<|.region ?_
 refine .ia (i+1) .add ?_
 refine .mo rfl<|.nil ?_
 ·exact bd (i+1) a (by omega) kE.c.c.c.c.c.c (by rw[show rounds w s (i+1)=sC x (ks.getD i 0) (w.getD i 0) by rw[f];rfl];exact aU.refl _)
 have F:i=64:=by have:=bi r;omega
 subst F
 obtain⟨x,f⟩:∃x,x=rounds w s 64:=⟨_,rfl⟩
 rw[<-f]
 refine .exit<|bE<|bH<|bF<|aD<|.seq<|.sr<|.mo rfl<|.zn<|.block ?_
 refine .loop (X:=Nat) (λi=>i<=8) (λi=>[(2,pT g),(4,pT j),(6,pT e),(91,iN i)]) (λi=>[bl e (wv x.dk) 315,bl p (wv w) 308,bl j (wv (List.replicate 8 0#32)) 315,bl g (wv (ly s.dk x.dk i)) 315]) (λi=>8-i) 0 (ac5 _) kE.c.c.c.c rH ?_
 rintro i k
 have B:(ly s.dk x.dk i).length=8:=yN (l:=s.dk) (m:=x.dk) rfl k
 refine .sr<|.q .lss<|.zs ?_
 refine .cond rfl (λt=>?_) λt=>?_
 have a:i<8:=dT t
 obtain⟨y,C⟩:∃y,s.dk[i]? =some y:=⟨_,bB (by rw[sU];exact a)⟩
 obtain⟨z,D⟩:∃z,x.dk[i]? =some z:=⟨_,bB (by rw[sU];exact a)⟩
 refine .kn<|.seq<|.block<|.sr<|.mo rfl<|.az rfl ?_
 refine .dc 8 mixed (by kernel_rfl) ?_
 conv=>arg 6;dsimp only[List.take]
 refine .mo rfl<|.q (.fE i a rfl rfl rfl) ?_
 refine .q (.bK rfl (lC (lS ((yM (l:=s.dk) (m:=x.dk) rfl a).trans C)))) ?_
 refine .mo rfl<|.q (.fE i a rfl rfl rfl) ?_
 refine .q (.bK rfl (lC (lS D))) ?_
 refine .q (.fg rfl rfl) ?_
 refine .q (.fE i a rfl rfl rfl) ?_
 refine .nil ?_
 refine .cH rfl rfl ?_ (by rw[kU,B];omega)
 rw[th (i:=i) (by omega) (by rw[B];omega),yO C D]
 refine .nil<|bw<|aD<|.region ?_
 refine .ia (i+1) .add ?_
 refine .mo rfl<|.nil ?_
 ·exact bd (i+1) a (by omega) kE.c.c.c.c rH
 have G:i=8:=by have:=bi t;omega
 subst G
 rw[yL]
 refine .exit<|bE<|bH<|bF<|aD<|.sr<|.q (.bI rfl) ?_
 refine .cc rfl rfl ?_ rfl (ac8 rfl)
 rw[kQ (by rfl)]
 refine .zn ?_
 refine .ret (aN _ (.one (.dO rfl rfl)) (.none _) ?_)
 ·exact⟨by rw[f,o];rfl,rfl⟩
theorem ON(m:Nat):IntKind.u8.wrap (m:Int)=((UInt8.ofNat m).toNat:Int):=by
 rw[tg,BitVec.ofInt_natCast]
 simp
theorem fdiv_pow(m k:Nat):(m:Int).fdiv (2^k)=((m/2^k:Nat):Int):=by
 rw[Int.fdiv_eq_ediv_of_nonneg _ (Int.le_of_lt (Int.pow_pos (by decide)))]
 simp
theorem yi(m k:Nat):(m:Int).tmod (k:Int)=((m % k:Nat):Int):=by
 rw[Int.tmod_eq_emod_of_nonneg (by omega)]
 simp
def mi(n:Nat):List UInt8:=[gH n 0,gH n 1,gH n 2,gH n 3,gH n 4,gH n 5,gH n 6,gH n 7]
def lH(n z i:Nat):List UInt8:=128::List.replicate z 0++((mi n).take i++List.replicate (8-i) 0)
theorem Lz{n z i:Nat}(h:i<=8):(lH n z i).length=1+z+8:=by
 simp[lH,mi];omega
theorem vO{n i:Nat}(h:i<8):(mi n)[i]? =some (gH n i):=by
 match i,h with
 |0,_=>rfl
 |1,_=>rfl
 |2,_=>rfl
 |3,_=>rfl
 |4,_=>rfl
 |5,_=>rfl
 |6,_=>rfl
 |7,_=>rfl
theorem LA{n z i:Nat}(h:i<8):(lH n z i).set (1+z+i) (gH n i)=lH n z (i+1):=by
 unfold lH
 have a:(128::List.replicate z (0:UInt8)).length=1+z:=by simp;omega
 have b:((mi n).take i).length=i:=by simp[mi];omega
 rw[adk _ _ (by rw[a];omega),a,show 1+z+i-(1+z)=i by omega,adk _ _ (by rw[b];exact ac7 _),b,adj,show 8-i=(8-(i+1))+1 by omega,ado,adl,adg,vO h]
 simp
theorem LD(n:Nat)(v:n<=1000000)(R:au):Spec prog 299 [iN n] R [] λu H'=>∃T,H'=[T]/\OS 5 1 cK u (iq n) T:=by
 obtain⟨z,m⟩:∃z,z=(119-n % 64) % 64:=⟨_,rfl⟩
 refine Spec.body func299 rfl results299 ntmps299 rfl ?_
 refine .sr<|.ag rfl<|.z<|.mo rfl<|.q .rem ?_
 rw[show(n:Int).tmod 64=((n % 64:Nat):Int)from yi n 64]
 refine .ia (119-n % 64) .sub ?_
 refine .q .rem ?_
 rw[show((119-n % 64:Nat):Int).tmod 64=((z:Nat):Int) by rw[m];exact yi _ 64]
 refine .ag rfl<|.z<|.mo rfl ?_
 refine .ia (1+z) .add ?_
 refine .ia (1+z+8) .add ?_
 refine .makeSlice (enc:=cK) (1+z+8) (0:UInt8) rfl rfl (by decide) (by decide) rfl rfl (by omega) (by omega) (λb T f=>?_)
 have w:z<64:=by omega
 refine .ag rfl<|.z<|.mo rfl ?_
 refine .ba 0 f (show(List.replicate (1+z+8) (0:UInt8))[0]? =some 0 by simp) (λx=>?_)
 refine .eH 0 f (show(List.replicate (1+z+8) (0:UInt8))[0]? =some 0 by simp) (128:UInt8) (λo g=>?_)
 have s:(List.replicate (1+z+8) (0:UInt8)).set 0 128=lH n z 0:=by
  unfold lH
  rw[show 1+z+8=(z+8)+1 by omega,ado,adl,List.take_zero,adm,List.cons_append,List.replicate_append_replicate]
 rw[s]at g
 refine .zs<|.sr<|.mo rfl<|.zn<|.block ?_
 refine .loop (X:=Nat×ax) (λy=>y.1<=8/\OS 5 1 cK (.slice (some ⟨b,0,none⟩) (1+z+8) (1+z+8)) (lH n z y.1) y.2) (λy=>[(0,iN n),(3,iN z),(4,.slice (some ⟨b,0,none⟩) (1+z+8) (1+z+8)),(16,iN y.1)]) (λy=>[y.2]) (λy=>8-y.1) (0,o) ⟨ac5 _,g⟩ kE.c.c.c.c rH ?_
 rintro⟨i,r⟩ ⟨j,a⟩
 simp only at j a⊢
 refine .sr<|.q .lss<|.zs ?_
 refine .cond rfl (λd=>?_) λd=>?_
 have k:i<8:=dT d
 obtain⟨y,l⟩:∃y,(lH n z i)[1+z+i]? =some y:=⟨_,bB (by rw[Lz j];omega)⟩
 refine .kn<|.seq<|.block<|.sr<|.mo rfl<|.az rfl<|.region<|.mo rfl<|.mo rfl ?_
 refine .ia (1+z) .add ?_
 refine .mo rfl ?_
 refine .ia (1+z+i) .add ?_
 refine .mo rfl ?_
 refine .q (.u64 ((n:Nat):Int) .gW ⟨rfl,by omega,by omega⟩) ?_
 refine .q (.u64 ((n*8:Nat):Int) .mul ⟨by omega,by omega,by omega⟩) ?_
 refine .mo rfl ?_
 refine .ia (8*i) .mul ?_
 refine .ia (56-8*i) .sub ?_
 refine .q .qK ?_
 rw[show min (((56-8*i:Nat):Int)).toNat IntKind.u64.bits=56-8*i by simp only[IntKind.bits];omega,fdiv_pow]
 refine .q .gW ?_
 rw[ON]
 refine .ba (1+z+i) a l (λA=>?_)
 refine .eH (1+z+i) a l (gH n i) (λp h=>?_)
 rw[LA k]at h
 refine .nil<|bw<|aD<|.region ?_
 refine .ia (i+1) .add ?_
 refine .mo rfl<|.nil ?_
 ·exact bd (i+1,p) ⟨k,h⟩ (by simp only;omega) kE.c.c.c.c rH
 have t:i=8:=by have:=bi d;omega
 subst t
 refine .exit<|bE<|bH<|bF<|aD<|.sr<|.mo rfl<|.az rfl ?_
 refine .ret (aN _ (.one (.tmp rfl)) (.one [0] _) ?_)
 ·exact⟨r,by simp[take],by have e:iq n=lH n z 8:=(by rw[m];rfl);rw[e];exact a⟩
theorem J2(R:au):Spec prog 297 [] R [] λu H'=>u=.agg (wv H0.dk).toArray/\H'=[]:=by
 refine Spec.body func297 rfl results297 ntmps297 rfl ?_
 refine .sr ?_
 refine .cG (λa=>?_)
 refine .z<|.q .tR<|.cc rfl rfl<|.zn ?_
 refine .ret (aN _ (.one (.dO rfl rfl)) (.none _) ?_)
 ·exact⟨rfl,rfl⟩
def iF(s:er)(made:Bool)(vr:Value)(n:Nat):List Value:=wv s.dk++[.bool made,vr,iN n]
def pW(b:Nat)(s:er)(made:Bool)(r:List UInt8)(n:Nat)(T:ax):Prop:=∃vr Tr,T=(b,.cells (iF s made vr n).toArray 317 (0,0))::Tr/\OS 5 1 cK vr r Tr
def Z0:er:=⟨0,0,0,0,0,0,0,0⟩
theorem Ku(R:au):Spec prog 287 [] R [] λu H'=>∃T,H'=[T]/\∃b,u=pT b/\pW b Z0 false [] 0 T:=by
 refine Spec.body func287 rfl results287 ntmps287 rfl ?_
 refine .sr<|.ag rfl<|.z ?_
 refine .q .du ?_
 refine .dA rfl (λa=>?_)
 refine .az rfl ?_
 refine .ret (aN _ (.one (.tmp rfl)) (.one [0] _) ?_)
 ·exact⟨_,by simp[take];rfl,_,rfl,sZ,[],rfl,OS.nil⟩
theorem yB(b:Nat)(s:er)(d:Bool)(r:List UInt8)(n:Nat)(T:ax)(v:Value)(l:List UInt8)(R:au)(J:pW b s d r n T)(h:RS R 1 cK v l)(Q:r.length<=1000)(N:l.length<=100000)(O:n<=100000)(K:PC R (pT 1) (wv ks)):
  Spec prog 288 [pT b,v] R [T] λu H'=>∃T',H'=[T']/\u=.tuple #[]/\pW b (blocks (if d then s else H0) (r++l)) true (lh (r++l)) (n+l.length) T':=by
 obtain⟨j,F,rfl,G⟩:=J
 have Y:=G.av
 have Z:=h.av
 obtain⟨p,o⟩:∃p,p=(if d then s else H0):=⟨_,rfl⟩
 rw[<-o]
 refine Spec.cX (H':=[bl b (iF s d j n) 317,F]) (by simp) ?_
 refine Spec.body func288 rfl results288 ntmps288 rfl ?_
 refine .seq<|.sr<|.mo rfl<|.q (.uN rfl rfl) ?_
 refine .zn<|.bX<|.kn<|.seq<|.sr<|.mo rfl<|.nc rfl<|.fa rfl<|.lo rfl<|.q .not<|.zn ?_
 refine bO.cut (X:=Unit) (λ_=>True) (λ_=>[(0,pT b),(1,v)]) (λ_=>[bl b (iF p true j n) 317,F]) ?_ ?_
 refine .cond rfl (λk=>?_) λk=>?_
 refine .region<|.mo rfl<|.mo rfl ?_
 refine .aL (J2 _) (λu D=>?_)
 subst D
 refine .nc rfl<|.fa rfl ?_
 refine .cc rfl rfl ?_ rfl (ac8 rfl)
 rw[show bZ (iF s d j n) (0+0) (wv H0.dk)=iF H0 d j n from rfl]
 refine .nc rfl<|.fa rfl<|.cH rfl rfl ?_
 rw[show bZ (iF H0 d j n) (0+8) [.bool true]=iF H0 true j n from rfl]
 refine .nil ?_
 ·first
   |exact aA () trivial kE.c.c (by rw[o,if_neg (by simpa using k)];exact aU.refl _)
   |exact aA () trivial kE.c.c (by have m:d=true:=(by simpa using k);rw[o,if_pos m,m];exact aU.refl _)
 refine .skip ?_
 ·first
   |exact aA () trivial kE.c.c (by rw[o,if_neg (by simpa using k)];exact aU.refl _)
   |exact aA () trivial kE.c.c (by have m:d=true:=(by simpa using k);rw[o,if_pos m,m];exact aU.refl _)
 intro x S
 refine aD<|.sr<|.mo rfl<|.nc rfl<|.fa rfl<|.lo rfl<|.mo rfl<|.q (.di h) ?_
 refine .ia (n+l.length) .add ?_
 refine .nc rfl<|.fa rfl<|.cH rfl rfl<|.z<|.mo rfl<|.mo rfl<|.nc rfl<|.fa rfl<|.lo rfl<|.mo rfl ?_
 refine .append G h.rx (by omega) (λM I H=>?_)
 have U:=H.av
 refine .nc rfl<|.fa rfl<|.cH rfl rfl<|.zn<|.block ?_
 refine .loop (X:=er×List UInt8×Value×ax) (λy=>(blocks y.1 y.2.1=blocks p (r++l)/\lh y.2.1=lh (r++l))/\OS 5 1 cK y.2.2.1 y.2.1 y.2.2.2/\y.2.1.length<=200000) (λy=>[(0,pT b)]) (λy=>[bl b (iF y.1 true y.2.2.1 (n+l.length)) 317,y.2.2.2]) (λy=>y.2.1.length) (p,r++l,M,I) ⟨⟨rfl,rfl⟩,H,by simp only[adf];omega⟩ kE.c rH ?_
 rintro⟨e,a,i,A⟩ ⟨⟨t,w⟩,g,L⟩
 simp only at t w g L⊢
 have W:=g.av
 refine .seq<|.sr<|.mo rfl<|.nc rfl<|.fa rfl<|.lo rfl<|.q (.ei g) ?_
 refine .q .geq<|.zn ?_
 refine .cond rfl (λB=>?_) λB=>?_
 have f:64<=a.length:=by have:=bq B;omega
 refine .kn<|.block<|.seq<|.cP [12] mixed ?_
 refine .tO 0 rfl .move<|.tO 1 rfl .move<|.tO 2 rfl (.nilCheck rfl)<|.tO 3 rfl (.fieldAddr rfl) ?_
 refine .tO 4 rfl (.loadT rfl) ?_
 refine .tO 5 rfl .move<|.tO 6 rfl (.nilCheck rfl)<|.tO 7 rfl (.fieldAddr rfl)<|.tO 8 rfl (.bK rfl) ?_
 refine .sT 9 rfl ?_
 refine .aL (KZ e i a _ g.rx f K.rx) (λu D=>?_)
 subst D
 refine .nil (Next.sub ?_)
 refine .tO 10 rfl (.nilCheck rfl)<|.tO 11 rfl (.fieldAddr rfl) ?_
 refine .sT 12 rfl ?_
 refine .cc rfl rfl ?_ rfl (ac8 rfl)
 rw[show bZ (iF e true i (n+l.length)) (0+0) (wv (comp e a).dk)=iF (comp e a) true i (n+l.length)from rfl]
 refine .nil (Next.mod rfl ?_)
 refine RA.nil (by kernel_rfl) ?_
 refine aD<|.region<|.mo rfl<|.mo rfl<|.nc rfl<|.fa rfl<|.lo rfl ?_
 refine .nX 64 a.length g ⟨_,rfl⟩ rfl (by omega) (ac7 _) (λE C=>?_)
 rw[List.take_of_length_le (by rw[adh];exact ac7 _)]at C
 have V:=C.av
 refine .nc rfl<|.fa rfl<|.cH rfl rfl ?_
 rw[show bZ (iF (comp e a) true i (n+l.length)) (0+9) [E]=iF (comp e a) true E (n+l.length)from rfl]
 refine .nil<|bw ?_
 ·exact bd (comp e a,a.drop 64,E,A) ⟨⟨by rw[<-t,p6 f],by rw[<-w,rY f]⟩,C,by simp only[adh];omega⟩ (by simp only[adh];omega) kE.c rH
 have f:¬64<=a.length:=by have:=bi B;omega
 rw[rf f]at t
 rw[rZ f]at w
 refine .exit<|bE<|bH<|bF ?_
 refine ed _ .none (aU.bu (H':=[(b,.cells (iF e true i (n+l.length)).toArray 317 (0,0))::A]) (by simp)) ?_
 ·exact⟨_,rfl,rfl,i,A,by rw[t],by rw[<-w];exact g⟩
def uv(l:List UInt8):List Value:=l.map λb=>Value.int .u8 (b.toNat:Int)
theorem mw{l:List UInt8}:(uv l).length=l.length:=List.length_map ..
theorem Oj{l:List UInt8}:∀u∈uv l,av u=true:=λu a=>by
 obtain⟨x,_,rfl⟩:=List.mem_map.1 a
 rfl
instance Pa{l:List UInt8}:bG (uv l):=⟨Oj⟩
theorem pD{l:List UInt8}{k:Nat}{x:UInt8}(h:k<l.length):bZ (uv l) k [.int .u8 (x.toNat:Int)]=uv (l.set k x):=by
 rw[xU (by rw[mw];exact h)]
 unfold uv
 rw[List.map_set]
theorem Oi{l:List UInt8}{i:Nat}{x:UInt8}(h:l[i]? =some x):(uv l)[i]? =some (.int .u8 (x.toNat:Int)):=by
 unfold uv
 rw[List.getElem?_map,h];rfl
def nY(s:er)(i:Nat):List UInt8:=(jU s).take (4*i)++List.replicate (32-4*i) 0
theorem NC{s:er}{i:Nat}(h:i<=8):(nY s i).length=32:=by
 have:(jU s).length=32:=rfl
 simp[nY,this];omega
theorem ND{s:er}{i:Nat}{x:da}(h:i<8)(a:s.dk[i]? =some x):((((nY s i).set (4*i) (byteOf x 24)).set (4*i+1) (byteOf x 16)).set (4*i+2) (byteOf x 8)).set (4*i+3) (byteOf x 0)=nY s (i+1):=by
 match i,h,a with
 |0,_,a=>cases a;rfl
 |1,_,a=>cases a;rfl
 |2,_,a=>cases a;rfl
 |3,_,a=>cases a;rfl
 |4,_,a=>cases a;rfl
 |5,_,a=>cases a;rfl
 |6,_,a=>cases a;rfl
 |7,_,a=>cases a;rfl
theorem zh{x:da}:UInt8.ofBitVec (x.setWidth 8)=byteOf x 0:=by unfold byteOf;rw[BitVec.ushiftRight_zero]
theorem xd(n:Nat):(iq n).length<=100:=by simp[iq];omega
theorem NE(b:Nat)(s:er)(d:Bool)(r:List UInt8)(n:Nat)(T:ax)(R:au)(F:pW b s d r n T)(y:∀p∈T,R p.1 p.2)(M:r.length<=1000)(K:n<=100000)(H:PC R (pT 1) (wv ks)):
  Spec prog 289 [pT b] R [] λu H'=>u=.agg (uv (jU (blocks (if d then s else H0) (r++iq n)))).toArray/\H'=[]:=by
 obtain⟨m,W,rfl,t⟩:=F
 have ir:=t.av
 have ph:PC R (pT b) (iF s d m n):=PC.of (E:=317) (fr:=(0,0)) (y (b,.cells (iF s d m n).toArray 317 (0,0)) (by simp))
 have L:RS R 1 cK m r:=t.rs λp l=>y p (by simp[l])
 refine Spec.cX (H':=[[]]) (by simp) ?_
 refine Spec.body func289 rfl results289 ntmps289 rfl ?_
 refine .sr ?_
 refine .cG (λh=>?_)
 refine .z ?_
 refine .cG (λj=>?_)
 refine .zs<|.sr<|.mo rfl<|.q (.uN rfl rfl) ?_
 refine .zn<|.bX<|.kn<|.seq<|.cP [12] mixed ?_
 refine .tK 0 rfl .move ?_
 refine .tK 1 rfl (.mJ rfl) ?_
 refine .tK 2 rfl (.gm rfl) ?_
 refine .tK 3 rfl (.loadT rfl) ?_
 refine .tK 4 rfl .move ?_
 refine .tK 5 rfl (.mJ rfl) ?_
 refine .tK 6 rfl (.gm rfl) ?_
 refine .tK 7 rfl (.bK rfl)<|.tO 8 rfl .move<|.tO 9 rfl (.nilCheck rfl)<|.tO 10 rfl (.fieldAddr rfl)<|.tO 11 rfl (.bK rfl)<|.tK 13 rfl .move ?_
 refine .tK 14 rfl (.mJ rfl) ?_
 refine .tK 15 rfl (.gm rfl) ?_
 refine .tK 16 rfl (.bK rfl) ?_
 refine .sT 12 rfl ?_
 refine .append (OS.nil (enc:=cK) (sz:=1)) L.rx (by simp;omega) (λv5 o f=>?_)
 have Z:=f.av
 rw[adm]at f
 obtain⟨Q,O,rfl,_⟩:=f.shape
 refine .nil (Next.mod rfl ?_)
 refine .tK 17 rfl .du ?_
 refine .sT 18 rfl ?_
 refine .dA rfl (λe=>?_)
 refine .nil (Next.mod rfl ?_)
 refine .tK 19 rfl .assign ?_
 refine RA.nil (by kernel_rfl) ?_
 refine aD<|.sr ?_
 refine .sub (H':=[(e,.cells (iF s d (.slice Q r.length O) n).toArray 317 (0,0))::o,bl j (uv (List.replicate 32 0)) 284,bl h (uv (List.replicate 32 0)) 284]) ((aH [0,2,0,0]).trans (aU.bu (by simp[take,aY];exact .refl _))) ?_
 refine .mo rfl<|.mo rfl<|.nc rfl<|.fa rfl<|.lo rfl ?_
 refine .cW (LD n (by omega) _) (λS U v=>?_)
 have i6:=v.av
 refine .jK (yB e s d r n _ S (iq n) _ ⟨_,o,rfl,f⟩ (v.rs λp l=>.inr (by simp[l])) M (by have:=xd n;omega) K H.rx) (λu V N=>?_)
 obtain⟨rfl,G⟩:=N
 obtain⟨C,D,rfl,w⟩:=G
 have i7:=w.av
 generalize Y:blocks (if d then s else H0) (r++iq n)=st at w⊢
 have ps:PS ((e,.cells (iF st true C (n+(iq n).length)).toArray 317 (0,0))::D) (pT e) (iF st true C (n+(iq n).length)):=PS.of (E:=317) (fr:=(0,0)) (by simp)
 refine .zs<|.sr<|.mo rfl<|.nc rfl<|.fa rfl<|.q (.loadT rfl) ?_
 refine .mo rfl<|.zn<|.block ?_
 refine .loop (X:=Nat) (λi=>i<=8) (λi=>[(2,pT h),(3,pT j),(39,.agg (wv st.dk).toArray),(40,iN i)]) (λi=>[bl j (uv (nY st i)) 284,bl h (uv (List.replicate 32 0)) 284]) (λi=>8-i) 0 (ac5 _) kE.c.c.c.c (aH [2,2]) ?_
 rintro i I
 have a:=NC (s:=st) I
 refine .sr<|.q .lss<|.zs ?_
 refine .cond rfl (λk=>?_) λk=>?_
 have g:i<8:=dT k
 obtain⟨x,B⟩:∃x,st.dk[i]? =some x:=⟨_,bB (by rw[sU];exact g)⟩
 refine .kn<|.seq<|.block<|.sr<|.mo rfl<|.q (.vF i (lS B) g rfl rfl rfl) ?_
 refine .ag rfl<|.az rfl<|.region<|.mo rfl ?_
 refine .ia (4*i) .mul ?_
 refine .mo rfl ?_
 refine .ia (4*i) .mul ?_
 refine .ia (4*i+1) .add ?_
 refine .mo rfl ?_
 refine .ia (4*i) .mul ?_
 refine .ia (4*i+2) .add ?_
 refine .mo rfl ?_
 refine .ia (4*i) .mul ?_
 refine .ia (4*i+3) .add ?_
 refine .mo rfl ?_
 refine .q (.mL (n:=24) rfl rfl (by decide)) ?_
 refine .q (.narrow rfl) ?_
 refine .mo rfl ?_
 refine .q (.mL (n:=16) rfl rfl (by decide)) ?_
 refine .q (.narrow rfl) ?_
 refine .mo rfl ?_
 refine .q (.mL (n:=8) rfl rfl (by decide)) ?_
 refine .q (.narrow rfl) ?_
 refine .mo rfl<|.q (.narrow rfl) ?_
 refine .q (.fE (4*i) (by omega) rfl rfl rfl) ?_
 refine .cH rfl rfl ?_ (by rw[mw,a];omega)
 rw[ade,pD (by rw[a];omega)]
 refine .q (.fE (4*i+1) (by omega) rfl rfl rfl) ?_
 refine .cH rfl rfl ?_ (by rw[mw,ac6,a];omega)
 rw[ade,pD (by rw[ac6,a];omega)]
 refine .q (.fE (4*i+2) (by omega) rfl rfl rfl) ?_
 refine .cH rfl rfl ?_ (by rw[mw,ac6,ac6,a];omega)
 rw[ade,pD (by rw[ac6,ac6,a];omega)]
 refine .q (.fE (4*i+3) (by omega) rfl rfl rfl) ?_
 refine .cH rfl rfl ?_ (by rw[mw,ac6,ac6,ac6,a];omega)
 rw[ade,pD (by rw[ac6,ac6,ac6,a];omega),zh]
 have A:=ND g B
 unfold byteOf at A
 unfold byteOf
 rw[A]
 refine .nil<|bw<|aD<|.region ?_
 refine .ia (i+1) .add ?_
 refine .mo rfl<|.nil ?_
 ·exact bd (i+1) g (by omega) kE.c.c.c.c rH
 have J:i=8:=by have:=bi k;omega
 subst J
 rw[show nY st 8=jU st from rfl]
 refine .exit<|bE<|bH<|bF<|aD<|.sr<|.q (.bI rfl rfl) ?_
 refine .cc rfl rfl ?_ rfl (ac8 rfl)
 rw[kQ (by rfl)]
 refine .zn ?_
 refine .ret (aN _ (.one (.dO rfl rfl)) (.none _) ?_)
 ·exact⟨rfl,rfl⟩
theorem Ni(v:Value)(l:List UInt8)(R:au)(h:RS R 1 cK v l)(e:l.length<=100000)(d:PC R (pT 1) (wv ks)):
  Spec prog 264 [v] R [] λu H'=>u=.agg (uv (mr l)).toArray/\H'=[]:=by
 have o:=h.av
 have n:(mr l).length=32:=rfl
 refine Spec.body func264 rfl results264 ntmps264 rfl ?_
 refine .sr ?_
 refine .cG (λk=>?_)
 refine .z ?_
 refine .cW (Ku _) (λu f a=>?_)
 obtain⟨b,rfl,i⟩:=a
 refine .ag rfl<|.z<|.mo rfl<|.mo rfl ?_
 refine .bT (yB b Z0 false [] 0 f v l _ i h (by simp) e (by omega) d) (λu g a=>?_)
 obtain⟨rfl,c⟩:=a
 have m:=KL _ l rfl
 simp only[Bool.false_eq_true,if_false,adm,ade]at c
 refine .z<|.mo rfl ?_
 refine .aL (NE b _ true _ _ g _ c (λp j=>.inr (by simp[j])) (by omega) e d.rx) (λu a=>?_)
 subst a
 rw[if_pos rfl, <-zf _ l _ rfl,show jU (blocks H0 (l++iq l.length))=mr l from rfl]
 refine .cc rfl rfl ?_ rfl (ac8 rfl)
 rw[kQ (by rfl)]
 refine .zn ?_
 refine .ret (aN _ (.one (.dO rfl rfl)) (.none _) ?_)
 ·exact⟨rfl,rfl⟩
def kT(i:Nat):Nat:=72057594037927936/256^i
theorem NS{i:Nat}(h:i<8):kT i=2^(56-8*i):=by
 match i,h with
 |0,_=>rfl
 |1,_=>rfl
 |2,_=>rfl
 |3,_=>rfl
 |4,_=>rfl
 |5,_=>rfl
 |6,_=>rfl
 |7,_=>rfl
theorem NU(i:Nat):kT i/256=kT (i+1):=by
 unfold kT
 rw[Nat.div_div_eq_div_mul,Nat.pow_succ]
theorem NT(i:Nat):kT i<=72057594037927936:=Nat.div_le_self _ _
theorem Mz(v:Value)(l:List UInt8)(R:au)(h:RS R 1 cK v l)(Z:l.length<=100000):
  Spec prog 266 [v] R [] λu H'=>∃T,H'=[T]/\OS 5 1 cK u (l++iq l.length) T:=by
 obtain⟨M,L,rfl⟩:=h.val
 obtain⟨z,H⟩:∃z,z=(119-l.length % 64) % 64:=⟨_,rfl⟩
 refine Spec.cX (H':=[[]]) (by simp) ?_
 refine Spec.body func266 rfl results266 ntmps266 rfl ?_
 refine .sr<|.ag rfl<|.z<|.ag rfl<|.z<|.mo rfl<|.mo rfl ?_
 refine .append (OS.nil (enc:=cK) (sz:=1)) h.rx (by simp;omega) (λv1 S d=>?_)
 rw[adm]at d
 have I:=d.av
 refine .ag rfl<|.z<|.mo rfl ?_
 refine .hZ (λU=>?_)
 refine .append d (RS.lits (xs:=[(128:UInt8)]) rfl (by simp[cK]) (by simp[cK,av])) (by simp;omega) (λN s m=>?_)
 have J:=m.av
 refine .ag rfl<|.zs<|.block ?_
 refine .loop (X:=Nat×Value×ax) (λy=>y.1<=z/\OS 5 1 cK y.2.1 (l++128::List.replicate y.1 0) y.2.2) (λy=>[(0,.slice M l.length L),(3,y.2.1)]) (λy=>[y.2.2]) (λy=>z-y.1) (0,N,s) ⟨ac5 _,m⟩ kE.c.c (aH [1]) ?_
 clear d m I J
 rintro⟨k,r,t⟩ ⟨E,b⟩
 simp only at E b⊢
 have K:=b.av
 have G:(l++128::List.replicate k (0:UInt8)).length=l.length+1+k:=by simp;omega
 refine .seq<|.sr<|.mo rfl<|.q (.ei b) ?_
 refine .q (.lK 64 rfl rfl (by decide)) ?_
 rw[G]
 refine .q .dF<|.zn ?_
 refine .cond rfl (λg=>?_) λg=>?_
 have a0:(l.length+1+k) % 64≠56:=by simp at g;omega
 refine .kn<|.block<|.region<|.mo rfl ?_
 refine .hZ (λV=>?_)
 refine .append b (RS.lits (xs:=[(0:UInt8)]) rfl (by simp[cK]) (by simp[cK,av])) (by simp;omega) (λO w B=>?_)
 refine .ag rfl<|.nil<|bw ?_
 ·refine bd (k+1,O,w) ⟨by simp only;omega,?_⟩ (by simp only;omega) kE.c.c (aH [1])
  simp only
  rw[List.replicate_succ', <-List.cons_append, <-adb]
  exact B
 have Y:(l.length+1+k) % 64=56:=by simp at g;omega
 have F:k=z:=by omega
 subst F
 refine .exit<|bE<|bH<|bF<|aD<|.sr<|.mo rfl<|.q (.nG rfl) ?_
 refine .q (.qO rfl (by unfold eE;omega)) ?_
 refine .q (.u64 ((l.length*8:Nat):Int) .mul ⟨by omega,by omega,by omega⟩) ?_
 refine .ag rfl<|.z<|.ag rfl<|.zs<|.sr<|.az rfl<|.block ?_
 refine .loop (X:=Nat×Value×ax) (λy=>y.1<=8/\OS 5 1 cK y.2.1 ((l++128::List.replicate k 0)++(mi l.length).take y.1) y.2.2) (λy=>[(3,y.2.1),(4,.int .u64 (l.length*8:Nat)),(5,.int .u64 (kT y.1:Nat)),(6,iN y.1)]) (λy=>[y.2.2]) (λy=>8-y.1) (0,r,t) ⟨ac5 _,by rw[List.take_zero,List.append_nil];exact b⟩ (by show bf _ [(3,r),(4,.int .u64 (l.length*8:Nat)),(5,.int .u64 (kT 0:Nat)),(6,iN 0)];rw[show kT 0=72057594037927936 from by decide];exact kE.c.c.c.c) rH ?_
 clear b K
 rintro⟨i,v5,x⟩ ⟨C,f⟩
 simp only at C f⊢
 have i5:=f.av
 refine .seq<|.sr<|.mo rfl<|.q .lss<|.zn ?_
 refine .cond rfl (λj=>?_) λj=>?_
 have n:i<8:=dT j
 have p:=NS n
 have a1:0<kT i:=by rw[p];exact Nat.pow_pos (by decide)
 refine .kn<|.seq<|.block<|.sr<|.mo rfl<|.mo rfl<|.mo rfl ?_
 refine .q (.xt (kT i) rfl rfl (by omega) (by unfold eE;omega)) ?_
 refine .q (.sS rfl) ?_
 rw[show UInt8.ofNat (l.length*8/kT i)=gH l.length i by rw[p];rfl]
 refine .hZ (λW=>?_)
 refine .append f (RS.lits (xs:=[gH l.length i]) rfl (by simp[cK]) (by simp[cK,av])) (by simp;omega) (λQ A o=>?_)
 rw[adb,show(mi l.length).take i++[gH l.length i]=(mi l.length).take (i+1) by rw[adg,vO n];rfl]at o
 refine .az rfl<|.region<|.mo rfl ?_
 refine .q (.xt (a:=kT i) 256 rfl rfl (by decide) (by have:=NT i;unfold eE;omega)) ?_
 rw[NU]
 refine .ag rfl<|.nil<|bw<|aD<|.region<|.mo rfl ?_
 refine .ia (i+1) .add ?_
 refine .ag rfl<|.nil ?_
 ·exact bd (i+1,Q,A) ⟨n,o⟩ (by simp only;omega) kE.c.c.c.c (aH [1])
 have D:i=8:=by have:=bi j;omega
 subst D
 refine .exit<|bE<|bH<|bF<|aD<|.sr<|.mo rfl<|.az rfl ?_
 refine .ret (aN _ (.one (.tmp rfl)) (.one [0] _) ?_)
 ·refine⟨x,by simp[take],?_⟩
  have e:l++iq l.length=(l++128::List.replicate k 0)++(mi l.length).take 8:=by unfold iq;rw[<-H,adb];rfl
  rw[e]
  exact f
def m7(s:er)(k:Nat):List UInt8:=(jU s).take k++List.replicate (32-k) 0
theorem Lp{s:er}{k:Nat}(h:k<=32):(m7 s k).length=32:=by
 have:(jU s).length=32:=rfl
 simp[m7,this];omega
theorem Nw(s:er){k:Nat}(h:k<32):∃x,s.dk[k/4]? =some x/\(jU s)[k]? =some (byteOf x (24-8*(k % 4))):=by
 have e:∀(a b c d e f g h:da) (k:Nat),k<32->∃x,([a,b,c,d,e,f,g,h]:List da)[k/4]? =some x/\(([a,b,c,d,e,f,g,h]:List da).flatMap tT)[k]? =some (byteOf x (24-8*(k % 4))):=by
  intro a b c d e f g h k i
  match k,i with
  |0,_=>exact⟨_,rfl,rfl⟩
  |1,_=>exact⟨_,rfl,rfl⟩
  |2,_=>exact⟨_,rfl,rfl⟩
  |3,_=>exact⟨_,rfl,rfl⟩
  |4,_=>exact⟨_,rfl,rfl⟩
  |5,_=>exact⟨_,rfl,rfl⟩
  |6,_=>exact⟨_,rfl,rfl⟩
  |7,_=>exact⟨_,rfl,rfl⟩
  |8,_=>exact⟨_,rfl,rfl⟩
  |9,_=>exact⟨_,rfl,rfl⟩
  |10,_=>exact⟨_,rfl,rfl⟩
  |11,_=>exact⟨_,rfl,rfl⟩
  |12,_=>exact⟨_,rfl,rfl⟩
  |13,_=>exact⟨_,rfl,rfl⟩
  |14,_=>exact⟨_,rfl,rfl⟩
  |15,_=>exact⟨_,rfl,rfl⟩
  |16,_=>exact⟨_,rfl,rfl⟩
  |17,_=>exact⟨_,rfl,rfl⟩
  |18,_=>exact⟨_,rfl,rfl⟩
  |19,_=>exact⟨_,rfl,rfl⟩
  |20,_=>exact⟨_,rfl,rfl⟩
  |21,_=>exact⟨_,rfl,rfl⟩
  |22,_=>exact⟨_,rfl,rfl⟩
  |23,_=>exact⟨_,rfl,rfl⟩
  |24,_=>exact⟨_,rfl,rfl⟩
  |25,_=>exact⟨_,rfl,rfl⟩
  |26,_=>exact⟨_,rfl,rfl⟩
  |27,_=>exact⟨_,rfl,rfl⟩
  |28,_=>exact⟨_,rfl,rfl⟩
  |29,_=>exact⟨_,rfl,rfl⟩
  |30,_=>exact⟨_,rfl,rfl⟩
  |31,_=>exact⟨_,rfl,rfl⟩
  |k+32,i=>omega
 exact e s.a s.b s.c s.d s.e s.f s.g s.h k h
theorem Lq{s:er}{k:Nat}{y:UInt8}(h:k<32)(c:(jU s)[k]? =some y):(m7 s k).set k y=m7 s (k+1):=by
 have b:(jU s).length=32:=rfl
 unfold m7
 have a:((jU s).take k).length=k:=by rw[adn,b];omega
 rw[adk _ _ (by rw[a];exact ac7 _),a,adj,show 32-k=(32-(k+1))+1 by omega,ado,adl,adg,c]
 simp
theorem LC(l:List UInt8):(l++iq l.length).length % 64=0:=by simp[iq];omega
theorem MA(v:Value)(l:List UInt8)(R:au)(h:RS R 1 cK v l)(U:l.length<=100000):
  Spec prog 214 [v] R [] λu H'=>u=.agg (uv (mr l)).toArray/\H'=[]:=by
 have iv:=h.av
 have W:=LC l
 have M:(l++iq l.length).length<=200000:=by have:=xd l.length;rw[adf];omega
 have F:mr l=jU (blocks H0 (l++iq l.length)):=rfl
 refine Spec.body func214 rfl results214 ntmps214 rfl ?_
 refine .sr ?_
 refine .cG (λd=>?_)
 refine .z ?_
 refine .p8 (wv H0.dk) (λB=>?_) (ho:=qW)
 have t:OS 217 1 kl (.slice (some ⟨B,0,none⟩) 8 8) H0.dk (bl B (wv H0.dk) 217):=OS.lits (vk _) (λ_ _=>rfl) (λx _ u G=>by simp only[kl,List.mem_singleton]at G;subst G;rfl)
 have i0:=t.av
 refine .ag rfl<|.z<|.mo rfl ?_
 refine .cW (Mz v l _ h.rx U) (λu w e=>?_)
 have ia:=e.av
 generalize a1:l++iq l.length=all at W M F e
 have L:=e.sg
 obtain⟨pa,ka,rfl,_⟩:=e.shape
 refine .ag rfl<|.zs<|.sr<|.az rfl<|.block ?_
 refine .loop (X:=Nat×er×Value×ax) (λy=>64*y.1<=all.length/\blocks y.2.1 (all.drop (64*y.1))=blocks H0 all/\OS 217 1 kl y.2.2.1 y.2.1.dk y.2.2.2) (λy=>[(2,pT d),(3,y.2.2.1),(4,.slice pa all.length ka),(5,.int .i64 (64*y.1:Nat))]) (λy=>[y.2.2.2,w,bl d (uv (List.replicate 32 0)) 245]) (λy=>all.length-64*y.1) (0,H0,_,_) ⟨ac5 _,rfl,t⟩ kE.c.c.c.c (aH [1,0,0]) ?_
 clear t i0
 rintro⟨j,H,I,K⟩ ⟨Q,f,g⟩
 simp only at Q f g⊢
 have io:=g.av
 refine .seq<|.sr<|.mo rfl<|.mo rfl<|.q (.nG rfl) ?_
 refine .q .lss<|.zn ?_
 refine .cond rfl (λn=>?_) λn=>?_
 have i:64*j<all.length:=by have:=bq n;omega
 have C:64<=(all.drop (64*j)).length:=by rw[adh];omega
 refine .kn<|.seq<|.block<|.region<|.mo rfl<|.mo rfl<|.mo rfl<|.mo rfl ?_
 refine .ia (64*j+64) .add ?_
 refine .jS (64*j) (64*j+64) L ⟨_,rfl⟩ ⟨_,rfl⟩ (by omega) (by rw[adh]at C;omega) (λa0 m=>?_)
 have a2:=m.av
 refine .cW (Mw H I a0 _ _ (g.rs λp m=>.inr (by simp[m])) (m.mono λb o N=>.inr (by have O:(b,o)∈w:=N;simp[O])) (by rw[adn];omega)) (λu J D=>?_)
 rw[show 64*j+64-64*j=64 by omega,rl]at D
 refine .ag rfl<|.nil<|bw<|aD<|.region<|.mo rfl ?_
 refine .ia (64*j+64) .add ?_
 refine .ag rfl<|.nil ?_
 ·exact bd (j+1,comp H (all.drop (64*j)),u,J) ⟨by simp only;omega,by simp only;rw[<-f,p6 C,List.drop_drop,show 64*j+64=64*(j+1) by omega],D⟩ (by simp only;omega) (by rw[show 64*(j+1)=64*j+64 by omega];exact kE.c.c.c.c) (aH [0,1,1])
 have V:all.length<=64*j:=by have:=bi n;omega
 rw[List.drop_of_length_le V,rf (by simp)]at f
 subst f
 refine .exit<|bE<|bH<|bF<|aD<|.sr ?_
 refine .cG (λA=>?_)
 refine .zs<|.sr<|.az rfl<|.block ?_
 refine .loop (X:=Nat) (λk=>k<=32) (λk=>[(2,pT d),(3,I),(6,pT A),(7,iN k)]) (λk=>[bl A (uv (m7 (blocks H0 all) k)) 245,K,bl d (uv (List.replicate 32 0)) 245]) (λk=>32-k) 0 (ac5 _) kE.c.c.c.c (aH [0,0,1]) ?_
 rintro k S
 have E:=Lp (s:=blocks H0 all) S
 refine .seq<|.sr<|.mo rfl<|.q .lss<|.zn ?_
 refine .cond rfl (λr=>?_) λr=>?_
 have i:k<32:=dT r
 obtain⟨x,Y,Z⟩:=Nw (blocks H0 all) i
 refine .kn<|.seq<|.block<|.region<|.mo rfl<|.mo rfl<|.mo rfl ?_
 refine .q (.mm (a:=k) 4 rfl rfl (by decide) (by omega)) ?_
 refine .ba (k/4) g Y (λa3=>?_)
 refine .lo rfl<|.mo rfl ?_
 refine .q (.lK (a:=k) 4 rfl rfl (by decide)) ?_
 refine .ia (8*(k % 4)) .mul ?_
 refine .ia (24-8*(k % 4)) .sub ?_
 refine .q (.qO rfl (by unfold eE;omega)) ?_
 refine .q (.mL rfl rfl (by omega)) ?_
 refine .q (.narrow rfl) ?_
 refine .q (.fE k (by omega) rfl rfl rfl) ?_
 refine .cH rfl rfl ?_ (by rw[mw,E];omega)
 rw[ade,pD (by rw[E];omega),show UInt8.ofBitVec (BitVec.setWidth 8 (x>>>(24-8*(k % 4))))=byteOf x (24-8*(k % 4))from rfl,Lq i Z]
 refine .nil<|bw<|aD<|.region<|.mo rfl ?_
 refine .ia (k+1) .add ?_
 refine .ag rfl<|.nil ?_
 ·exact bd (k+1) i (by omega) kE.c.c.c.c rH
 have T:k=32:=by have:=bi r;omega
 subst T
 rw[show m7 (blocks H0 all) 32=jU (blocks H0 all)from rfl, <-F]
 refine .exit<|bE<|bH<|bF<|aD<|.sr<|.q (.bI rfl rfl) ?_
 refine .cc rfl rfl ?_ rfl (ac8 rfl)
 rw[kQ (by rfl)]
 refine .zn ?_
 refine .ret (aN _ (.one (.dO rfl rfl)) (.none _) ?_)
 ·exact⟨rfl,rfl⟩
end Go.Proofs.YtkkmbiojicgobaaGreatDoor
