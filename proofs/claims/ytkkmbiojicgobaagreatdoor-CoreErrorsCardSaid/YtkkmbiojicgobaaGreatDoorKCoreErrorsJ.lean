/- What the law 'CoreErrors' uses. No condition. -/
import Derived.Test.YtkkmbiojicgobaaGreatDoorKCoreErrorsA
import Derived.Test.YtkkmbiojicgobaaGreatDoorKCoreErrorsB
import Derived.Test.YtkkmbiojicgobaaGreatDoorKCoreErrorsE
import Derived.Test.YtkkmbiojicgobaaGreatDoorKCoreErrorsF
set_option linter.unusedSimpArgs false
set_option linter.unusedVariables false
namespace Go.Proofs.YtkkmbiojicgobaaGreatDoor
set_option linter.defProp false
def ac5:=@Nat.zero_le
def ac6:=@List.length_set
def ac7:=@Nat.le_refl
def ac8:=@Nat.le_of_ble_eq_true
def ac9:=@List.length_cons
def ada:=@Nat.mod_lt
def adb:=@List.append_assoc
def ade:=@Nat.zero_add
def adf:=@List.length_append
def adg:=@List.take_add_one
def adh:=@List.length_drop
def adi:=@List.getD_eq_getElem?_getD
def adj:=@Nat.sub_self
def adk:=@List.set_append_right
def adl:=@List.set_cons_zero
def adm:=@List.nil_append
def adn:=@List.length_take
def ado:=@List.replicate_succ
def adp:=@Nat.and_two_pow_sub_one_eq_mod
open Tryz
set_option linter.unusedVariables false
set_option maxRecDepth 4000
instance Pt:bP prog 301 .unsafePointer:=⟨underlying301⟩
def BI(b:Nat)(xs:List UInt8)(T:ax):Prop:=∃a vs Tb,T=(b,.cells [a,vs].toArray 234 (0,0))::Tb/\(a=.pointer none\/a=pT b)/\OS 5 1 cO vs xs Tb/\(xs=[]->vs=sZ)
theorem BI.new{b:Nat}:BI b [] (bl b [.pointer none,sZ] 234):=⟨_,_,[],rfl,.inl rfl,OS.nil,λ_=>rfl⟩
theorem zi(b:Nat)(a vs:Value)(R:av)(d:a=.pointer none\/a=pT b)(e:One vs):
  Spec prog 261 [pT b] R [bl b [a,vs] 234] λu H'=>∃T',H'=[T']/\u=.tuple #[]/\T'=(bl b [pT b,vs] 234):=by
 rcases d with rfl|rfl
 ·skip
  refine Spec.body func261 rfl results261 ntmps261 rfl ?_
  refine .sr<|.mo rfl<|.nc rfl<|.fa rfl<|.lo rfl<|.q (.ql rfl rfl) ?_
  refine .zn<|.dF<|.region<|.mo rfl<|.mo rfl ?_
  refine .q (.N7 (b:=b) (E:=234) (c:=[.pointer none,vs].toArray) (fr:=(0,0)) (by simp) (by simp) (by kernel_rfl) rfl) ?_
  refine .q (.Lg func286 (by kernel_rfl) (by kernel_rfl) (by kernel_rfl) (by kernel_rfl) rfl) ?_
  refine .q (.Kq (b:=b) (E:=234) (n:=2) (c:=[.pointer none,vs].toArray) (fr:=(0,0)) (by simp) rfl (by kernel_rfl) (by kernel_rfl) rfl) ?_
  refine .nc rfl<|.fa rfl<|.cJ rfl rfl<|.nil<|eh _ .none (.one [0] _) ?_
  ·exact⟨_,by simp[take];rfl,rfl,rfl⟩
 ·skip
  refine Spec.body func261 rfl results261 ntmps261 rfl ?_
  refine .sr<|.mo rfl<|.nc rfl<|.fa rfl<|.lo rfl<|.q (.ql rfl rfl) ?_
  refine .zn<|.bZ<|.sr<|.mo rfl<|.nc rfl<|.fa rfl<|.lo rfl<|.mo rfl ?_
  refine .q (.Lc rfl rfl (by kernel_rfl)) ?_
  refine .zn<|.bZ<|.skip<|eh _ .none (.one [0] _) ?_
  ·exact⟨_,by simp[take],rfl,rfl⟩
theorem uc(b:Nat)(xs:List UInt8)(T:ax)(c:UInt8)(R:av)(h:BI b xs T)(p:xs.length<=1000000000):
  Spec prog 201 [pT b,.int .u8 (c.toNat:Int)] R [T] λu H'=>∃T',H'=[T']/\BI b (xs++[c]) T':=by
 obtain⟨a,j,k,rfl,g,e,q⟩:=h
 have m:=e.aw
 have s:One a:=⟨by rcases g with rfl|rfl<;>rfl⟩
 refine Spec.dg (H':=[bl b [a,j] 234,k]) (by simp) ?_
 refine Spec.body func201 rfl results201 ntmps201 rfl ?_
 refine .sr<|.ag rfl<|.z<|.mo rfl ?_
 refine .bW (zi b a j _ g m) (λu n l=>?_)
 obtain⟨rfl,rfl⟩:=l
 refine .z<|.mo rfl<|.mo rfl<|.nc rfl<|.fa rfl<|.lo rfl<|.mo rfl ?_
 refine .ig (λo=>?_)
 refine .append e (RS.lits (xs:=[c]) rfl (by simp[cO]) (by simp[cO,aw])) (by simp;omega) (λi d f=>?_)
 have r:=f.aw
 refine .nc rfl<|.fa rfl<|.cJ rfl rfl<|.z<|.az rfl ?_
 refine .ret (aR _ (.one (.tmp rfl)) ((aI [1,1]).trans (aT.bu (H':=[(b,.cells [pT b,i].toArray 234 (0,0))::d]) (by simp[take,aZ];exact .refl _))) ?_)
 ·exact⟨_,rfl,_,i,d,rfl,.inr rfl,f,by simp⟩
theorem qc(b:Nat)(xs:List UInt8)(T:ax)(R:av)(h:BI b xs T):
  Spec prog 202 [pT b] R [T] λu H'=>u=.string ⟨xs.toArray⟩/\H'=[]:=by
 obtain⟨a,p,f,rfl,j,e,m⟩:=h
 have B:=e.aw
 have A:One a:=⟨by rcases j with rfl|rfl<;>rfl⟩
 have l:=e.le
 refine Spec.dg (H':=[bl b [a,p] 234,f]) (by simp) ?_
 by_cases d:xs=[]
 ·subst d
  have o:=m rfl
  subst o
  refine Spec.body func202 rfl results202 ntmps202 rfl ?_
  refine .sr<|.ag rfl<|.zs<|.cW [] mixed ?_
  refine .tO 0 rfl .move<|.tO 1 rfl (.nilCheck rfl)<|.tO 2 rfl (.fieldAddr rfl)<|.tO 3 rfl (.bN rfl)<|.tO 5 rfl .move<|.tO 6 rfl (.nilCheck rfl)<|.tO 7 rfl (.fieldAddr rfl)<|.tO 8 rfl (.bN rfl) ?_
  refine .tO 9 rfl (.nM rfl) ?_
  refine .sT 4 rfl ?_
  refine .q (.NC rfl) ?_
  refine .nil (Next.sub ?_)
  refine .sT 10 rfl ?_
  refine .q (.Ou rfl rfl) ?_
  refine .nil (Next.sub ?_)
  refine .tO 11 rfl .assign ?_
  refine RA.nil (by kernel_rfl) ?_
  refine aD ?_
  refine .ret (aO rfl ?_)
  ·exact⟨rfl,rfl⟩
 ·obtain⟨y,z,k⟩:=e
  rcases k with⟨_,i,_⟩|⟨g,off,c,r,rfl,rfl,t,v,w,n⟩
  ·exact absurd i d
  ·have x:0<xs.length:=List.length_pos_iff.2 d
   refine Spec.body func202 rfl results202 ntmps202 rfl ?_
   refine .sr<|.ag rfl<|.zs<|.cW [10] mixed ?_
   refine .tO 0 rfl .move<|.tO 1 rfl (.nilCheck rfl)<|.tO 2 rfl (.fieldAddr rfl)<|.tO 3 rfl (.bN rfl)<|.tO 5 rfl .move<|.tO 6 rfl (.nilCheck rfl)<|.tO 7 rfl (.fieldAddr rfl)<|.tO 8 rfl (.bN rfl) ?_
   refine .tO 9 rfl (.nM rfl) ?_
   refine .sT 4 rfl ?_
   refine .q (.NB (by omega) rfl) ?_
   refine .nil (Next.sub ?_)
   refine .sT 10 rfl ?_
   refine .Ot (b:=g) (off:=off) (c:=c) (xs:=xs) d n (by omega) (by kernel_rfl) l rfl rfl (λs=>?_)
   refine .nil (Next.mod rfl ?_)
   refine .tK 11 rfl .assign ?_
   refine RA.nil (by kernel_rfl) ?_
   refine aD ?_
   refine .ret (aO rfl ?_)
   ·exact⟨rfl,rfl⟩
def k3:ByteArray:=⟨#[65,66,67,68,69,70,71,72,73,74,75,76,77,78,79,80,81,82,83,84,85,86,87,88,89,90,97,98,99,100,101,102,103,104,105,106,107,108,109,110,111,112,113,114,115,116,117,118,119,120,121,122,48,49,50,51,52,53,54,55,56,57,45,95]⟩
theorem yQ{n:Nat}(h:n<k3.size):k3[n]=cS n:=by
 have a:n<64:=h
 have:∀k:Fin 64,k3[k.val]'(k.isLt)=cS k.val:=by decide+kernel
 exact this ⟨n,a⟩
theorem tA(n:Nat):k3[n % 2^6]'(ada _ (by decide))=cS n:=(yQ _).trans (K0 n)
def kV(l:List UInt8):Nat×Nat×List UInt8:=l.foldl jn (0,0,[])
theorem uO:∀(n h:Nat),(emit h n).length=n/6:=by
 intro n
 induction n using Nat.strongRecOn with
 |_ n ih=>
  intro h
  by_cases a:6<=n
  ·rw[nu a,ac9,ih (n-6) (by omega)];omega
  ·rw[oP a];simp;omega
theorem NJ(l:List UInt8):(kV l).2.1<6/\(kV l).1<18446744073709551616/\(kV l).2.2.length<=2*l.length:=by
 unfold kV
 suffices h:∀(l:List UInt8) (s:Nat×Nat×List UInt8),s.2.1<6->s.1<18446744073709551616->(l.foldl jn s).2.1<6/\(l.foldl jn s).1<18446744073709551616/\(l.foldl jn s).2.2.length<=s.2.2.length+2*l.length by
  have:=h l (0,0,[]) (by decide) (by decide)
  simpa using this
 intro l
 induction l with
 |nil=>intro s b d;exact⟨b,d,by simp⟩
 |cons c l ih=>
  intro s b d
  have a:=ih (jn s c) (by unfold jn;simp only;omega) (by unfold jn held;simp only;exact ada _ (by decide))
  rw[List.foldl_cons]
  refine⟨a.1,a.2.1,?_⟩
  have e:(jn s c).2.2.length<=s.2.2.length+2:=by
   unfold jn
   simp only[adf,uO]
   omega
  have:=a.2.2
  simp only[ac9]
  omega
theorem NK{l:List UInt8}{i:Nat}{c:UInt8}(h:l[i]? =some c):kV (l.take (i+1))=jn (kV (l.take i)) c:=by
 unfold kV
 rw[adg,h]
 simp
theorem KL{h:Nat}{c:UInt8}:h*2^8 % eI|||c.toNat=held h c:=by
 have a:=c.toNat_lt
 have e:h*2^8 % eI=(h % 2^56)*2^8:=by unfold eI;omega
 rw[e,wU (by omega)]
 unfold held
 omega
theorem tV(v:Value)(xs:List UInt8)(R:av)(h:RS R 1 cO v xs)(V:xs.length<=1000000):
  Spec prog 149 [v] R [] λu H'=>u=.string ⟨(dw xs).toArray⟩/\H'=[]:=by
 obtain⟨H,G,rfl⟩:=h.val
 refine Spec.body func149 rfl results149 ntmps149 rfl ?_
 refine .sr<|.ag rfl<|.z ?_
 refine .cN (λe=>?_)
 refine .z<|.ag rfl<|.ag rfl<|.zs<|.sr<|.mo rfl<|.q (.dl h) ?_
 refine .mo rfl<|.zn<|.block ?_
 refine .loop (X:=Nat×ax) (λy=>y.1<=xs.length/\BI e (kV (xs.take y.1)).2.2 y.2) (λy=>[(3,pT e),(4,.int .u64 ((kV (xs.take y.1)).1:Nat)),(5,.int .i64 ((kV (xs.take y.1)).2.1:Nat)),(8,.slice H xs.length G),(9,iN xs.length),(10,iN y.1)]) (λy=>[y.2]) (λy=>xs.length-y.1) (0,_) ⟨ac5 _,BI.new⟩ kE.c.c.c.c.c.c rH ?_
 rintro⟨i,T⟩ ⟨K,d⟩
 simp only at K d⊢
 obtain⟨N,I,S⟩:=NJ (xs.take i)
 have Y:(xs.take i).length<=i:=by rw[adn];omega
 obtain⟨s,D⟩:∃s,s=kV (xs.take i):=⟨_,rfl⟩
 rw[<-D]at N I S d⊢
 refine .sr<|.q .lss<|.zs ?_
 refine .cond rfl (λt=>?_) λt=>?_
 have E:i<xs.length:=dQ t
 obtain⟨c,F⟩:=dN E
 have U:=c.toNat_lt
 have C:=NK F
 rw[<-D]at C
 have J:held s.1 c<eI:=ada _ (by decide)
 refine .kn<|.seq<|.block<|.sr ?_
 refine .cu i h F (λZ=>?_)
 refine .lo rfl<|.ag rfl<|.z<|.mo rfl ?_
 refine .q (.qS (a:=s.1) (n:=8) rfl rfl (by decide)) ?_
 refine .mo rfl ?_
 refine .q (.qX rfl (by unfold eI;omega)) ?_
 refine .q (.wT rfl rfl (ada _ (by decide)) (by unfold eI;omega)) ?_
 rw[KL]
 refine .ag rfl<|.z<|.mo rfl ?_
 refine .ia (s.2.1+8) .add ?_
 refine .az rfl<|.block ?_
 refine .loop (X:=Nat×List UInt8×ax) (λy=>y.1<14/\y.1 % 6=(s.2.1+8) % 6/\y.2.1++emit (held s.1 c) y.1=s.2.2++emit (held s.1 c) (s.2.1+8)/\BI e y.2.1 y.2.2) (λy=>[(3,pT e),(4,.int .u64 (held s.1 c:Nat)),(5,iN y.1),(8,.slice H xs.length G),(9,iN xs.length),(10,iN i)]) (λy=>[y.2.2]) (λy=>y.1) (s.2.1+8,s.2.2,T) ⟨by simp only;omega,rfl,rfl,d⟩ kE.c.c.c.c.c.c rH ?_
 clear d T
 rintro⟨n,o,T⟩ ⟨M,Q,j,d⟩
 simp only at M Q j d⊢
 have W:o.length<=2*i+4:=by
  have:=congrArg List.length j
  simp only[adf,uO]at this
  omega
 refine .seq<|.sr<|.mo rfl<|.q .geq<|.zn ?_
 refine .cond rfl (λw=>?_) λw=>?_
 have A:6<=n:=by have:=bx w;omega
 refine .kn<|.seq<|.block<|.region<|.mo rfl<|.mo rfl ?_
 refine .ia (n-6) .sub ?_
 refine .q (.yb rfl rfl (by omega)) ?_
 refine .q (.rk (b:=63) rfl rfl (Nat.lt_of_le_of_lt (Nat.div_le_self _ _) J) (by decide)) ?_
 rw[show(63:Nat)=2^6-1 from rfl,adp]
 have B:=tA (held s.1 c/2^(n-6))
 refine .q (aP.cast (v':=.int .u8 ((cS (held s.1 c/2^(n-6))).toNat:Int)) (.iJ (p:=k3) (held s.1 c/2^(n-6) % 2^6) (ada _ (by decide))) (by rw[B])) ?_
 refine .bW (uc e o T (cS (held s.1 c/2^(n-6))) _ d (by omega)) (λu l f=>?_)
 refine .nil<|bz<|aD<|.region<|.mo rfl ?_
 refine .ia (n-6) .sub ?_
 refine .ag rfl<|.nil ?_
 ·exact bf (n-6,o++[cS (held s.1 c/2^(n-6))],l) ⟨by simp only;omega,by simp only;omega,by rw[<-j,nu A];simp,f⟩ (by simp only;omega) kE.c.c.c.c.c.c rH
 have A:¬6<=n:=by have:=bo w;omega
 rw[oP A,List.append_nil]at j
 have O:n=(s.2.1+8) % 6:=by omega
 refine .exit<|bD<|bH<|bF<|bz<|aD<|.region ?_
 refine .ia (i+1) .add ?_
 refine .mo rfl<|.nil ?_
 ·exact bf (i+1,T) ⟨E,by rw[C];unfold jn;simp only;rw[<-j];exact d⟩ (by simp only;omega) (by simp only[C,jn];rw[<-O];exact kE.c.c.c.c.c.c) rH
 have L:i=xs.length:=by have:=bo t;omega
 have g:nB s=dw xs:=by
  rw[D,L,List.take_length]
  have:=uR xs 0 []
  simpa[kV]using this
 unfold nB at g
 refine .exit<|bD<|bH<|bF<|aD<|.seq<|.sr<|.mo rfl<|.q .gtr<|.zn ?_
 refine .cond rfl (λx=>?_) λx=>?_
 have r:0<s.2.1:=by simp at x;omega
 rw[if_pos r]at g
 refine .region<|.mo rfl<|.mo rfl ?_
 refine .ia (6-s.2.1) .sub ?_
 refine .q (.qS rfl rfl (by omega)) ?_
 refine .q (.rk (b:=63) rfl rfl (ada _ (by decide)) (by decide)) ?_
 rw[show(63:Nat)=2^6-1 from rfl,adp]
 have B:=tA (s.1*2^(6-s.2.1) % eI)
 refine .q (aP.cast (v':=.int .u8 ((cS (s.1*2^(6-s.2.1))).toNat:Int)) (.iJ (p:=k3) (s.1*2^(6-s.2.1) % eI % 2^6) (ada _ (by decide))) (by rw[B,iq (n:=s.1*2^(6-s.2.1) % eI) (m:=s.1*2^(6-s.2.1)) (by unfold eI;omega)])) ?_
 refine .bW (uc e s.2.2 T _ _ d (by omega)) (λu l f=>?_)
 rw[g]at f
 refine .z ?_
 first
  |refine aG.call [0] (qc e (dw xs) T _ d) (λu H' k=>?_)
  |refine aG.call [0] (qc e (dw xs) l _ f) (λu H' k=>?_)
 obtain⟨rfl,rfl⟩:=k
 refine .az rfl ?_
 refine .ret (aO rfl ?_)
 ·exact⟨rfl,rfl⟩
 have r:¬0<s.2.1:=by simp at x;omega
 rw[if_neg r,List.append_nil]at g
 rw[g]at d
 refine .kn<|.sr ?_
 first
  |refine aG.call [0] (qc e (dw xs) T _ d) (λu H' k=>?_)
  |refine aG.call [0] (qc e (dw xs) l _ f) (λu H' k=>?_)
 obtain⟨rfl,rfl⟩:=k
 refine .az rfl ?_
 refine .ret (aO rfl ?_)
 ·exact⟨rfl,rfl⟩
set_option linter.unusedSimpArgs false
theorem lL(n:Nat)(h:n<64)(R:av):Spec prog 170 [iN n] R [] λv H'=>v=.string ⟨#[cS n]⟩/\H'=[]:=by
 have a:k3.extract n (n+1)=⟨#[cS n]⟩:=by
  have e:∀k:Fin 64,k3.extract k.val (k.val+1)=⟨#[cS k.val]⟩:=by decide+kernel
  exact e ⟨n,h⟩
 refine Spec.body func170 rfl results170 ntmps170 rfl ?_
 refine .sr<|.ag rfl<|.z<|.mo rfl<|.mo rfl ?_
 refine .ia (n+1) .add ?_
 refine .q (.sS (s:=k3) n (n+1) ⟨_,rfl⟩ ⟨_,rfl⟩ (by omega) h) ?_
 rw[a]
 refine .az rfl ?_
 refine .ret (aO rfl ?_)
 ·exact⟨rfl,rfl⟩
theorem mF:∀l:List UInt8,(dw l).length<=2*l.length
 |a::b::c::r=>by have:=mF r;simp only[dw,ac9];omega
 |[a,b]=>by simp[dw]
 |[a]=>by simp[dw]
 |[]=>by simp[dw]
theorem fz(l:List UInt8):(⟨l.toArray⟩:ByteArray).size=l.length:=by simp[ByteArray.size]
theorem kR(v:Value)(xs:List UInt8)(R:av)(h:RS R 1 cO v xs)(T:xs.length<=1000000):
  Spec prog 106 [v] R [] λu H'=>u=.string ⟨(dw xs).toArray⟩/\H'=[]:=by
 have S:=mF xs
 refine Spec.body func106 rfl results106 ntmps106 rfl ?_
 refine .sr<|.ag rfl<|.z<|.ag rfl<|.zs<|.block ?_
 refine .loop (X:=List UInt8×Value×List UInt8) (λy=>RS R 1 cO y.2.1 y.1/\y.1.length<=xs.length/\y.2.2++dw y.1=dw xs) (λy=>[(0,y.2.1),(3,.string ⟨y.2.2.toArray⟩)]) (λy=>[]) (λy=>y.1.length) (xs,v,[]) ⟨h,ac7 _,rfl⟩ kE.c.c rH ?_
 rintro⟨r,vr,o⟩ ⟨i,F,g⟩
 simp only at i F g⊢
 have U:=i.aw
 obtain⟨M,L,rfl⟩:=i.val
 have B:o.length+(dw r).length<=2*xs.length:=by have:=congrArg List.length g;rw[adf]at this;omega
 refine .seq<|.sr<|.mo rfl<|.q (.dl i) ?_
 refine .q .geq<|.zn ?_
 refine .cond rfl (λw=>?_) λw=>?_
 obtain⟨a,b,c,q,rfl⟩:∃a b c q,r=a::b::c::q:=by
  have j:3<=r.length:=by have:=bx w;omega
  match r,j with
  |a::b::c::q,_=>exact⟨a,b,c,q,rfl⟩
 have D:=a.toNat_lt
 have G:=b.toNat_lt
 have Q:=c.toNat_lt
 simp only[dw,ac9]at B g
 refine .kn<|.block<|.seq ?_
 refine .iQ mixed (by kernel_rfl) ?_
 refine .mo rfl ?_
 refine .cu 0 i (show(a::b::c::q)[0]? =some a from rfl) (λV=>?_)
 refine .lo rfl ?_
 refine .q (.i64 ((a.toNat:Nat):Int) .hE ⟨rfl,by omega,by omega⟩) ?_
 refine .ia (a.toNat*65536) .mul ?_
 refine .mo rfl ?_
 refine .cu 1 i (show(a::b::c::q)[1]? =some b from rfl) (λW=>?_)
 refine .lo rfl ?_
 refine .q (.i64 ((b.toNat:Nat):Int) .hE ⟨rfl,by omega,by omega⟩) ?_
 refine .ia (b.toNat*256) .mul ?_
 refine .ia (a.toNat*65536+b.toNat*256) .add ?_
 refine .mo rfl ?_
 refine .cu 2 i (show(a::b::c::q)[2]? =some c from rfl) (λY=>?_)
 refine .lo rfl ?_
 refine .q (.i64 ((c.toNat:Nat):Int) .hE ⟨rfl,by omega,by omega⟩) ?_
 refine .ia (a.toNat*65536+b.toNat*256+c.toNat) .add ?_
 refine .ag rfl<|.z ?_
 obtain⟨x,k⟩:∃x,x=a.toNat*65536+b.toNat*256+c.toNat:=⟨_,rfl⟩
 rw[<-k]
 have m:cS (x/262144)=cS (a.toNat/4):=iq (by omega)
 have n:cS (x/4096 % 64)=cS (a.toNat % 4*16+b.toNat/16):=iq (by omega)
 have C:cS (x/64 % 64)=cS (b.toNat % 16*4+c.toNat/64):=iq (by omega)
 have N:cS (x % 64)=cS c.toNat:=iq (by omega)
 refine .mo rfl<|.mo rfl ?_
 refine .q (.mr (a:=x) 262144 rfl rfl (by decide) (by omega)) ?_
 refine .aM (lL (x/262144) (by omega) _) (λu f=>?_)
 subst f
 refine .q (.gI (p:=⟨o.toArray⟩) (q:=⟨[cS (x/262144)].toArray⟩) (by rw[fz,fz];simp;omega) rfl rfl) ?_
 rw[lc,m]
 refine .mo rfl ?_
 refine .q (.mr (a:=x) 4096 rfl rfl (by decide) (by omega)) ?_
 refine .q (.lP (a:=x/4096) 64 rfl rfl (by decide)) ?_
 refine .aM (lL (x/4096 % 64) (by omega) _) (λu f=>?_)
 subst f
 refine .q (.gI (q:=⟨[cS (x/4096 % 64)].toArray⟩) (by rw[fz,fz];simp;omega) rfl rfl) ?_
 rw[lc,n]
 refine .mo rfl ?_
 refine .q (.mr (a:=x) 64 rfl rfl (by decide) (by omega)) ?_
 refine .q (.lP (a:=x/64) 64 rfl rfl (by decide)) ?_
 refine .aM (lL (x/64 % 64) (by omega) _) (λu f=>?_)
 subst f
 refine .q (.gI (q:=⟨[cS (x/64 % 64)].toArray⟩) (by rw[fz,fz];simp;omega) rfl rfl) ?_
 rw[lc,C]
 refine .mo rfl ?_
 refine .q (.lP (a:=x) 64 rfl rfl (by decide)) ?_
 refine .aM (lL (x % 64) (by omega) _) (λu f=>?_)
 subst f
 refine .q (.gI (q:=⟨[cS (x % 64)].toArray⟩) (by rw[fz,fz];simp;omega) rfl rfl) ?_
 rw[lc,N]
 refine .az rfl<|.region<|.mo rfl ?_
 refine .jW 3 (a::b::c::q).length i ⟨_,rfl⟩ rfl (by simp) (ac7 _) (λO E=>?_)
 rw[show((a::b::c::q).drop 3).take ((a::b::c::q).length-3)=q by rw[List.take_of_length_le (by simp)];rfl]at E
 refine .ag rfl<|.nil<|bz ?_
 ·exact bf (q,O,_) ⟨E,by simp only;simp only[ac9]at F;omega,by simp only[adb];exact g⟩ (by simp only[ac9];omega) ((kE.d rfl).d rfl) rH
 have j:r.length<3:=by have:=bo w;omega
 refine .exit<|bD<|bH<|bF<|aD<|.seq<|.sr<|.mo rfl<|.q (.dl i) ?_
 refine .q .bS<|.zn ?_
 refine bQ.cut (X:=List UInt8) (λt=>(r.length=2->t=o)/\(r.length≠2->t=dw xs)) (λt=>[(0,.slice M r.length L),(3,.string ⟨t.toArray⟩)]) (λ_=>[]) ?_ ?_
 refine .cond rfl (λs=>?_) λs=>?_
 obtain⟨a,rfl⟩:∃a,r=[a]:=List.length_eq_one_iff.1 (by simp at s;omega)
 have D:=a.toNat_lt
 simp only[dw,ac9,List.length_nil]at B g
 refine .sr<|.mo rfl ?_
 refine .cu 0 i (show [a][0]? =some a from rfl) (λZ=>?_)
 refine .lo rfl ?_
 refine .q (.i64 ((a.toNat:Nat):Int) .hE ⟨rfl,by omega,by omega⟩) ?_
 refine .ia (a.toNat*16) .mul ?_
 refine .az rfl<|.region ?_
 obtain⟨x,k⟩:∃x,x=a.toNat*16:=⟨_,rfl⟩
 rw[<-k]
 have m:cS (x/64)=cS (a.toNat/4):=iq (by omega)
 have n:cS (x % 64)=cS (a.toNat % 4*16):=iq (by omega)
 refine .mo rfl<|.mo rfl ?_
 refine .q (.mr (a:=x) 64 rfl rfl (by decide) (by omega)) ?_
 refine .aM (lL (x/64) (by omega) _) (λu f=>?_)
 subst f
 refine .q (.gI (p:=⟨o.toArray⟩) (q:=⟨[cS (x/64)].toArray⟩) (by rw[fz,fz];simp;omega) rfl rfl) ?_
 rw[lc,m]
 refine .mo rfl ?_
 refine .q (.lP (a:=x) 64 rfl rfl (by decide)) ?_
 refine .aM (lL (x % 64) (by omega) _) (λu f=>?_)
 subst f
 refine .q (.gI (q:=⟨[cS (x % 64)].toArray⟩) (by rw[fz,fz];simp;omega) rfl rfl) ?_
 rw[lc,n]
 refine .ag rfl<|.nil ?_
 ·first
   |exact aB (o++[cS (a.toNat/4)]++[cS (a.toNat % 4*16)]) ⟨λl=>by simp at l,λ_=>by simp only[adb];exact g⟩ kE.c.c rH
   |exact aB o ⟨λ_=>rfl,λl=>by
     have A:r=[]:=by
      have:r.length≠1:=λe=>by simp[e]at s
      exact List.length_eq_zero_iff.1 (by omega)
     rw[A]at g
     simpa[dw]using g⟩ kE.c.c rH
 refine .skip ?_
 ·first
   |exact aB (o++[cS (a.toNat/4)]++[cS (a.toNat % 4*16)]) ⟨λl=>by simp at l,λ_=>by simp only[adb];exact g⟩ kE.c.c rH
   |exact aB o ⟨λ_=>rfl,λl=>by
     have A:r=[]:=by
      have:r.length≠1:=λe=>by simp[e]at s
      exact List.length_eq_zero_iff.1 (by omega)
     rw[A]at g
     simpa[dw]using g⟩ kE.c.c rH
 intro x k
 refine aD<|.seq<|.sr<|.mo rfl<|.q (.dl i) ?_
 refine .q .bS<|.zn ?_
 refine .cond rfl (λj=>?_) λj=>?_
 have H:r.length=2:=by simp at j;omega
 obtain⟨a,b,rfl⟩:∃a b,r=[a,b]:=by
  match r,H with
  |[a,b],_=>exact⟨a,b,rfl⟩
 have J:=k.1 rfl
 subst J
 have D:=a.toNat_lt
 have G:=b.toNat_lt
 simp only[dw,ac9,List.length_nil]at B g
 refine .seq ?_
 refine .iQ mixed (by kernel_rfl) ?_
 refine .mo rfl ?_
 refine .cu 0 i (show [a,b][0]? =some a from rfl) (λa0=>?_)
 refine .lo rfl ?_
 refine .q (.i64 ((a.toNat:Nat):Int) .hE ⟨rfl,by omega,by omega⟩) ?_
 refine .ia (a.toNat*1024) .mul ?_
 refine .mo rfl ?_
 refine .cu 1 i (show [a,b][1]? =some b from rfl) (λa1=>?_)
 refine .lo rfl ?_
 refine .q (.i64 ((b.toNat:Nat):Int) .hE ⟨rfl,by omega,by omega⟩) ?_
 refine .ia (b.toNat*4) .mul ?_
 refine .ia (a.toNat*1024+b.toNat*4) .add ?_
 refine .az rfl<|.region ?_
 obtain⟨y,K⟩:∃y,y=a.toNat*1024+b.toNat*4:=⟨_,rfl⟩
 rw[<-K]
 have m:cS (y/4096)=cS (a.toNat/4):=iq (by omega)
 have n:cS (y/64 % 64)=cS (a.toNat % 4*16+b.toNat/16):=iq (by omega)
 have C:cS (y % 64)=cS (b.toNat % 16*4):=iq (by omega)
 refine .mo rfl<|.mo rfl ?_
 refine .q (.mr (a:=y) 4096 rfl rfl (by decide) (by omega)) ?_
 refine .aM (lL (y/4096) (by omega) _) (λu f=>?_)
 subst f
 refine .q (.gI (p:=⟨x.toArray⟩) (q:=⟨[cS (y/4096)].toArray⟩) (by rw[fz,fz];simp;omega) rfl rfl) ?_
 rw[lc,m]
 refine .mo rfl ?_
 refine .q (.mr (a:=y) 64 rfl rfl (by decide) (by omega)) ?_
 refine .q (.lP (a:=y/64) 64 rfl rfl (by decide)) ?_
 refine .aM (lL (y/64 % 64) (by omega) _) (λu f=>?_)
 subst f
 refine .q (.gI (q:=⟨[cS (y/64 % 64)].toArray⟩) (by rw[fz,fz];simp;omega) rfl rfl) ?_
 rw[lc,n]
 refine .mo rfl ?_
 refine .q (.lP (a:=y) 64 rfl rfl (by decide)) ?_
 refine .aM (lL (y % 64) (by omega) _) (λu f=>?_)
 subst f
 refine .q (.gI (q:=⟨[cS (y % 64)].toArray⟩) (by rw[fz,fz];simp;omega) rfl rfl) ?_
 rw[lc,C]
 refine .ag rfl<|.z<|.mo rfl<|.az rfl ?_
 refine .ret (aO rfl ?_)
 ·first
   |exact⟨rfl,rfl⟩
   |exact⟨by rw[<-g];simp,rfl⟩
 have I:=k.2 (by simp at j;omega)
 subst I
 refine .kn<|.sr<|.mo rfl<|.az rfl ?_
 refine .ret (aO rfl ?_)
 ·first
   |exact⟨rfl,rfl⟩
   |exact⟨by rw[<-g];simp,rfl⟩
theorem lU(x:de)(n:Nat)(a:n<=32)(R:av):Spec prog 290 [.int .u32 (x.toNat:Int),.int .u64 (n:Nat)] R [] λv H'=>v=.int .u32 ((gQ x n).toNat:Int)/\H'=[]:=by
 refine Spec.body func290 rfl results290 ntmps290 rfl ?_
 refine .sr<|.ag rfl<|.z<|.mo rfl<|.mo rfl ?_
 refine .q (.mQ rfl rfl (by omega)) ?_
 refine .mo rfl<|.mo rfl ?_
 refine .q (.u64 ((32-n:Nat):Int) .sub ⟨by omega,by omega,by omega⟩) ?_
 refine .q (.pr rfl rfl (by omega)) ?_
 refine .q (.o6 rfl rfl) ?_
 refine .az rfl ?_
 refine .ret (aO rfl ?_)
 ·exact⟨by rw[Oo],rfl⟩
theorem vB(l:List de):l.flatMap kr=wv l:=by
 induction l with
 |nil=>rfl
 |cons x l ih=>rw[List.flatMap_cons,ih];rfl
theorem O1{b:List UInt8}{l:List de}{i:Nat}(a:l.length=i)(h:i<16):(((b.getD (4*i) 0).toBitVec.setWidth 32*16777216#32+(b.getD (4*i+1) 0).toBitVec.setWidth 32*65536#32)+(b.getD (4*i+2) 0).toBitVec.setWidth 32*256#32)+(b.getD (4*i+3) 0).toBitVec.setWidth 32=jq b l:=by
 refine(O4 (b.getD (4*i) 0) (b.getD (4*i+1) 0) (b.getD (4*i+2) 0) (b.getD (4*i+3) 0)).trans ?_
 unfold jq
 rw[a,if_pos h]
theorem O0{b:List UInt8}{l:List de}{i:Nat}(a:l.length=i)(h:¬i<16):((l.getD (i-16) 0+((gQ (l.getD (i-15) 0) 7^^^gQ (l.getD (i-15) 0) 18)^^^l.getD (i-15) 0/8#32))+l.getD (i-7) 0)+((gQ (l.getD (i-2) 0) 17^^^gQ (l.getD (i-2) 0) 19)^^^l.getD (i-2) 0/1024#32)=jq b l:=by
 rw[show(8#32)=BitVec.ofNat 32 (2^3)from rfl,show(1024#32)=BitVec.ofNat 32 (2^10)from rfl,uL _ 3 (by decide),uL _ 10 (by decide)]
 unfold jq
 rw[a,if_neg h]
 rfl
theorem KV{i:Nat}(h:i<64):(wv ks)[i]? =some (.int .u32 ((ks.getD i 0).toNat:Int)):=by
 have a:ks.length=64:=rfl
 refine lW ?_
 rw[adi,bC (by omega)]
 rfl
theorem MN(s:ew)(vs O:Value)(b:List UInt8)(R:av)(l:RS R 1 kr vs s.dp)(n:RS R 1 cO O b)(hl:64<=b.length):
  Spec prog 267 [vs,O] R [] λu H'=>∃T,H'=[T]/\OS 217 1 kr u (comp s b).dp T:=by
 have o:∀j,j<64->b[j]? =some (b.getD j 0):=λj hj=>by
  rw[adi,bC (by omega)];rfl
 obtain⟨V,U,rfl⟩:=n.val
 obtain⟨J,I,rfl⟩:=l.val
 refine Spec.body func267 rfl results267 ntmps267 rfl ?_
 refine .sr<|.ag rfl<|.z ?_
 refine .q (.tZ (out:=wv ks) rfl (by kernel_rfl) rfl) ?_
 refine .cN (λr=>?_)
 refine .ct rfl rfl ?_ rfl (ac8 rfl)
 rw[kT (by rfl)]
 refine .z<|.ag rfl<|.zs<|.sr<|.az rfl<|.block ?_
 refine .loop (X:=Nat×Value×ax) (λy=>y.1<=16/\OS 217 1 kr y.2.1 (sched b y.1) y.2.2) (λy=>[(0,.slice J s.dp.length I),(1,.slice V b.length U),(5,pT r),(6,y.2.1),(7,iN y.1)]) (λy=>[bl r (wv ks) 308,y.2.2]) (λy=>16-y.1) (0,sZ,[]) ⟨ac5 _,OS.nil⟩ kE.c.c.c.c.c (aT.bu (by simp)) ?_
 rintro⟨i,A,v⟩ ⟨w,m⟩
 simp only at w m⊢
 have N:=m.aw
 have t:=iX (b:=b) i
 refine .seq<|.sr<|.mo rfl<|.q .lss<|.zn ?_
 refine .cond rfl (λC=>?_) λC=>?_
 have p:i<16:=dQ C
 have H:=O1 (b:=b) t p
 have q0:=n.pc (o (4*i) (by omega))
 have q1:=n.pc (o (4*i+1) (by omega))
 have q2:=n.pc (o (4*i+2) (by omega))
 have q3:=n.pc (o (4*i+3) (by omega))
 refine .kn<|.seq<|.block<|.cW [35] mixed ?_
 refine .tO 0 rfl .move<|.tO 1 rfl .move<|.tO 2 rfl .move ?_
 refine .eE 3 rfl (.i64 ((4*i:Nat):Int) .mul ⟨by omega,by omega,by omega⟩) (by kernel_rfl) ?_
 refine .eE 4 rfl (.cu (4*i) n (o _ (by omega)) rfl rfl rfl) (by kernel_rfl) ?_
 refine .tO 5 rfl (.bN rfl) ?_
 refine .tO 6 rfl (.wide rfl) ?_
 refine .tO 7 rfl (.sk (b:=16777216#32) rfl rfl) ?_
 refine .tO 8 rfl .move<|.tO 9 rfl .move ?_
 refine .eE 10 rfl (.i64 ((4*i:Nat):Int) .mul ⟨by omega,by omega,by omega⟩) (by kernel_rfl) ?_
 refine .eE 11 rfl (.i64 ((4*i+1:Nat):Int) .add ⟨by omega,by omega,by omega⟩) (by kernel_rfl) ?_
 refine .eE 12 rfl (.cu (4*i+1) n (o _ (by omega)) rfl rfl rfl) (by kernel_rfl) ?_
 refine .tO 13 rfl (.bN rfl) ?_
 refine .tO 14 rfl (.wide rfl) ?_
 refine .tO 15 rfl (.sk (b:=65536#32) rfl rfl) ?_
 refine .tO 16 rfl (.fh rfl rfl) ?_
 refine .tO 17 rfl .move<|.tO 18 rfl .move ?_
 refine .eE 19 rfl (.i64 ((4*i:Nat):Int) .mul ⟨by omega,by omega,by omega⟩) (by kernel_rfl) ?_
 refine .eE 20 rfl (.i64 ((4*i+2:Nat):Int) .add ⟨by omega,by omega,by omega⟩) (by kernel_rfl) ?_
 refine .eE 21 rfl (.cu (4*i+2) n (o _ (by omega)) rfl rfl rfl) (by kernel_rfl) ?_
 refine .tO 22 rfl (.bN rfl) ?_
 refine .tO 23 rfl (.wide rfl) ?_
 refine .tO 24 rfl (.sk (b:=256#32) rfl rfl) ?_
 refine .tO 25 rfl (.fh rfl rfl) ?_
 refine .tO 26 rfl .move<|.tO 27 rfl .move ?_
 refine .eE 28 rfl (.i64 ((4*i:Nat):Int) .mul ⟨by omega,by omega,by omega⟩) (by kernel_rfl) ?_
 refine .eE 29 rfl (.i64 ((4*i+3:Nat):Int) .add ⟨by omega,by omega,by omega⟩) (by kernel_rfl) ?_
 refine .eE 30 rfl (.cu (4*i+3) n (o _ (by omega)) rfl rfl rfl) (by kernel_rfl) ?_
 refine .tO 31 rfl (.bN rfl) ?_
 refine .tO 32 rfl (.wide rfl) ?_
 refine .tO 33 rfl (.fh rfl rfl) ?_
 refine .sT 34 rfl ?_
 refine .ig (λZ=>?_)
 refine .nil (Next.sub ?_)
 refine .sT 35 rfl ?_
 rw[H]
 refine .append m (RS.lits (xs:=[jq b (sched b i)]) rfl (by simp[kr]) (by simp[kr,aw])) (by simp[t];omega) (λK B F=>?_)
 refine .nil (Next.mod rfl ?_)
 refine .tK 36 rfl .assign ?_
 refine RA.nil (by kernel_rfl) ?_
 refine bz<|aD<|.region<|.mo rfl ?_
 refine .ia (i+1) .add ?_
 refine .ag rfl<|.nil ?_
 ·exact bf (i+1,K,B) ⟨p,F⟩ (by simp only;omega) kE.c.c.c.c.c (aI [1,1])
 have Q:i=16:=by have:=bo C;omega
 subst Q
 refine .exit<|bD<|bH<|bF<|aD<|.seq<|.sr<|.az rfl<|.block ?_
 refine .loop (X:=Nat×Value×ax) (λy=>(16<=y.1/\y.1<=64)/\OS 217 1 kr y.2.1 (sched b y.1) y.2.2) (λy=>[(0,.slice J s.dp.length I),(5,pT r),(6,y.2.1),(8,iN y.1)]) (λy=>[bl r (wv ks) 308,y.2.2]) (λy=>64-y.1) (16,A,v) ⟨⟨ac7 _,by simp only;omega⟩,m⟩ kE.c.c.c.c rH ?_
 clear m N A v
 rintro⟨i,A,v⟩ ⟨⟨w,S⟩,m⟩
 simp only at w S m⊢
 have N:=m.aw
 have t:=iX (b:=b) i
 refine .seq<|.sr<|.mo rfl<|.q .lss<|.zn ?_
 refine .cond rfl (λD=>?_) λD=>?_
 have p:i<64:=dQ D
 have H:=O0 (b:=b) t (by omega)
 refine .kn<|.seq<|.block<|.seq ?_
 refine .iQ mixed (by kernel_rfl) ?_
 refine .mo rfl<|.mo rfl ?_
 refine .ia (i-15) .sub ?_
 refine .bb (i-15) m (nW (by omega)) (λb8=>?_)
 refine .lo rfl<|.mo rfl<|.mo rfl ?_
 refine .ia (i-2) .sub ?_
 refine .bb (i-2) m (nW (by omega)) (λb9=>?_)
 refine .lo rfl<|.ag rfl<|.ag rfl<|.zs<|.cW [] mixed ?_
 refine .tO 0 rfl .move<|.tO 1 rfl .move ?_
 refine .eE 2 rfl (.i64 ((i-16:Nat):Int) .sub ⟨by omega,by omega,by omega⟩) (by kernel_rfl) ?_
 refine RA.bb 3 rfl (i-16) m (nW (by omega)) rfl rfl rfl (by kernel_rfl) (λc0=>?_)
 refine .tO 4 rfl (.bN rfl)<|.tO 5 rfl .move<|.tO 7 rfl .move<|.tO 10 rfl .move ?_
 refine .tO 11 rfl (.xB (b:=8#32) rfl rfl (by decide)) ?_
 refine .tO 14 rfl .move<|.tO 15 rfl .move ?_
 refine .eE 16 rfl (.i64 ((i-7:Nat):Int) .sub ⟨by omega,by omega,by omega⟩) (by kernel_rfl) ?_
 refine RA.bb 17 rfl (i-7) m (nW (by omega)) rfl rfl rfl (by kernel_rfl) (λc1=>?_)
 refine .tO 18 rfl (.bN rfl)<|.tO 20 rfl .move<|.tO 22 rfl .move<|.tO 25 rfl .move ?_
 refine .tO 26 rfl (.xB (b:=1024#32) rfl rfl (by decide)) ?_
 refine .sT 6 rfl ?_
 refine .aM (lU _ 7 (by decide) _) (λu k=>?_)
 subst k
 refine .nil (Next.sub ?_)
 refine .sT 8 rfl ?_
 refine .aM (lU _ 18 (by decide) _) (λu k=>?_)
 subst k
 refine .nil (Next.sub ?_)
 refine .tO 9 rfl (.gG rfl rfl) ?_
 refine .tO 12 rfl (.gG rfl rfl) ?_
 refine .tO 13 rfl (.fh rfl rfl) ?_
 refine .tO 19 rfl (.fh rfl rfl) ?_
 refine .sT 21 rfl ?_
 refine .aM (lU _ 17 (by decide) _) (λu k=>?_)
 subst k
 refine .nil (Next.sub ?_)
 refine .sT 23 rfl ?_
 refine .aM (lU _ 19 (by decide) _) (λu k=>?_)
 subst k
 refine .nil (Next.sub ?_)
 refine .tO 24 rfl (.gG rfl rfl) ?_
 refine .tO 27 rfl (.gG rfl rfl) ?_
 refine .tO 28 rfl (.fh rfl rfl) ?_
 refine .tO 29 rfl .assign ?_
 refine RA.nil (by kernel_rfl) ?_
 refine aD<|.region<|.mo rfl<|.mo rfl ?_
 refine .ig (λW=>?_)
 rw[H]
 refine .append m (RS.lits (xs:=[jq b (sched b i)]) rfl (by simp[kr]) (by simp[kr,aw])) (by simp[t];omega) (λK B F=>?_)
 refine .ag rfl<|.nil<|bz<|aD<|.region<|.mo rfl ?_
 refine .ia (i+1) .add ?_
 refine .ag rfl<|.nil ?_
 ·exact bf (i+1,K,B) ⟨⟨by simp only;omega,by simp only;omega⟩,F⟩ (by simp only;omega) kE.c.c.c.c (aI [1,1])
 have G:i=64:=by have:=bo D;omega
 subst G
 refine .exit<|bD<|bH<|bF<|aD<|.seq ?_
 refine .iQ mixed (by kernel_rfl) ?_
 refine .mo rfl ?_
 refine .cu 0 l (show s.dp[0]? =some s.a from rfl) (λa0=>?_)
 refine .lo rfl<|.mo rfl ?_
 refine .cu 1 l (show s.dp[1]? =some s.b from rfl) (λa1=>?_)
 refine .lo rfl<|.mo rfl ?_
 refine .cu 2 l (show s.dp[2]? =some s.c from rfl) (λa2=>?_)
 refine .lo rfl<|.mo rfl ?_
 refine .cu 3 l (show s.dp[3]? =some s.d from rfl) (λa3=>?_)
 refine .lo rfl<|.mo rfl ?_
 refine .cu 4 l (show s.dp[4]? =some s.e from rfl) (λa4=>?_)
 refine .lo rfl<|.mo rfl ?_
 refine .cu 5 l (show s.dp[5]? =some s.f from rfl) (λa5=>?_)
 refine .lo rfl<|.mo rfl ?_
 refine .cu 6 l (show s.dp[6]? =some s.g from rfl) (λa6=>?_)
 refine .lo rfl<|.mo rfl ?_
 refine .cu 7 l (show s.dp[7]? =some s.h from rfl) (λa7=>?_)
 refine .lo rfl<|.ag rfl<|.ag rfl<|.ag rfl<|.ag rfl<|.ag rfl<|.ag rfl<|.ag rfl<|.ag rfl<|.zs<|.sr<|.az rfl<|.block ?_
 refine .loop (X:=Nat) (λi=>i<=64) (λi=>[(0,.slice J s.dp.length I),(5,pT r),(6,A),(12,.int .u32 ((rounds (sched b 64) s i).a.toNat:Int)),(13,.int .u32 ((rounds (sched b 64) s i).b.toNat:Int)),(14,.int .u32 ((rounds (sched b 64) s i).c.toNat:Int)),(15,.int .u32 ((rounds (sched b 64) s i).d.toNat:Int)),(16,.int .u32 ((rounds (sched b 64) s i).e.toNat:Int)),(17,.int .u32 ((rounds (sched b 64) s i).f.toNat:Int)),(18,.int .u32 ((rounds (sched b 64) s i).g.toNat:Int)),(19,.int .u32 ((rounds (sched b 64) s i).h.toNat:Int)),(20,iN i)]) (λi=>[bl r (wv ks) 308,v]) (λi=>64-i) 0 (ac5 _) kE.c.c.c.c.c.c.c.c.c.c.c.c rH ?_
 rintro i w
 refine .seq<|.sr<|.mo rfl<|.q .lss<|.zn ?_
 refine .cond rfl (λE=>?_) λE=>?_
 have p:i<64:=dQ E
 obtain⟨x,M⟩:∃x,x=rounds (sched b 64) s i:=⟨_,rfl⟩
 rw[<-M]
 refine .kn<|.seq<|.block<|.seq<|.cW [] mixed ?_
 refine .tO 0 rfl .move<|.tO 1 rfl .move<|.tO 3 rfl .move<|.tO 6 rfl .move<|.tO 10 rfl .move<|.tO 11 rfl .move ?_
 refine .tO 12 rfl (.lF rfl rfl) ?_
 refine .tO 13 rfl .move ?_
 refine .tO 14 rfl (.gG (b:=4294967295#32) rfl rfl) ?_
 refine .tO 15 rfl .move ?_
 refine .tO 16 rfl (.lF rfl rfl) ?_
 refine .tO 17 rfl (.gG rfl rfl) ?_
 refine .tO 19 rfl .move ?_
 refine .tO 20 rfl (.fF i p rfl rfl rfl) ?_
 refine .eE 21 rfl (.bN rfl (lH (KV p))) (by kernel_rfl) ?_
 refine .tO 23 rfl .move<|.tO 24 rfl .move ?_
 refine RA.bb 25 rfl i m (nW p) rfl rfl rfl (by kernel_rfl) (λa8=>?_)
 refine .tO 26 rfl (.bN rfl) ?_
 refine .sT 2 rfl ?_
 refine .aM (lU _ 6 (by decide) _) (λu k=>?_)
 subst k
 refine .nil (Next.sub ?_)
 refine .sT 4 rfl ?_
 refine .aM (lU _ 11 (by decide) _) (λu k=>?_)
 subst k
 refine .nil (Next.sub ?_)
 refine .tO 5 rfl (.gG rfl rfl) ?_
 refine .sT 7 rfl ?_
 refine .aM (lU _ 25 (by decide) _) (λu k=>?_)
 subst k
 refine .nil (Next.sub ?_)
 refine .tO 8 rfl (.gG rfl rfl) ?_
 refine .tO 9 rfl (.fh rfl rfl) ?_
 refine .tO 18 rfl (.fh rfl rfl) ?_
 refine .tO 22 rfl (.fh rfl rfl) ?_
 refine .tO 27 rfl (.fh rfl rfl) ?_
 refine .tO 28 rfl .assign ?_
 refine RA.nil (by kernel_rfl) ?_
 refine aD<|.sr ?_
 rw[Pa]
 refine .mo rfl ?_
 refine .aM (lU _ 2 (by decide) _) (λu k=>?_)
 subst k
 refine .mo rfl ?_
 refine .aM (lU _ 13 (by decide) _) (λu k=>?_)
 subst k
 refine .q (.gG rfl rfl) ?_
 refine .mo rfl ?_
 refine .aM (lU _ 22 (by decide) _) (λu k=>?_)
 subst k
 refine .q (.gG rfl rfl) ?_
 refine .mo rfl<|.mo rfl<|.q (.lF rfl rfl) ?_
 refine .mo rfl<|.mo rfl<|.q (.lF rfl rfl) ?_
 refine .q (.gG rfl rfl) ?_
 refine .mo rfl<|.mo rfl<|.q (.lF rfl rfl) ?_
 refine .q (.gG rfl rfl) ?_
 refine .q (.fh rfl rfl) ?_
 refine .ag rfl<|.z<|.mo rfl<|.ag rfl<|.z<|.mo rfl<|.ag rfl<|.z<|.mo rfl<|.ag rfl<|.z<|.mo rfl<|.mo rfl<|.q (.fh rfl rfl) ?_
 refine .ag rfl<|.z<|.mo rfl<|.ag rfl<|.z<|.mo rfl<|.ag rfl<|.z<|.mo rfl<|.az rfl<|.region<|.mo rfl<|.mo rfl<|.q (.fh rfl rfl) ?_
 refine .ag rfl<|.nil<|bz<|aD<|.region<|.mo rfl ?_
 refine .ia (i+1) .add ?_
 refine .ag rfl<|.nil ?_
 ·exact bf (i+1) p (by omega) (by rw[show rounds (sched b 64) s (i+1)=sJ x (ks.getD i 0) ((sched b 64).getD i 0) by rw[M];rfl];exact kE.c.c.c.c.c.c.c.c.c.c.c.c) rH
 have G:i=64:=by have:=bo E;omega
 subst G
 have L:comp s b=pA s (rounds (sched b 64) s 64):=rfl
 generalize rounds (sched b 64) s 64=x at L⊢
 refine .exit<|bD<|bH<|bF<|aD<|.seq ?_
 refine .df 40 mixed (by kernel_rfl) ?_
 conv=>arg 6;dsimp only[List.take]
 refine .mo rfl ?_
 refine .cu 0 l (show s.dp[0]? =some s.a from rfl) (λa9=>?_)
 refine .lo rfl<|.mo rfl<|.q (.fh rfl rfl) ?_
 refine .mo rfl ?_
 refine .cu 1 l (show s.dp[1]? =some s.b from rfl) (λb0=>?_)
 refine .lo rfl<|.mo rfl<|.q (.fh rfl rfl) ?_
 refine .mo rfl ?_
 refine .cu 2 l (show s.dp[2]? =some s.c from rfl) (λb1=>?_)
 refine .lo rfl<|.mo rfl<|.q (.fh rfl rfl) ?_
 refine .mo rfl ?_
 refine .cu 3 l (show s.dp[3]? =some s.d from rfl) (λb2=>?_)
 refine .lo rfl<|.mo rfl<|.q (.fh rfl rfl) ?_
 refine .mo rfl ?_
 refine .cu 4 l (show s.dp[4]? =some s.e from rfl) (λb3=>?_)
 refine .lo rfl<|.mo rfl<|.q (.fh rfl rfl) ?_
 refine .mo rfl ?_
 refine .cu 5 l (show s.dp[5]? =some s.f from rfl) (λb4=>?_)
 refine .lo rfl<|.mo rfl<|.q (.fh rfl rfl) ?_
 refine .mo rfl ?_
 refine .cu 6 l (show s.dp[6]? =some s.g from rfl) (λb6=>?_)
 refine .lo rfl<|.mo rfl<|.q (.fh rfl rfl) ?_
 refine .mo rfl ?_
 refine .cu 7 l (show s.dp[7]? =some s.h from rfl) (λb7=>?_)
 refine .lo rfl<|.mo rfl<|.q (.fh rfl rfl) ?_
 refine .nil ?_
 refine .qd (wv (pA s x).dp) (λY=>?_) (ho:=q6)
 refine .az rfl ?_
 refine .ret (aR _ (.one (.tmp rfl)) (.one [0] _) ?_)
 ·rw[L]
  exact⟨_,rfl,OS.lits (xs:=(pA s x).dp) (vB _) (λ_ _=>rfl) (λx _ u k=>by simp only[kr,List.mem_singleton]at k;subst k;rfl)⟩
theorem lR(x:de)(n:Nat)(a:n∈[2,6,7,11,13,17,18,19,22,25])(R:av):Spec prog 304 [.int .u32 (x.toNat:Int),.int .i64 (-(n:Int))] R [] λv H'=>v=.int .u32 ((gQ x n).toNat:Int)/\H'=[]:=by
 have e:IntKind.u64.wrap ((BitVec.ofInt IntKind.u64.bits (IntKind.u64.wrap (-(n:Int)))&&&BitVec.ofInt IntKind.u64.bits 31).toNat:Int)=((32-n:Nat):Int)/\n<=32:=by
  simp only[List.mem_cons,List.not_mem_nil,or_false]at a
  rcases a with rfl|rfl|rfl|rfl|rfl|rfl|rfl|rfl|rfl|rfl<;>exact⟨by decide,by decide⟩
 obtain⟨e,b⟩:=e
 refine Spec.body func304 rfl results304 ntmps304 rfl ?_
 refine .sr<|.ag rfl<|.z<|.mo rfl<|.q .hE<|.q .ox ?_
 rw[e]
 refine .ag rfl<|.z<|.mo rfl<|.mo rfl ?_
 refine .q (.pr rfl rfl (by omega)) ?_
 refine .mo rfl<|.mo rfl ?_
 refine .q (.u64 ((n:Nat):Int) .sub ⟨by omega,by omega,by omega⟩) ?_
 refine .q (.mQ rfl rfl (by omega)) ?_
 refine .q (.o6 rfl rfl) ?_
 refine .az rfl ?_
 refine .ret (aO rfl ?_)
 ·exact⟨rfl,rfl⟩
theorem NH(v:Value)(b:List UInt8)(R:av)(h:RS R 1 cO v b)(B:64<=b.length):Spec prog 303 [v] R [] λu H'=>u=.agg (wv (sched b 64)).toArray/\H'=[]:=by
 have k:∀j,j<64->b[j]? =some (b.getD j 0):=λj A=>by
  rw[adi,bC (by omega)];rfl
 obtain⟨s,r,rfl⟩:=h.val
 refine Spec.body func303 rfl results303 ntmps303 rfl ?_
 refine .sr ?_
 refine .cN (λf=>?_)
 refine .z ?_
 refine .cN (λg=>?_)
 refine .zs<|.sr<|.mo rfl<|.zn<|.block ?_
 refine .loop (X:=Nat) (λi=>i<=16) (λi=>[(0,.slice s b.length r),(2,pT f),(3,pT g),(10,iN i)]) (λi=>[bl g (wv (arr b i)) 308,bl f (wv (List.replicate 64 0#32)) 308]) (λi=>16-i) 0 (ac5 _) kE.c.c.c.c rH ?_
 rintro i t
 have d:=tN (b:=b) (i:=i) (by omega)
 have e:=iX (b:=b) i
 refine .sr<|.q .lss<|.zs ?_
 refine .cond rfl (λl=>?_) λl=>?_
 have o:i<16:=dQ l
 have p:(((((b.getD (4*i) 0).toBitVec.setWidth 32:de)<<<24|||((b.getD (4*i+1) 0).toBitVec.setWidth 32:de)<<<16)|||((b.getD (4*i+2) 0).toBitVec.setWidth 32:de)<<<8)|||((b.getD (4*i+3) 0).toBitVec.setWidth 32:de))=jq b (sched b i):=by
  unfold jq
  rw[if_pos (by rw[e];exact o),e]
  rfl
 refine .kn<|.seq<|.block<|.sr<|.mo rfl<|.az rfl ?_
 refine .df 35 mixed (by kernel_rfl) ?_
 conv=>arg 6;dsimp only[List.take]
 refine .mo rfl<|.mo rfl<|.mo rfl ?_
 refine .ia (4*i) .mul ?_
 refine .cu (4*i) h (k _ (by omega)) (λC=>?_)
 refine .lo rfl<|.q (.wide rfl) ?_
 refine .q (.pr (n:=24) rfl rfl (by decide)) ?_
 refine .mo rfl<|.mo rfl ?_
 refine .ia (4*i) .mul ?_
 refine .ia (4*i+1) .add ?_
 refine .cu (4*i+1) h (k _ (by omega)) (λD=>?_)
 refine .lo rfl<|.q (.wide rfl) ?_
 refine .q (.pr (n:=16) rfl rfl (by decide)) ?_
 refine .q (.o6 rfl rfl) ?_
 refine .mo rfl<|.mo rfl ?_
 refine .ia (4*i) .mul ?_
 refine .ia (4*i+2) .add ?_
 refine .cu (4*i+2) h (k _ (by omega)) (λE=>?_)
 refine .lo rfl<|.q (.wide rfl) ?_
 refine .q (.pr (n:=8) rfl rfl (by decide)) ?_
 refine .q (.o6 rfl rfl) ?_
 refine .mo rfl<|.mo rfl ?_
 refine .ia (4*i) .mul ?_
 refine .ia (4*i+3) .add ?_
 refine .cu (4*i+3) h (k _ (by omega)) (λF=>?_)
 refine .lo rfl<|.q (.wide rfl) ?_
 refine .q (.o6 rfl rfl) ?_
 refine .q (.fF i (by omega) rfl rfl rfl) ?_
 refine .nil ?_
 refine .cJ rfl rfl ?_ (by rw[kY,d];omega)
 rw[tv (i:=i) (by omega) (by rw[d];omega),p,tP (by omega)]
 refine .nil<|bz<|aD<|.region ?_
 refine .ia (i+1) .add ?_
 refine .mo rfl<|.nil ?_
 ·exact bf (i+1) o (by omega) kE.c.c.c.c rH
 have w:i=16:=by have:=bo l;omega
 subst w
 refine .exit<|bD<|bH<|bF<|aD<|.seq<|.sr<|.az rfl<|.block ?_
 refine .loop (X:=Nat) (λi=>16<=i/\i<=64) (λi=>[(0,.slice s b.length r),(2,pT f),(3,pT g),(5,iN i)]) (λi=>[bl g (wv (arr b i)) 308,bl f (wv (List.replicate 64 0#32)) 308]) (λi=>64-i) 16 ⟨ac7 _,by omega⟩ kE.c.c.c.c rH ?_
 rintro i ⟨t,y⟩
 have d:=tN (b:=b) (i:=i) (by omega)
 have e:=iX (b:=b) i
 refine .seq<|.sr<|.mo rfl<|.q .lss<|.zn ?_
 refine .cond rfl (λm=>?_) λm=>?_
 have o:i<64:=dQ m
 have p:(((sched b i).getD (i-16) 0+((gQ ((sched b i).getD (i-15) 0) 7^^^gQ ((sched b i).getD (i-15) 0) 18)^^^(sched b i).getD (i-15) 0>>>3))+(sched b i).getD (i-7) 0+((gQ ((sched b i).getD (i-2) 0) 17^^^gQ ((sched b i).getD (i-2) 0) 19)^^^(sched b i).getD (i-2) 0>>>10))=jq b (sched b i):=by
  unfold jq
  rw[if_neg (by rw[e];omega),e]
  rfl
 refine .kn<|.seq<|.block<|.seq ?_
 refine .iQ mixed (by kernel_rfl) ?_
 refine .mo rfl ?_
 refine .ia (i-15) .sub ?_
 refine .q (.fF (i-15) (by omega) rfl rfl rfl) ?_
 refine .q (.bN rfl (lH (lW (p8 (by omega))))) ?_
 refine .mo rfl ?_
 refine .ia (i-2) .sub ?_
 refine .q (.fF (i-2) (by omega) rfl rfl rfl) ?_
 refine .q (.bN rfl (lH (lW (p8 (by omega))))) ?_
 refine .ag rfl<|.ag rfl<|.z<|.mo rfl ?_
 refine .aM (lR _ 7 (by decide) _) (λu a=>?_)
 subst a
 refine .mo rfl ?_
 refine .aM (lR _ 18 (by decide) _) (λu a=>?_)
 subst a
 refine .q (.gG rfl rfl) ?_
 refine .mo rfl ?_
 refine .q (.mQ (n:=3) rfl rfl (by decide)) ?_
 refine .q (.gG rfl rfl) ?_
 refine .ag rfl<|.z<|.mo rfl ?_
 refine .aM (lR _ 17 (by decide) _) (λu a=>?_)
 subst a
 refine .mo rfl ?_
 refine .aM (lR _ 19 (by decide) _) (λu a=>?_)
 subst a
 refine .q (.gG rfl rfl) ?_
 refine .mo rfl ?_
 refine .q (.mQ (n:=10) rfl rfl (by decide)) ?_
 refine .q (.gG rfl rfl) ?_
 refine .az rfl ?_
 refine .df 15 mixed (by kernel_rfl) ?_
 conv=>arg 6;dsimp only[List.take]
 refine .mo rfl<|.mo rfl ?_
 refine .ia (i-16) .sub ?_
 refine .q (.fF (i-16) (by omega) rfl rfl rfl) ?_
 refine .q (.bN rfl (lH (lW (p8 (by omega))))) ?_
 refine .mo rfl<|.q (.fh rfl rfl) ?_
 refine .mo rfl ?_
 refine .ia (i-7) .sub ?_
 refine .q (.fF (i-7) (by omega) rfl rfl rfl) ?_
 refine .q (.bN rfl (lH (lW (p8 (by omega))))) ?_
 refine .q (.fh rfl rfl) ?_
 refine .mo rfl<|.q (.fh rfl rfl) ?_
 refine .q (.fF i (by omega) rfl rfl rfl) ?_
 refine .nil ?_
 refine .cJ rfl rfl ?_ (by rw[kY,d];omega)
 rw[tv (i:=i) (by omega) (by rw[d];omega),p,tP (by omega)]
 refine .nil<|bz<|aD<|.region<|.mo rfl ?_
 refine .ia (i+1) .add ?_
 refine .ag rfl<|.nil ?_
 ·exact bf (i+1) ⟨by omega,by omega⟩ (by omega) kE.c.c.c.c rH
 have x:i=64:=by have:=bo m;omega
 subst x
 rw[zc]
 refine .exit<|bD<|bH<|bF<|aD<|.sr ?_
 refine .q (.bK rfl (by rw[kY,iX])) ?_
 refine .ct rfl rfl ?_ (by rw[kY,iX]) (by rw[kY,iX];exact ac7 _)
 rw[kT (by rw[kY,iX];rfl)]
 refine .zn ?_
 refine .ret (aR _ (.one (.ey rfl (by rw[kY,iX]))) (.none _) ?_)
 ·exact⟨rfl,rfl⟩
def lD(l m:List de)(i:Nat):List de:=(List.zipWith (· + ·) l m).take i++l.drop i
theorem yX{l m:List de}{i:Nat}(h:l.length=m.length)(a:i<=l.length):(lD l m i).length=l.length:=by
 simp[lD,h];omega
theorem yW{l m:List de}{i:Nat}(h:l.length=m.length)(b:i<l.length):(lD l m i)[i]? =l[i]? :=by
 unfold lD
 have a:((List.zipWith (· + ·) l m).take i).length=i:=by simp;omega
 rw[List.getElem?_append_right (by omega),a,adj,List.getElem?_drop,Nat.add_zero]
theorem yY{l m:List de}{i:Nat}{x y:de}(a:l[i]? =some x)(b:m[i]? =some y):(lD l m i).set i (x+y)=lD l m (i+1):=by
 unfold lD
 obtain⟨d,e⟩:=List.getElem?_eq_some_iff.1 a
 obtain⟨f,g⟩:=List.getElem?_eq_some_iff.1 b
 have c:((List.zipWith (· + ·) l m).take i).length=i:=by simp;omega
 rw[adk _ _ (by omega),c,adj,lH a,adl,adg]
 have:(List.zipWith (· + ·) l m)[i]? =some (x+y):=by rw[List.getElem?_zipWith,a,b]
 rw[this]
 simp
theorem tc{s:ew}:s.dp.length=8:=rfl
theorem yV{s x:ew}:lD s.dp x.dp 8=(pA s x).dp:=rfl
theorem KW{i:Nat}(h:i<64):(wv ks)[i]? =some (.int .u32 ((ks.getD i 0).toNat:Int)):=by
 have a:ks.length=64:=rfl
 refine lW ?_
 rw[adi,bC (by omega)]
 rfl
theorem OT{b:List UInt8}{i:Nat}(h:i<64):(wv (sched b 64))[i]? =some (.int .u32 (((sched b 64).getD i 0).toNat:Int)):=lW (nW h)
theorem Lf(s:ew)(v:Value)(b:List UInt8)(R:av)(h:RS R 1 cO v b)(H:64<=b.length)(J:PC R (pT 1) (wv ks)):
  Spec prog 298 [.agg (wv s.dp).toArray,v] R [] λu H'=>u=.agg (wv (comp s b).dp).toArray/\H'=[]:=by
 have K:=h.aw
 refine Spec.body func298 rfl results298 ntmps298 rfl ?_
 refine .sr ?_
 refine .dv rfl (λg=>?_)
 refine .cN (λj=>?_)
 refine .z<|.mo rfl ?_
 refine .aM (NH v b _ h.rx H) (λu d=>?_)
 subst d
 obtain⟨w,o⟩:∃w,w=sched b 64:=⟨_,rfl⟩
 have A:w.length=64:=by rw[o];exact iX 64
 have I:∀i,i<64->(wv w)[i]? =some (.int .u32 ((w.getD i 0).toNat:Int)):=λi k=>by rw[o];exact OT k
 rw[<-o]
 refine .cN (λp=>?_)
 refine .ct rfl rfl ?_ (by rw[kY,A]) (by rw[kY,A];exact ac7 _)
 rw[kT (by rw[kY,A];rfl)]
 refine .z<|.q (.bK rfl) ?_
 refine .cN (λe=>?_)
 refine .ct rfl rfl ?_ rfl (ac8 rfl)
 rw[kT (by rfl)]
 refine .zs<|.sr<|.q (.bK rfl)<|.mo rfl<|.zn<|.block ?_
 refine .loop (X:=Nat) (λi=>i<=64) (λi=>[(2,pT g),(4,pT j),(5,pT p),(6,pT e),(17,.agg (wv ks).toArray),(18,iN i)]) (λi=>[bl e (wv (rounds w s i).dp) 315,bl p (wv w) 308,bl j (wv (List.replicate 8 0#32)) 315,bl g (wv s.dp) 315]) (λi=>64-i) 0 (ac5 _) kE.c.c.c.c.c.c rH ?_
 rintro i k
 refine .sr<|.q .lss<|.zs ?_
 refine .cond rfl (λr=>?_) λr=>?_
 have a:i<64:=dQ r
 obtain⟨x,f⟩:∃x,x=rounds w s i:=⟨_,rfl⟩
 rw[<-f]
 refine .kn<|.seq<|.block<|.sr<|.mo rfl<|.q (.vM i (KW a) a rfl rfl rfl) ?_
 refine .ag rfl<|.ag rfl<|.zs ?_
 refine .iQ mixed (by kernel_rfl) ?_
 refine .q (.fF 0 (by decide) rfl rfl rfl) ?_
 refine .lo rfl ?_
 refine .q (.fF 4 (by decide) rfl rfl rfl) ?_
 refine .lo rfl<|.ag rfl<|.ag rfl<|.zs<|.cW [] mixed ?_
 refine .tO 0 rfl (.fF 7 (by decide) rfl rfl rfl) ?_
 refine .tO 1 rfl (.bN rfl)<|.tO 2 rfl .move<|.tO 4 rfl .move<|.tO 7 rfl .move<|.tO 11 rfl .move ?_
 refine .tO 12 rfl (.fF 5 (by decide) rfl rfl rfl) ?_
 refine .tO 13 rfl (.bN rfl) ?_
 refine .tO 14 rfl (.lF rfl rfl) ?_
 refine .tO 15 rfl .move ?_
 refine .tO 16 rfl (.Ag rfl) ?_
 refine .tO 17 rfl (.fF 6 (by decide) rfl rfl rfl) ?_
 refine .tO 18 rfl (.bN rfl) ?_
 refine .tO 19 rfl (.lF rfl rfl) ?_
 refine .tO 20 rfl (.gG rfl rfl) ?_
 refine .tO 22 rfl .move<|.tO 24 rfl .move ?_
 refine .tO 25 rfl (.fF i a rfl rfl rfl) ?_
 refine .eE 26 rfl (.bN rfl (lH (I i a))) (by kernel_rfl) ?_
 refine .sT 3 rfl ?_
 refine .aM (lR _ 6 (by decide) _) (λu d=>?_)
 subst d
 refine .nil (Next.sub ?_)
 refine .sT 5 rfl ?_
 refine .aM (lR _ 11 (by decide) _) (λu d=>?_)
 subst d
 refine .nil (Next.sub ?_)
 refine .tO 6 rfl (.gG rfl rfl) ?_
 refine .sT 8 rfl ?_
 refine .aM (lR _ 25 (by decide) _) (λu d=>?_)
 subst d
 refine .nil (Next.sub ?_)
 refine .tO 9 rfl (.gG rfl rfl) ?_
 refine .tO 10 rfl (.fh rfl rfl) ?_
 refine .tO 21 rfl (.fh rfl rfl) ?_
 refine .tO 23 rfl (.fh rfl rfl) ?_
 refine .tO 27 rfl (.fh rfl rfl) ?_
 refine .tO 28 rfl .assign ?_
 refine RA.nil (by kernel_rfl) ?_
 refine aD<|.seq<|.cW [] mixed ?_
 refine .tO 0 rfl .move<|.tO 2 rfl .move<|.tO 5 rfl .move<|.tO 8 rfl .move ?_
 refine .tO 9 rfl (.fF 1 (by decide) rfl rfl rfl) ?_
 refine .tO 10 rfl (.bN rfl) ?_
 refine .tO 11 rfl (.lF rfl rfl) ?_
 refine .tO 12 rfl .move ?_
 refine .tO 13 rfl (.fF 2 (by decide) rfl rfl rfl) ?_
 refine .tO 14 rfl (.bN rfl) ?_
 refine .tO 15 rfl (.lF rfl rfl) ?_
 refine .tO 16 rfl (.gG rfl rfl) ?_
 refine .tO 17 rfl (.fF 1 (by decide) rfl rfl rfl) ?_
 refine .tO 18 rfl (.bN rfl) ?_
 refine .tO 19 rfl (.fF 2 (by decide) rfl rfl rfl) ?_
 refine .tO 20 rfl (.bN rfl) ?_
 refine .tO 21 rfl (.lF rfl rfl) ?_
 refine .tO 22 rfl (.gG rfl rfl) ?_
 refine .sT 1 rfl ?_
 refine .aM (lR _ 2 (by decide) _) (λu d=>?_)
 subst d
 refine .nil (Next.sub ?_)
 refine .sT 3 rfl ?_
 refine .aM (lR _ 13 (by decide) _) (λu d=>?_)
 subst d
 refine .nil (Next.sub ?_)
 refine .tO 4 rfl (.gG rfl rfl) ?_
 refine .sT 6 rfl ?_
 refine .aM (lR _ 22 (by decide) _) (λu d=>?_)
 subst d
 refine .nil (Next.sub ?_)
 refine .tO 7 rfl (.gG rfl rfl) ?_
 refine .tO 23 rfl (.fh rfl rfl) ?_
 refine .tO 24 rfl .assign ?_
 refine RA.nil (by kernel_rfl) ?_
 refine aD<|.seq ?_
 refine .df 2 mixed (by kernel_rfl) ?_
 conv=>arg 6;dsimp only[List.take]
 refine .q (.sQ 1 8 rfl ⟨_,rfl⟩ rfl (by decide) (by decide) (by decide)) ?_
 refine .q (.sQ 0 7 rfl rfl ⟨_,rfl⟩ (by decide) (by decide) (by decide)) ?_
 refine .nil ?_
 refine .Aj (b:=e) (E:=315) (lo:=1) (vs:=wv x.dp) (ys:=((wv x.dp).drop 0).take 7) (RS.zq (b:=e) (E:=315) (fr:=(0,0)) (lo:=0) (n:=7) (cap:=8) (.inr (by simp)) q6 (ac8 rfl) (by decide) (by decide)) rfl rfl rfl (ac8 rfl) ?_
 refine .z ?_
 refine .q (.fF 4 (by decide) rfl rfl rfl) ?_
 refine .lo rfl<|.mo rfl<|.q (.fh rfl rfl) ?_
 refine .q (.fF 4 (by decide) rfl rfl rfl) ?_
 refine .cJ rfl rfl<|.zn<|.region<|.mo rfl<|.mo rfl<|.q (.fh rfl rfl) ?_
 refine .q (.fF 0 (by decide) rfl rfl rfl) ?_
 refine .cJ rfl rfl<|.nil<|bz<|aD<|.region ?_
 refine .ia (i+1) .add ?_
 refine .mo rfl<|.nil ?_
 ·exact bf (i+1) a (by omega) kE.c.c.c.c.c.c (by rw[show rounds w s (i+1)=sJ x (ks.getD i 0) (w.getD i 0) by rw[f];rfl];exact aT.refl _)
 have F:i=64:=by have:=bo r;omega
 subst F
 obtain⟨x,f⟩:∃x,x=rounds w s 64:=⟨_,rfl⟩
 rw[<-f]
 refine .exit<|bD<|bH<|bF<|aD<|.seq<|.sr<|.mo rfl<|.zn<|.block ?_
 refine .loop (X:=Nat) (λi=>i<=8) (λi=>[(2,pT g),(4,pT j),(6,pT e),(91,iN i)]) (λi=>[bl e (wv x.dp) 315,bl p (wv w) 308,bl j (wv (List.replicate 8 0#32)) 315,bl g (wv (lD s.dp x.dp i)) 315]) (λi=>8-i) 0 (ac5 _) kE.c.c.c.c rH ?_
 rintro i k
 have B:(lD s.dp x.dp i).length=8:=yX (l:=s.dp) (m:=x.dp) rfl k
 refine .sr<|.q .lss<|.zs ?_
 refine .cond rfl (λt=>?_) λt=>?_
 have a:i<8:=dQ t
 obtain⟨y,C⟩:∃y,s.dp[i]? =some y:=⟨_,bC (by rw[tc];exact a)⟩
 obtain⟨z,D⟩:∃z,x.dp[i]? =some z:=⟨_,bC (by rw[tc];exact a)⟩
 refine .kn<|.seq<|.block<|.sr<|.mo rfl<|.az rfl ?_
 refine .df 8 mixed (by kernel_rfl) ?_
 conv=>arg 6;dsimp only[List.take]
 refine .mo rfl<|.q (.fF i a rfl rfl rfl) ?_
 refine .q (.bN rfl (lH (lW ((yW (l:=s.dp) (m:=x.dp) rfl a).trans C)))) ?_
 refine .mo rfl<|.q (.fF i a rfl rfl rfl) ?_
 refine .q (.bN rfl (lH (lW D))) ?_
 refine .q (.fh rfl rfl) ?_
 refine .q (.fF i a rfl rfl rfl) ?_
 refine .nil ?_
 refine .cJ rfl rfl ?_ (by rw[kY,B];omega)
 rw[tv (i:=i) (by omega) (by rw[B];omega),yY C D]
 refine .nil<|bz<|aD<|.region ?_
 refine .ia (i+1) .add ?_
 refine .mo rfl<|.nil ?_
 ·exact bf (i+1) a (by omega) kE.c.c.c.c rH
 have G:i=8:=by have:=bo t;omega
 subst G
 rw[yV]
 refine .exit<|bD<|bH<|bF<|aD<|.sr<|.q (.bK rfl) ?_
 refine .ct rfl rfl ?_ rfl (ac8 rfl)
 rw[kT (by rfl)]
 refine .zn ?_
 refine .ret (aR _ (.one (.ey rfl rfl)) (.none _) ?_)
 ·exact⟨by rw[f,o];rfl,rfl⟩
theorem O9(m:Nat):IntKind.u8.wrap (m:Int)=((UInt8.ofNat m).toNat:Int):=by
 rw[tu,BitVec.ofInt_natCast]
 simp
theorem fdiv_pow(m k:Nat):(m:Int).fdiv (2^k)=((m/2^k:Nat):Int):=by
 rw[Int.fdiv_eq_ediv_of_nonneg _ (Int.le_of_lt (Int.pow_pos (by decide)))]
 simp
theorem yr(m k:Nat):(m:Int).tmod (k:Int)=((m % k:Nat):Int):=by
 rw[Int.tmod_eq_emod_of_nonneg (by omega)]
 simp
def mj(n:Nat):List UInt8:=[gN n 0,gN n 1,gN n 2,gN n 3,gN n 4,gN n 5,gN n 6,gN n 7]
def lM(n z i:Nat):List UInt8:=128::List.replicate z 0++((mj n).take i++List.replicate (8-i) 0)
theorem LP{n z i:Nat}(h:i<=8):(lM n z i).length=1+z+8:=by
 simp[lM,mj];omega
theorem vV{n i:Nat}(h:i<8):(mj n)[i]? =some (gN n i):=by
 match i,h with
 |0,_=>rfl
 |1,_=>rfl
 |2,_=>rfl
 |3,_=>rfl
 |4,_=>rfl
 |5,_=>rfl
 |6,_=>rfl
 |7,_=>rfl
theorem LQ{n z i:Nat}(h:i<8):(lM n z i).set (1+z+i) (gN n i)=lM n z (i+1):=by
 unfold lM
 have a:(128::List.replicate z (0:UInt8)).length=1+z:=by simp;omega
 have b:((mj n).take i).length=i:=by simp[mj];omega
 rw[adk _ _ (by rw[a];omega),a,show 1+z+i-(1+z)=i by omega,adk _ _ (by rw[b];exact ac7 _),b,adj,show 8-i=(8-(i+1))+1 by omega,ado,adl,adg,vV h]
 simp
theorem LS(n:Nat)(v:n<=1000000)(R:av):Spec prog 299 [iN n] R [] λu H'=>∃T,H'=[T]/\OS 5 1 cO u (iD n) T:=by
 obtain⟨z,m⟩:∃z,z=(119-n % 64) % 64:=⟨_,rfl⟩
 refine Spec.body func299 rfl results299 ntmps299 rfl ?_
 refine .sr<|.ag rfl<|.z<|.mo rfl<|.q .rem ?_
 rw[show(n:Int).tmod 64=((n % 64:Nat):Int)from yr n 64]
 refine .ia (119-n % 64) .sub ?_
 refine .q .rem ?_
 rw[show((119-n % 64:Nat):Int).tmod 64=((z:Nat):Int) by rw[m];exact yr _ 64]
 refine .ag rfl<|.z<|.mo rfl ?_
 refine .ia (1+z) .add ?_
 refine .ia (1+z+8) .add ?_
 refine .makeSlice (enc:=cO) (1+z+8) (0:UInt8) rfl rfl (by decide) (by decide) rfl rfl (by omega) (by omega) (λb T f=>?_)
 have w:z<64:=by omega
 refine .ag rfl<|.z<|.mo rfl ?_
 refine .bb 0 f (show(List.replicate (1+z+8) (0:UInt8))[0]? =some 0 by simp) (λx=>?_)
 refine .eM 0 f (show(List.replicate (1+z+8) (0:UInt8))[0]? =some 0 by simp) (128:UInt8) (λo g=>?_)
 have s:(List.replicate (1+z+8) (0:UInt8)).set 0 128=lM n z 0:=by
  unfold lM
  rw[show 1+z+8=(z+8)+1 by omega,ado,adl,List.take_zero,adm,List.cons_append,List.replicate_append_replicate]
 rw[s]at g
 refine .zs<|.sr<|.mo rfl<|.zn<|.block ?_
 refine .loop (X:=Nat×ax) (λy=>y.1<=8/\OS 5 1 cO (.slice (some ⟨b,0,none⟩) (1+z+8) (1+z+8)) (lM n z y.1) y.2) (λy=>[(0,iN n),(3,iN z),(4,.slice (some ⟨b,0,none⟩) (1+z+8) (1+z+8)),(16,iN y.1)]) (λy=>[y.2]) (λy=>8-y.1) (0,o) ⟨ac5 _,g⟩ kE.c.c.c.c rH ?_
 rintro⟨i,r⟩ ⟨j,a⟩
 simp only at j a⊢
 refine .sr<|.q .lss<|.zs ?_
 refine .cond rfl (λd=>?_) λd=>?_
 have k:i<8:=dQ d
 obtain⟨y,l⟩:∃y,(lM n z i)[1+z+i]? =some y:=⟨_,bC (by rw[LP j];omega)⟩
 refine .kn<|.seq<|.block<|.sr<|.mo rfl<|.az rfl<|.region<|.mo rfl<|.mo rfl ?_
 refine .ia (1+z) .add ?_
 refine .mo rfl ?_
 refine .ia (1+z+i) .add ?_
 refine .mo rfl ?_
 refine .q (.u64 ((n:Nat):Int) .hE ⟨rfl,by omega,by omega⟩) ?_
 refine .q (.u64 ((n*8:Nat):Int) .mul ⟨by omega,by omega,by omega⟩) ?_
 refine .mo rfl ?_
 refine .ia (8*i) .mul ?_
 refine .ia (56-8*i) .sub ?_
 refine .q .qT ?_
 rw[show min (((56-8*i:Nat):Int)).toNat IntKind.u64.bits=56-8*i by simp only[IntKind.bits];omega,fdiv_pow]
 refine .q .hE ?_
 rw[O9]
 refine .bb (1+z+i) a l (λA=>?_)
 refine .eM (1+z+i) a l (gN n i) (λp h=>?_)
 rw[LQ k]at h
 refine .nil<|bz<|aD<|.region ?_
 refine .ia (i+1) .add ?_
 refine .mo rfl<|.nil ?_
 ·exact bf (i+1,p) ⟨k,h⟩ (by simp only;omega) kE.c.c.c.c rH
 have t:i=8:=by have:=bo d;omega
 subst t
 refine .exit<|bD<|bH<|bF<|aD<|.sr<|.mo rfl<|.az rfl ?_
 refine .ret (aR _ (.one (.tmp rfl)) (.one [0] _) ?_)
 ·exact⟨r,by simp[take],by have e:iD n=lM n z 8:=(by rw[m];rfl);rw[e];exact a⟩
theorem Kj(R:av):Spec prog 297 [] R [] λu H'=>u=.agg (wv H0.dp).toArray/\H'=[]:=by
 refine Spec.body func297 rfl results297 ntmps297 rfl ?_
 refine .sr ?_
 refine .cN (λa=>?_)
 refine .z<|.q .tZ<|.ct rfl rfl<|.zn ?_
 refine .ret (aR _ (.one (.ey rfl rfl)) (.none _) ?_)
 ·exact⟨rfl,rfl⟩
def iI(s:ew)(made:Bool)(vr:Value)(n:Nat):List Value:=wv s.dp++[.bool made,vr,iN n]
def p2(b:Nat)(s:ew)(made:Bool)(r:List UInt8)(n:Nat)(T:ax):Prop:=∃vr Tr,T=(b,.cells (iI s made vr n).toArray 317 (0,0))::Tr/\OS 5 1 cO vr r Tr
def Z0:ew:=⟨0,0,0,0,0,0,0,0⟩
theorem KM(R:av):Spec prog 287 [] R [] λu H'=>∃T,H'=[T]/\∃b,u=pT b/\p2 b Z0 false [] 0 T:=by
 refine Spec.body func287 rfl results287 ntmps287 rfl ?_
 refine .sr<|.ag rfl<|.z ?_
 refine .q .dI ?_
 refine .dv rfl (λa=>?_)
 refine .az rfl ?_
 refine .ret (aR _ (.one (.tmp rfl)) (.one [0] _) ?_)
 ·exact⟨_,by simp[take];rfl,_,rfl,sZ,[],rfl,OS.nil⟩
theorem yL(b:Nat)(s:ew)(d:Bool)(r:List UInt8)(n:Nat)(T:ax)(v:Value)(l:List UInt8)(R:av)(J:p2 b s d r n T)(h:RS R 1 cO v l)(Q:r.length<=1000)(N:l.length<=100000)(O:n<=100000)(K:PC R (pT 1) (wv ks)):
  Spec prog 288 [pT b,v] R [T] λu H'=>∃T',H'=[T']/\u=.tuple #[]/\p2 b (blocks (if d then s else H0) (r++l)) true (lm (r++l)) (n+l.length) T':=by
 obtain⟨j,F,rfl,G⟩:=J
 have Y:=G.aw
 have Z:=h.aw
 obtain⟨p,o⟩:∃p,p=(if d then s else H0):=⟨_,rfl⟩
 rw[<-o]
 refine Spec.dg (H':=[bl b (iI s d j n) 317,F]) (by simp) ?_
 refine Spec.body func288 rfl results288 ntmps288 rfl ?_
 refine .seq<|.sr<|.mo rfl<|.q (.uV rfl rfl) ?_
 refine .zn<|.bZ<|.kn<|.seq<|.sr<|.mo rfl<|.nc rfl<|.fa rfl<|.lo rfl<|.q .not<|.zn ?_
 refine bQ.cut (X:=Unit) (λ_=>True) (λ_=>[(0,pT b),(1,v)]) (λ_=>[bl b (iI p true j n) 317,F]) ?_ ?_
 refine .cond rfl (λk=>?_) λk=>?_
 refine .region<|.mo rfl<|.mo rfl ?_
 refine .aM (Kj _) (λu D=>?_)
 subst D
 refine .nc rfl<|.fa rfl ?_
 refine .ct rfl rfl ?_ rfl (ac8 rfl)
 rw[show cc (iI s d j n) (0+0) (wv H0.dp)=iI H0 d j n from rfl]
 refine .nc rfl<|.fa rfl<|.cJ rfl rfl ?_
 rw[show cc (iI H0 d j n) (0+8) [.bool true]=iI H0 true j n from rfl]
 refine .nil ?_
 ·first
   |exact aB () trivial kE.c.c (by rw[o,if_neg (by simpa using k)];exact aT.refl _)
   |exact aB () trivial kE.c.c (by have m:d=true:=(by simpa using k);rw[o,if_pos m,m];exact aT.refl _)
 refine .skip ?_
 ·first
   |exact aB () trivial kE.c.c (by rw[o,if_neg (by simpa using k)];exact aT.refl _)
   |exact aB () trivial kE.c.c (by have m:d=true:=(by simpa using k);rw[o,if_pos m,m];exact aT.refl _)
 intro x S
 refine aD<|.sr<|.mo rfl<|.nc rfl<|.fa rfl<|.lo rfl<|.mo rfl<|.q (.dl h) ?_
 refine .ia (n+l.length) .add ?_
 refine .nc rfl<|.fa rfl<|.cJ rfl rfl<|.z<|.mo rfl<|.mo rfl<|.nc rfl<|.fa rfl<|.lo rfl<|.mo rfl ?_
 refine .append G h.rx (by omega) (λM I H=>?_)
 have U:=H.aw
 refine .nc rfl<|.fa rfl<|.cJ rfl rfl<|.zn<|.block ?_
 refine .loop (X:=ew×List UInt8×Value×ax) (λy=>(blocks y.1 y.2.1=blocks p (r++l)/\lm y.2.1=lm (r++l))/\OS 5 1 cO y.2.2.1 y.2.1 y.2.2.2/\y.2.1.length<=200000) (λy=>[(0,pT b)]) (λy=>[bl b (iI y.1 true y.2.2.1 (n+l.length)) 317,y.2.2.2]) (λy=>y.2.1.length) (p,r++l,M,I) ⟨⟨rfl,rfl⟩,H,by simp only[adf];omega⟩ kE.c rH ?_
 rintro⟨e,a,i,A⟩ ⟨⟨t,w⟩,g,L⟩
 simp only at t w g L⊢
 have W:=g.aw
 refine .seq<|.sr<|.mo rfl<|.nc rfl<|.fa rfl<|.lo rfl<|.q (.ec g) ?_
 refine .q .geq<|.zn ?_
 refine .cond rfl (λB=>?_) λB=>?_
 have f:64<=a.length:=by have:=bx B;omega
 refine .kn<|.block<|.seq<|.cW [12] mixed ?_
 refine .tO 0 rfl .move<|.tO 1 rfl .move<|.tO 2 rfl (.nilCheck rfl)<|.tO 3 rfl (.fieldAddr rfl) ?_
 refine .tO 4 rfl (.loadT rfl) ?_
 refine .tO 5 rfl .move<|.tO 6 rfl (.nilCheck rfl)<|.tO 7 rfl (.fieldAddr rfl)<|.tO 8 rfl (.bN rfl) ?_
 refine .sT 9 rfl ?_
 refine .aM (Lf e i a _ g.rx f K.rx) (λu D=>?_)
 subst D
 refine .nil (Next.sub ?_)
 refine .tO 10 rfl (.nilCheck rfl)<|.tO 11 rfl (.fieldAddr rfl) ?_
 refine .sT 12 rfl ?_
 refine .ct rfl rfl ?_ rfl (ac8 rfl)
 rw[show cc (iI e true i (n+l.length)) (0+0) (wv (comp e a).dp)=iI (comp e a) true i (n+l.length)from rfl]
 refine .nil (Next.mod rfl ?_)
 refine RA.nil (by kernel_rfl) ?_
 refine aD<|.region<|.mo rfl<|.mo rfl<|.nc rfl<|.fa rfl<|.lo rfl ?_
 refine .oc 64 a.length g ⟨_,rfl⟩ rfl (by omega) (ac7 _) (λE C=>?_)
 rw[List.take_of_length_le (by rw[adh];exact ac7 _)]at C
 have V:=C.aw
 refine .nc rfl<|.fa rfl<|.cJ rfl rfl ?_
 rw[show cc (iI (comp e a) true i (n+l.length)) (0+9) [E]=iI (comp e a) true E (n+l.length)from rfl]
 refine .nil<|bz ?_
 ·exact bf (comp e a,a.drop 64,E,A) ⟨⟨by rw[<-t,qb f],by rw[<-w,r7 f]⟩,C,by simp only[adh];omega⟩ (by simp only[adh];omega) kE.c rH
 have f:¬64<=a.length:=by have:=bo B;omega
 rw[rq f]at t
 rw[r8 f]at w
 refine .exit<|bD<|bH<|bF ?_
 refine eh _ .none (aT.bu (H':=[(b,.cells (iI e true i (n+l.length)).toArray 317 (0,0))::A]) (by simp)) ?_
 ·exact⟨_,rfl,rfl,i,A,by rw[t],by rw[<-w];exact g⟩
def uv(l:List UInt8):List Value:=l.map λb=>Value.int .u8 (b.toNat:Int)
theorem mz{l:List UInt8}:(uv l).length=l.length:=List.length_map ..
theorem OG{l:List UInt8}:∀u∈uv l,aw u=true:=λu a=>by
 obtain⟨x,_,rfl⟩:=List.mem_map.1 a
 rfl
instance Pu{l:List UInt8}:bJ (uv l):=⟨OG⟩
theorem pH{l:List UInt8}{k:Nat}{x:UInt8}(h:k<l.length):cc (uv l) k [.int .u8 (x.toNat:Int)]=uv (l.set k x):=by
 rw[x5 (by rw[mz];exact h)]
 unfold uv
 rw[List.map_set]
theorem OF{l:List UInt8}{i:Nat}{x:UInt8}(h:l[i]? =some x):(uv l)[i]? =some (.int .u8 (x.toNat:Int)):=by
 unfold uv
 rw[List.getElem?_map,h];rfl
def od(s:ew)(i:Nat):List UInt8:=(jY s).take (4*i)++List.replicate (32-4*i) 0
theorem NS{s:ew}{i:Nat}(h:i<=8):(od s i).length=32:=by
 have:(jY s).length=32:=rfl
 simp[od,this];omega
theorem NT{s:ew}{i:Nat}{x:de}(h:i<8)(a:s.dp[i]? =some x):((((od s i).set (4*i) (byteOf x 24)).set (4*i+1) (byteOf x 16)).set (4*i+2) (byteOf x 8)).set (4*i+3) (byteOf x 0)=od s (i+1):=by
 match i,h,a with
 |0,_,a=>cases a;rfl
 |1,_,a=>cases a;rfl
 |2,_,a=>cases a;rfl
 |3,_,a=>cases a;rfl
 |4,_,a=>cases a;rfl
 |5,_,a=>cases a;rfl
 |6,_,a=>cases a;rfl
 |7,_,a=>cases a;rfl
theorem zv{x:de}:UInt8.ofBitVec (x.setWidth 8)=byteOf x 0:=by unfold byteOf;rw[BitVec.ushiftRight_zero]
theorem xk(n:Nat):(iD n).length<=100:=by simp[iD];omega
theorem NU(b:Nat)(s:ew)(d:Bool)(r:List UInt8)(n:Nat)(T:ax)(R:av)(F:p2 b s d r n T)(y:∀p∈T,R p.1 p.2)(M:r.length<=1000)(K:n<=100000)(H:PC R (pT 1) (wv ks)):
  Spec prog 289 [pT b] R [] λu H'=>u=.agg (uv (jY (blocks (if d then s else H0) (r++iD n)))).toArray/\H'=[]:=by
 obtain⟨m,W,rfl,t⟩:=F
 have ir:=t.aw
 have ph:PC R (pT b) (iI s d m n):=PC.of (E:=317) (fr:=(0,0)) (y (b,.cells (iI s d m n).toArray 317 (0,0)) (by simp))
 have L:RS R 1 cO m r:=t.rs λp l=>y p (by simp[l])
 refine Spec.dg (H':=[[]]) (by simp) ?_
 refine Spec.body func289 rfl results289 ntmps289 rfl ?_
 refine .sr ?_
 refine .cN (λh=>?_)
 refine .z ?_
 refine .cN (λj=>?_)
 refine .zs<|.sr<|.mo rfl<|.q (.uV rfl rfl) ?_
 refine .zn<|.bZ<|.kn<|.seq<|.cW [12] mixed ?_
 refine .tK 0 rfl .move ?_
 refine .tK 1 rfl (.mN rfl) ?_
 refine .tK 2 rfl (.gy rfl) ?_
 refine .tK 3 rfl (.loadT rfl) ?_
 refine .tK 4 rfl .move ?_
 refine .tK 5 rfl (.mN rfl) ?_
 refine .tK 6 rfl (.gy rfl) ?_
 refine .tK 7 rfl (.bN rfl)<|.tO 8 rfl .move<|.tO 9 rfl (.nilCheck rfl)<|.tO 10 rfl (.fieldAddr rfl)<|.tO 11 rfl (.bN rfl)<|.tK 13 rfl .move ?_
 refine .tK 14 rfl (.mN rfl) ?_
 refine .tK 15 rfl (.gy rfl) ?_
 refine .tK 16 rfl (.bN rfl) ?_
 refine .sT 12 rfl ?_
 refine .append (OS.nil (enc:=cO) (sz:=1)) L.rx (by simp;omega) (λv5 o f=>?_)
 have Z:=f.aw
 rw[adm]at f
 obtain⟨Q,O,rfl,_⟩:=f.shape
 refine .nil (Next.mod rfl ?_)
 refine .tK 17 rfl .dI ?_
 refine .sT 18 rfl ?_
 refine .dv rfl (λe=>?_)
 refine .nil (Next.mod rfl ?_)
 refine .tK 19 rfl .assign ?_
 refine RA.nil (by kernel_rfl) ?_
 refine aD<|.sr ?_
 refine .sub (H':=[(e,.cells (iI s d (.slice Q r.length O) n).toArray 317 (0,0))::o,bl j (uv (List.replicate 32 0)) 284,bl h (uv (List.replicate 32 0)) 284]) ((aI [0,2,0,0]).trans (aT.bu (by simp[take,aZ];exact .refl _))) ?_
 refine .mo rfl<|.mo rfl<|.nc rfl<|.fa rfl<|.lo rfl ?_
 refine .da (LS n (by omega) _) (λS U v=>?_)
 have i6:=v.aw
 refine .jO (yL e s d r n _ S (iD n) _ ⟨_,o,rfl,f⟩ (v.rs λp l=>.inr (by simp[l])) M (by have:=xk n;omega) K H.rx) (λu V N=>?_)
 obtain⟨rfl,G⟩:=N
 obtain⟨C,D,rfl,w⟩:=G
 have i7:=w.aw
 generalize Y:blocks (if d then s else H0) (r++iD n)=st at w⊢
 have ps:PS ((e,.cells (iI st true C (n+(iD n).length)).toArray 317 (0,0))::D) (pT e) (iI st true C (n+(iD n).length)):=PS.of (E:=317) (fr:=(0,0)) (by simp)
 refine .zs<|.sr<|.mo rfl<|.nc rfl<|.fa rfl<|.q (.loadT rfl) ?_
 refine .mo rfl<|.zn<|.block ?_
 refine .loop (X:=Nat) (λi=>i<=8) (λi=>[(2,pT h),(3,pT j),(39,.agg (wv st.dp).toArray),(40,iN i)]) (λi=>[bl j (uv (od st i)) 284,bl h (uv (List.replicate 32 0)) 284]) (λi=>8-i) 0 (ac5 _) kE.c.c.c.c (aI [2,2]) ?_
 rintro i I
 have a:=NS (s:=st) I
 refine .sr<|.q .lss<|.zs ?_
 refine .cond rfl (λk=>?_) λk=>?_
 have g:i<8:=dQ k
 obtain⟨x,B⟩:∃x,st.dp[i]? =some x:=⟨_,bC (by rw[tc];exact g)⟩
 refine .kn<|.seq<|.block<|.sr<|.mo rfl<|.q (.vM i (lW B) g rfl rfl rfl) ?_
 refine .ag rfl<|.az rfl<|.region<|.mo rfl ?_
 refine .ia (4*i) .mul ?_
 refine .mo rfl ?_
 refine .ia (4*i) .mul ?_
 refine .ia (4*i+1) .add ?_
 refine .mo rfl ?_
 refine .ia (4*i) .mul ?_
 refine .ia (4*i+2) .add ?_
 refine .mo rfl ?_
 refine .ia (4*i) .mul ?_
 refine .ia (4*i+3) .add ?_
 refine .mo rfl ?_
 refine .q (.mQ (n:=24) rfl rfl (by decide)) ?_
 refine .q (.narrow rfl) ?_
 refine .mo rfl ?_
 refine .q (.mQ (n:=16) rfl rfl (by decide)) ?_
 refine .q (.narrow rfl) ?_
 refine .mo rfl ?_
 refine .q (.mQ (n:=8) rfl rfl (by decide)) ?_
 refine .q (.narrow rfl) ?_
 refine .mo rfl<|.q (.narrow rfl) ?_
 refine .q (.fF (4*i) (by omega) rfl rfl rfl) ?_
 refine .cJ rfl rfl ?_ (by rw[mz,a];omega)
 rw[ade,pH (by rw[a];omega)]
 refine .q (.fF (4*i+1) (by omega) rfl rfl rfl) ?_
 refine .cJ rfl rfl ?_ (by rw[mz,ac6,a];omega)
 rw[ade,pH (by rw[ac6,a];omega)]
 refine .q (.fF (4*i+2) (by omega) rfl rfl rfl) ?_
 refine .cJ rfl rfl ?_ (by rw[mz,ac6,ac6,a];omega)
 rw[ade,pH (by rw[ac6,ac6,a];omega)]
 refine .q (.fF (4*i+3) (by omega) rfl rfl rfl) ?_
 refine .cJ rfl rfl ?_ (by rw[mz,ac6,ac6,ac6,a];omega)
 rw[ade,pH (by rw[ac6,ac6,ac6,a];omega),zv]
 have A:=NT g B
 unfold byteOf at A
 unfold byteOf
 rw[A]
 refine .nil<|bz<|aD<|.region ?_
 refine .ia (i+1) .add ?_
 refine .mo rfl<|.nil ?_
 ·exact bf (i+1) g (by omega) kE.c.c.c.c rH
 have J:i=8:=by have:=bo k;omega
 subst J
 rw[show od st 8=jY st from rfl]
 refine .exit<|bD<|bH<|bF<|aD<|.sr<|.q (.bK rfl rfl) ?_
 refine .ct rfl rfl ?_ rfl (ac8 rfl)
 rw[kT (by rfl)]
 refine .zn ?_
 refine .ret (aR _ (.one (.ey rfl rfl)) (.none _) ?_)
 ·exact⟨rfl,rfl⟩
theorem Ny(v:Value)(l:List UInt8)(R:av)(h:RS R 1 cO v l)(e:l.length<=100000)(d:PC R (pT 1) (wv ks)):
  Spec prog 264 [v] R [] λu H'=>u=.agg (uv (mw l)).toArray/\H'=[]:=by
 have o:=h.aw
 have n:(mw l).length=32:=rfl
 refine Spec.body func264 rfl results264 ntmps264 rfl ?_
 refine .sr ?_
 refine .cN (λk=>?_)
 refine .z ?_
 refine .da (KM _) (λu f a=>?_)
 obtain⟨b,rfl,i⟩:=a
 refine .ag rfl<|.z<|.mo rfl<|.mo rfl ?_
 refine .bW (yL b Z0 false [] 0 f v l _ i h (by simp) e (by omega) d) (λu g a=>?_)
 obtain⟨rfl,c⟩:=a
 have m:=K2 _ l rfl
 simp only[Bool.false_eq_true,if_false,adm,ade]at c
 refine .z<|.mo rfl ?_
 refine .aM (NU b _ true _ _ g _ c (λp j=>.inr (by simp[j])) (by omega) e d.rx) (λu a=>?_)
 subst a
 rw[if_pos rfl, <-zt _ l _ rfl,show jY (blocks H0 (l++iD l.length))=mw l from rfl]
 refine .ct rfl rfl ?_ rfl (ac8 rfl)
 rw[kT (by rfl)]
 refine .zn ?_
 refine .ret (aR _ (.one (.ey rfl rfl)) (.none _) ?_)
 ·exact⟨rfl,rfl⟩
def kX(i:Nat):Nat:=72057594037927936/256^i
theorem N8{i:Nat}(h:i<8):kX i=2^(56-8*i):=by
 match i,h with
 |0,_=>rfl
 |1,_=>rfl
 |2,_=>rfl
 |3,_=>rfl
 |4,_=>rfl
 |5,_=>rfl
 |6,_=>rfl
 |7,_=>rfl
theorem Oa(i:Nat):kX i/256=kX (i+1):=by
 unfold kX
 rw[Nat.div_div_eq_div_mul,Nat.pow_succ]
theorem N9(i:Nat):kX i<=72057594037927936:=Nat.div_le_self _ _
theorem MQ(v:Value)(l:List UInt8)(R:av)(h:RS R 1 cO v l)(Z:l.length<=100000):
  Spec prog 266 [v] R [] λu H'=>∃T,H'=[T]/\OS 5 1 cO u (l++iD l.length) T:=by
 obtain⟨M,L,rfl⟩:=h.val
 obtain⟨z,H⟩:∃z,z=(119-l.length % 64) % 64:=⟨_,rfl⟩
 refine Spec.dg (H':=[[]]) (by simp) ?_
 refine Spec.body func266 rfl results266 ntmps266 rfl ?_
 refine .sr<|.ag rfl<|.z<|.ag rfl<|.z<|.mo rfl<|.mo rfl ?_
 refine .append (OS.nil (enc:=cO) (sz:=1)) h.rx (by simp;omega) (λv1 S d=>?_)
 rw[adm]at d
 have I:=d.aw
 refine .ag rfl<|.z<|.mo rfl ?_
 refine .ig (λU=>?_)
 refine .append d (RS.lits (xs:=[(128:UInt8)]) rfl (by simp[cO]) (by simp[cO,aw])) (by simp;omega) (λN s m=>?_)
 have J:=m.aw
 refine .ag rfl<|.zs<|.block ?_
 refine .loop (X:=Nat×Value×ax) (λy=>y.1<=z/\OS 5 1 cO y.2.1 (l++128::List.replicate y.1 0) y.2.2) (λy=>[(0,.slice M l.length L),(3,y.2.1)]) (λy=>[y.2.2]) (λy=>z-y.1) (0,N,s) ⟨ac5 _,m⟩ kE.c.c (aI [1]) ?_
 clear d m I J
 rintro⟨k,r,t⟩ ⟨E,b⟩
 simp only at E b⊢
 have K:=b.aw
 have G:(l++128::List.replicate k (0:UInt8)).length=l.length+1+k:=by simp;omega
 refine .seq<|.sr<|.mo rfl<|.q (.ec b) ?_
 refine .q (.lP 64 rfl rfl (by decide)) ?_
 rw[G]
 refine .q .dL<|.zn ?_
 refine .cond rfl (λg=>?_) λg=>?_
 have a0:(l.length+1+k) % 64≠56:=by simp at g;omega
 refine .kn<|.block<|.region<|.mo rfl ?_
 refine .ig (λV=>?_)
 refine .append b (RS.lits (xs:=[(0:UInt8)]) rfl (by simp[cO]) (by simp[cO,aw])) (by simp;omega) (λO w B=>?_)
 refine .ag rfl<|.nil<|bz ?_
 ·refine bf (k+1,O,w) ⟨by simp only;omega,?_⟩ (by simp only;omega) kE.c.c (aI [1])
  simp only
  rw[List.replicate_succ', <-List.cons_append, <-adb]
  exact B
 have Y:(l.length+1+k) % 64=56:=by simp at g;omega
 have F:k=z:=by omega
 subst F
 refine .exit<|bD<|bH<|bF<|aD<|.sr<|.mo rfl<|.q (.nM rfl) ?_
 refine .q (.qX rfl (by unfold eI;omega)) ?_
 refine .q (.u64 ((l.length*8:Nat):Int) .mul ⟨by omega,by omega,by omega⟩) ?_
 refine .ag rfl<|.z<|.ag rfl<|.zs<|.sr<|.az rfl<|.block ?_
 refine .loop (X:=Nat×Value×ax) (λy=>y.1<=8/\OS 5 1 cO y.2.1 ((l++128::List.replicate k 0)++(mj l.length).take y.1) y.2.2) (λy=>[(3,y.2.1),(4,.int .u64 (l.length*8:Nat)),(5,.int .u64 (kX y.1:Nat)),(6,iN y.1)]) (λy=>[y.2.2]) (λy=>8-y.1) (0,r,t) ⟨ac5 _,by rw[List.take_zero,List.append_nil];exact b⟩ (by show bh _ [(3,r),(4,.int .u64 (l.length*8:Nat)),(5,.int .u64 (kX 0:Nat)),(6,iN 0)];rw[show kX 0=72057594037927936 from by decide];exact kE.c.c.c.c) rH ?_
 clear b K
 rintro⟨i,v5,x⟩ ⟨C,f⟩
 simp only at C f⊢
 have i5:=f.aw
 refine .seq<|.sr<|.mo rfl<|.q .lss<|.zn ?_
 refine .cond rfl (λj=>?_) λj=>?_
 have n:i<8:=dQ j
 have p:=N8 n
 have a1:0<kX i:=by rw[p];exact Nat.pow_pos (by decide)
 refine .kn<|.seq<|.block<|.sr<|.mo rfl<|.mo rfl<|.mo rfl ?_
 refine .q (.xA (kX i) rfl rfl (by omega) (by unfold eI;omega)) ?_
 refine .q (.s7 rfl) ?_
 rw[show UInt8.ofNat (l.length*8/kX i)=gN l.length i by rw[p];rfl]
 refine .ig (λW=>?_)
 refine .append f (RS.lits (xs:=[gN l.length i]) rfl (by simp[cO]) (by simp[cO,aw])) (by simp;omega) (λQ A o=>?_)
 rw[adb,show(mj l.length).take i++[gN l.length i]=(mj l.length).take (i+1) by rw[adg,vV n];rfl]at o
 refine .az rfl<|.region<|.mo rfl ?_
 refine .q (.xA (a:=kX i) 256 rfl rfl (by decide) (by have:=N9 i;unfold eI;omega)) ?_
 rw[Oa]
 refine .ag rfl<|.nil<|bz<|aD<|.region<|.mo rfl ?_
 refine .ia (i+1) .add ?_
 refine .ag rfl<|.nil ?_
 ·exact bf (i+1,Q,A) ⟨n,o⟩ (by simp only;omega) kE.c.c.c.c (aI [1])
 have D:i=8:=by have:=bo j;omega
 subst D
 refine .exit<|bD<|bH<|bF<|aD<|.sr<|.mo rfl<|.az rfl ?_
 refine .ret (aR _ (.one (.tmp rfl)) (.one [0] _) ?_)
 ·refine⟨x,by simp[take],?_⟩
  have e:l++iD l.length=(l++128::List.replicate k 0)++(mj l.length).take 8:=by unfold iD;rw[<-H,adb];rfl
  rw[e]
  exact f
def nh(s:ew)(k:Nat):List UInt8:=(jY s).take k++List.replicate (32-k) 0
theorem LD{s:ew}{k:Nat}(h:k<=32):(nh s k).length=32:=by
 have:(jY s).length=32:=rfl
 simp[nh,this];omega
theorem NL(s:ew){k:Nat}(h:k<32):∃x,s.dp[k/4]? =some x/\(jY s)[k]? =some (byteOf x (24-8*(k % 4))):=by
 have e:∀(a b c d e f g h:de) (k:Nat),k<32->∃x,([a,b,c,d,e,f,g,h]:List de)[k/4]? =some x/\(([a,b,c,d,e,f,g,h]:List de).flatMap ud)[k]? =some (byteOf x (24-8*(k % 4))):=by
  intro a b c d e f g h k i
  match k,i with
  |0,_=>exact⟨_,rfl,rfl⟩
  |1,_=>exact⟨_,rfl,rfl⟩
  |2,_=>exact⟨_,rfl,rfl⟩
  |3,_=>exact⟨_,rfl,rfl⟩
  |4,_=>exact⟨_,rfl,rfl⟩
  |5,_=>exact⟨_,rfl,rfl⟩
  |6,_=>exact⟨_,rfl,rfl⟩
  |7,_=>exact⟨_,rfl,rfl⟩
  |8,_=>exact⟨_,rfl,rfl⟩
  |9,_=>exact⟨_,rfl,rfl⟩
  |10,_=>exact⟨_,rfl,rfl⟩
  |11,_=>exact⟨_,rfl,rfl⟩
  |12,_=>exact⟨_,rfl,rfl⟩
  |13,_=>exact⟨_,rfl,rfl⟩
  |14,_=>exact⟨_,rfl,rfl⟩
  |15,_=>exact⟨_,rfl,rfl⟩
  |16,_=>exact⟨_,rfl,rfl⟩
  |17,_=>exact⟨_,rfl,rfl⟩
  |18,_=>exact⟨_,rfl,rfl⟩
  |19,_=>exact⟨_,rfl,rfl⟩
  |20,_=>exact⟨_,rfl,rfl⟩
  |21,_=>exact⟨_,rfl,rfl⟩
  |22,_=>exact⟨_,rfl,rfl⟩
  |23,_=>exact⟨_,rfl,rfl⟩
  |24,_=>exact⟨_,rfl,rfl⟩
  |25,_=>exact⟨_,rfl,rfl⟩
  |26,_=>exact⟨_,rfl,rfl⟩
  |27,_=>exact⟨_,rfl,rfl⟩
  |28,_=>exact⟨_,rfl,rfl⟩
  |29,_=>exact⟨_,rfl,rfl⟩
  |30,_=>exact⟨_,rfl,rfl⟩
  |31,_=>exact⟨_,rfl,rfl⟩
  |k+32,i=>omega
 exact e s.a s.b s.c s.d s.e s.f s.g s.h k h
theorem LF{s:ew}{k:Nat}{y:UInt8}(h:k<32)(c:(jY s)[k]? =some y):(nh s k).set k y=nh s (k+1):=by
 have b:(jY s).length=32:=rfl
 unfold nh
 have a:((jY s).take k).length=k:=by rw[adn,b];omega
 rw[adk _ _ (by rw[a];exact ac7 _),a,adj,show 32-k=(32-(k+1))+1 by omega,ado,adl,adg,c]
 simp
theorem LR(l:List UInt8):(l++iD l.length).length % 64=0:=by simp[iD];omega
theorem MR(v:Value)(l:List UInt8)(R:av)(h:RS R 1 cO v l)(U:l.length<=100000):
  Spec prog 214 [v] R [] λu H'=>u=.agg (uv (mw l)).toArray/\H'=[]:=by
 have iv:=h.aw
 have W:=LR l
 have M:(l++iD l.length).length<=200000:=by have:=xk l.length;rw[adf];omega
 have F:mw l=jY (blocks H0 (l++iD l.length)):=rfl
 refine Spec.body func214 rfl results214 ntmps214 rfl ?_
 refine .sr ?_
 refine .cN (λd=>?_)
 refine .z ?_
 refine .qd (wv H0.dp) (λB=>?_) (ho:=q6)
 have t:OS 217 1 kr (.slice (some ⟨B,0,none⟩) 8 8) H0.dp (bl B (wv H0.dp) 217):=OS.lits (vB _) (λ_ _=>rfl) (λx _ u G=>by simp only[kr,List.mem_singleton]at G;subst G;rfl)
 have i0:=t.aw
 refine .ag rfl<|.z<|.mo rfl ?_
 refine .da (MQ v l _ h.rx U) (λu w e=>?_)
 have ia:=e.aw
 generalize a1:l++iD l.length=all at W M F e
 have L:=e.sg
 obtain⟨pa,ka,rfl,_⟩:=e.shape
 refine .ag rfl<|.zs<|.sr<|.az rfl<|.block ?_
 refine .loop (X:=Nat×ew×Value×ax) (λy=>64*y.1<=all.length/\blocks y.2.1 (all.drop (64*y.1))=blocks H0 all/\OS 217 1 kr y.2.2.1 y.2.1.dp y.2.2.2) (λy=>[(2,pT d),(3,y.2.2.1),(4,.slice pa all.length ka),(5,.int .i64 (64*y.1:Nat))]) (λy=>[y.2.2.2,w,bl d (uv (List.replicate 32 0)) 245]) (λy=>all.length-64*y.1) (0,H0,_,_) ⟨ac5 _,rfl,t⟩ kE.c.c.c.c (aI [1,0,0]) ?_
 clear t i0
 rintro⟨j,H,I,K⟩ ⟨Q,f,g⟩
 simp only at Q f g⊢
 have io:=g.aw
 refine .seq<|.sr<|.mo rfl<|.mo rfl<|.q (.nM rfl) ?_
 refine .q .lss<|.zn ?_
 refine .cond rfl (λn=>?_) λn=>?_
 have i:64*j<all.length:=by have:=bx n;omega
 have C:64<=(all.drop (64*j)).length:=by rw[adh];omega
 refine .kn<|.seq<|.block<|.region<|.mo rfl<|.mo rfl<|.mo rfl<|.mo rfl ?_
 refine .ia (64*j+64) .add ?_
 refine .jW (64*j) (64*j+64) L ⟨_,rfl⟩ ⟨_,rfl⟩ (by omega) (by rw[adh]at C;omega) (λa0 m=>?_)
 have a2:=m.aw
 refine .da (MN H I a0 _ _ (g.rs λp m=>.inr (by simp[m])) (m.mono λb o N=>.inr (by have O:(b,o)∈w:=N;simp[O])) (by rw[adn];omega)) (λu J D=>?_)
 rw[show 64*j+64-64*j=64 by omega,rB]at D
 refine .ag rfl<|.nil<|bz<|aD<|.region<|.mo rfl ?_
 refine .ia (64*j+64) .add ?_
 refine .ag rfl<|.nil ?_
 ·exact bf (j+1,comp H (all.drop (64*j)),u,J) ⟨by simp only;omega,by simp only;rw[<-f,qb C,List.drop_drop,show 64*j+64=64*(j+1) by omega],D⟩ (by simp only;omega) (by rw[show 64*(j+1)=64*j+64 by omega];exact kE.c.c.c.c) (aI [0,1,1])
 have V:all.length<=64*j:=by have:=bo n;omega
 rw[List.drop_of_length_le V,rq (by simp)]at f
 subst f
 refine .exit<|bD<|bH<|bF<|aD<|.sr ?_
 refine .cN (λA=>?_)
 refine .zs<|.sr<|.az rfl<|.block ?_
 refine .loop (X:=Nat) (λk=>k<=32) (λk=>[(2,pT d),(3,I),(6,pT A),(7,iN k)]) (λk=>[bl A (uv (nh (blocks H0 all) k)) 245,K,bl d (uv (List.replicate 32 0)) 245]) (λk=>32-k) 0 (ac5 _) kE.c.c.c.c (aI [0,0,1]) ?_
 rintro k S
 have E:=LD (s:=blocks H0 all) S
 refine .seq<|.sr<|.mo rfl<|.q .lss<|.zn ?_
 refine .cond rfl (λr=>?_) λr=>?_
 have i:k<32:=dQ r
 obtain⟨x,Y,Z⟩:=NL (blocks H0 all) i
 refine .kn<|.seq<|.block<|.region<|.mo rfl<|.mo rfl<|.mo rfl ?_
 refine .q (.mr (a:=k) 4 rfl rfl (by decide) (by omega)) ?_
 refine .bb (k/4) g Y (λa3=>?_)
 refine .lo rfl<|.mo rfl ?_
 refine .q (.lP (a:=k) 4 rfl rfl (by decide)) ?_
 refine .ia (8*(k % 4)) .mul ?_
 refine .ia (24-8*(k % 4)) .sub ?_
 refine .q (.qX rfl (by unfold eI;omega)) ?_
 refine .q (.mQ rfl rfl (by omega)) ?_
 refine .q (.narrow rfl) ?_
 refine .q (.fF k (by omega) rfl rfl rfl) ?_
 refine .cJ rfl rfl ?_ (by rw[mz,E];omega)
 rw[ade,pH (by rw[E];omega),show UInt8.ofBitVec (BitVec.setWidth 8 (x>>>(24-8*(k % 4))))=byteOf x (24-8*(k % 4))from rfl,LF i Z]
 refine .nil<|bz<|aD<|.region<|.mo rfl ?_
 refine .ia (k+1) .add ?_
 refine .ag rfl<|.nil ?_
 ·exact bf (k+1) i (by omega) kE.c.c.c.c rH
 have T:k=32:=by have:=bo r;omega
 subst T
 rw[show nh (blocks H0 all) 32=jY (blocks H0 all)from rfl, <-F]
 refine .exit<|bD<|bH<|bF<|aD<|.sr<|.q (.bK rfl rfl) ?_
 refine .ct rfl rfl ?_ rfl (ac8 rfl)
 rw[kT (by rfl)]
 refine .zn ?_
 refine .ret (aR _ (.one (.ey rfl rfl)) (.none _) ?_)
 ·exact⟨rfl,rfl⟩
end Go.Proofs.YtkkmbiojicgobaaGreatDoor
