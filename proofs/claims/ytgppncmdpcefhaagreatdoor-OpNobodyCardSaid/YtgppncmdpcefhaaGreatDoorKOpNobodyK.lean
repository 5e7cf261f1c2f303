/- What the law 'OpNobody' uses. No condition. -/
import Derived.Laws.BytesArg
import Derived.Laws.IdiomStrings
import Derived.Test.YtgppncmdpcefhaaGreatDoorKOpNobodyB
import Derived.Test.YtgppncmdpcefhaaGreatDoorKOpNobodyE
import Derived.Test.YtgppncmdpcefhaaGreatDoorKOpNobodyI
namespace Go.Proofs.YtgppncmdpcefhaaGreatDoor
set_option linter.defProp false
def acQ:=@Nat.lt_of_le_of_lt
def acR:=@Nat.mod_lt
def acS:=@Nat.zero_le
def acT:=@Nat.mul_le_mul
def acU:=@Option.isSome_iff_exists
def acV:=@Nat.pow_le_pow_right
def acW:=@Option.getD_some
open Tryz
set_option linter.unusedVariables false
set_option linter.unusedSimpArgs false
set_option maxRecDepth 4000
theorem FC(n:Nat):IntKind.u8.wrap ((BitVec.ofInt IntKind.u8.bits ((UInt8.ofNat n).toNat:Int)|||BitVec.ofInt IntKind.u8.bits 128).toNat:Int)=((UInt8.ofNat (128+n % 128)).toNat:Int):=by
 have c:∀m:Fin 256,IntKind.u8.wrap ((BitVec.ofInt IntKind.u8.bits (m.val:Int)|||BitVec.ofInt IntKind.u8.bits 128).toNat:Int)=((128+m.val % 128:Nat):Int):=by decide+kernel
 have a:(UInt8.ofNat n).toNat=n % 256:=UInt8.toNat_ofNat'
 have b:(UInt8.ofNat (128+n % 128)).toNat=128+n % 128:=m5 (by omega)
 rw[a,b,c ⟨n % 256,by omega⟩]
 simp only
 omega
theorem HE(x:Nat)(i:x<di)(R:aA):Spec prog 96 [.int .u64 (x:Nat)] R [] λv H'=>∃T,H'=[T]/\OS 5 1 dt v (put x) T:=by
 have t:=nj i
 refine Spec.ep (H':=[[]]) (by simp) ?_
 refine Spec.body func96 rfl results96 ntmps96 rfl ?_
 refine .sr<|.ag rfl<|.z<|.ag rfl<|.zs<|.block ?_
 refine .loop (X:=Nat×List UInt8×Value×ay) (λy=>y.1<di/\y.2.1++put y.1=put x/\OS 5 1 dt y.2.2.1 y.2.1 y.2.2.2) (λy=>[(0,.int .u64 (y.1:Nat)),(3,y.2.2.1)]) (λy=>[y.2.2.2]) (λy=>y.1) (x,[],sZ,[]) ⟨i,rfl,OS.nil⟩ kE.c.c rH ?_
 rintro⟨y,o,w,p⟩ ⟨l,d,e⟩
 simp only at l d e⊢
 have u:=e.aL
 have k:=congrArg List.length d
 rw[List.length_append]at k
 refine .seq<|.sr<|.mo rfl<|.q .geq<|.zn ?_
 refine .cond rfl (λg=>?_) λg=>?_
 have h:¬y<128:=by have:=bo g;omega
 rw[me h]at d
 refine .kn<|.block<|.sr<|.mo rfl<|.mo rfl<|.q (.sK (a:=y) rfl) ?_
 refine .q (bd.cast (v':=.int .u8 ((UInt8.ofNat (128+y % 128)).toNat:Int)) (.eo rfl rfl) (congrArg (Value.int .u8) (FC y))) ?_
 refine .kc (λr=>?_)
 refine .append e (RS.lits (xs:=[UInt8.ofNat (128+y % 128)]) rfl (by simp[dt]) (by simp[dt,aL])) (by simp;omega) (λj f b=>?_)
 have m:=b.aL
 refine .az rfl<|.region<|.mo rfl ?_
 refine .q (.Gy (a:=y) (n:=7) rfl rfl (by decide)) ?_
 refine .ag rfl<|.nil<|bi ?_
 ·exact aN (y/128,o++[UInt8.ofNat (128+y % 128)],j,f) ⟨by simp only;omega,by simp only;rw[<-d];simp,b⟩ (by simp only;omega) kE.c.c (cu [1])
 have h:y<128:=by have:=aY g;omega
 rw[lk h]at d
 refine .exit<|aP<|aV<|aR<|aD<|.sr<|.mo rfl<|.mo rfl<|.q (.sK (a:=y) rfl) ?_
 refine .kc (λs=>?_)
 refine .append e (RS.lits (xs:=[UInt8.ofNat y]) rfl (by simp[dt]) (by simp[dt,aL])) (by simp;omega) (λj f b=>?_)
 have m:=b.aL
 rw[d]at b
 refine .az rfl ?_
 refine .ret (aZ _ (.one (.tmp rfl)) (.one [1] _) ?_)
 ·exact⟨f,by simp[take],b⟩
theorem ph(v:Value)(xs:List UInt8)(R:aA)(h:RS R 1 dt v xs)(n:xs.length<=1000000000000):Spec prog 97 [v] R [] λu H'=>∃T,H'=[T]/\OS 5 1 dt u xs T:=by
 obtain⟨p,j,rfl,l,m,h4⟩:=id h.h
 refine Spec.ep (H':=[[]]) (by simp) ?_
 cases p with
 |none=>
  have f:xs=[]:=by
   rcases h4 with h4|⟨b,r,c,E,k,g,_⟩
   ·exact h4
   ·cases g
  subst f
  refine Spec.body func97 rfl results97 ntmps97 rfl ?_
  refine .sr<|.ag rfl<|.zs<|.sr<|.mo rfl<|.q (.nV rfl rfl) ?_
  refine .zn<|.dG<|.sr<|.az rfl ?_
  refine .ret (aT (aZ _ (.one (.tmp rfl)) (.one [0] _) ?_))
  ·exact⟨_,rfl,OS.nil⟩
 |some a=>
  refine Spec.body func97 rfl results97 ntmps97 rfl ?_
  refine .sr<|.ag rfl<|.zs<|.sr<|.mo rfl<|.q (.nV rfl rfl) ?_
  refine .zn<|.bB<|.kn<|.sr ?_
  refine .po (λi=>?_)
  refine .mo rfl ?_
  refine .append (OS.lits (xs:=([]:List UInt8)) (enc:=dt) (sz:=1) (cs:=[]) rfl (by simp) (by simp)) h.rx (by simp;omega) (λs e d=>?_)
  have o:=d.aL
  refine .az rfl ?_
  refine .ret (aZ _ (.one (.tmp rfl)) (.one [0] _) ?_)
  ·exact⟨e,by simp[take],d⟩
def fS(b:Nat)(xs:List UInt8)(T:ay):Prop:=∃vs Tb,T=(b,.cells [vs].toArray 169 (0,0))::Tb/\OS 5 1 dt vs xs Tb
theorem Hx(R:aA):Spec prog 22 [] R [] λv H'=>∃T,H'=[T]/\∃b,v=pT b/\fS b [] T:=by
 refine Spec.body func22 rfl results22 ntmps22 rfl ?_
 refine .sr<|.ag rfl<|.z ?_
 refine .q .dR ?_
 refine .cJ rfl (λa=>?_)
 refine .az rfl ?_
 refine .ret (aZ _ (.one (.tmp rfl)) (.one [0] _) ?_)
 ·exact⟨_,rfl,_,rfl,_,[],rfl,OS.nil⟩
theorem iZ(b:Nat)(xs:List UInt8)(T:ay)(h:fS b xs T)(x:Nat)(f:x<di)(l:xs.length<=1000000000000)(R:aA):Spec prog 23 [pT b,.int .u64 (x:Nat)] R [T] λv H'=>∃T',H'=[T']/\v=pT b/\fS b (xs++put x) T':=by
 obtain⟨j,i,rfl,c⟩:=h
 have p:=c.aL
 have m:=nj f
 refine Spec.ep (H':=[bl b [j] 169,i]) (by simp) ?_
 refine Spec.body func23 rfl results23 ntmps23 rfl ?_
 refine .sr<|.ag rfl<|.zs<|.sr<|.mo rfl<|.q (.jL rfl rfl) ?_
 refine .zn<|.dG<|.bF [7,10] mixed ?_
 refine .tK 0 rfl .move<|.tO 1 rfl .move<|.tO 2 rfl (.nilCheck rfl)<|.tO 3 rfl (.fieldAddr rfl)<|.tO 4 rfl (.bO rfl)<|.tO 5 rfl .move ?_
 refine .sT 6 rfl ?_
 refine .cL (HE x f _) (λu k e=>?_)
 have o:=e.aL
 refine .nil (Next.sub ?_)
 refine .sT 7 rfl ?_
 refine .append c e.rx (by simp;omega) (λg a d=>?_)
 have n:=d.aL
 refine .nil (Next.mod rfl ?_)
 refine .tK 8 rfl (.ox rfl) ?_
 refine .tK 9 rfl (.hY rfl) ?_
 refine .sT 10 rfl ?_
 refine .cO rfl rfl ?_
 refine .nil (Next.mod rfl ?_)
 refine RA.nil (by kernel_rfl) ?_
 refine aD<|.sr<|.mo rfl<|.az rfl ?_
 refine .ret (aZ _ (.one (.tmp rfl)) ((cu [1,1]).trans (bV.du (H':=[(b,.cells [g].toArray 169 (0,0))::a]) (by simp[take,cq,cF]))) ?_)
 ·exact⟨_,rfl,rfl,g,a,rfl,d⟩
theorem Hu(b:Nat)(xs:List UInt8)(T:ay)(h:fS b xs T)(g:xs.length<=1000000000000)(R:aA)(d:∀p∈T,R p.1 p.2):Spec prog 30 [pT b] R [] λv H'=>∃T',H'=[T']/\OS 5 1 dt v xs T':=by
 obtain⟨a,k,rfl,c⟩:=h
 have m:=c.aL
 have n:PC R (pT b) [a]:=PC.of (E:=169) (fr:=(0,0)) (d (b,.cells [a].toArray 169 (0,0)) (by simp))
 have j:RS R 1 dt a xs:=c.rs λp i=>d p (by simp[i])
 refine Spec.body func30 rfl results30 ntmps30 rfl ?_
 refine .sr<|.ag rfl<|.zs<|.sr<|.mo rfl<|.q (.p2 rfl rfl) ?_
 refine .zn<|.bB<|.kn<|.sr<|.mo rfl<|.nc rfl<|.fa rfl<|.lo rfl ?_
 refine .cL (ph a xs _ j.rx g) (λu f e=>?_)
 have l:=e.aL
 refine .az rfl ?_
 refine .ret (aZ _ (.one (.tmp rfl)) (.one [0] _) ?_)
 ·exact⟨f,by simp[take],e⟩
theorem RS.oy{R:aA}:RS R 1 dt (sZ) []:=⟨by simp,by simp,none,0,rfl,Nat.le_refl _,acS _,.inl rfl⟩
def eU(b:Nat)(s:Option (List UInt8))(T:ay):Prop:=∃v e Tb,T=(b,.cells [v,.int .i64 e,.bool true].toArray 171 (0,0))::Tb/\RS (sg Tb) 1 dt v (s.getD [])/\(e=0↔s.isSome=true)
theorem eU.read{b:Nat}{s:Option (List UInt8)}{T:ay}(h:eU b s T):∃v e,PS T (pT b) [v,.int .i64 e,.bool true]/\(e=0↔s.isSome=true):=by
 obtain⟨v,e,c,rfl,_,a⟩:=h
 exact⟨v,e,PS.of (E:=171) (fr:=(0,0)) (by simp),a⟩
theorem F8(v:Value)(xs:List UInt8)(R:aA)(h:RS R 1 dt v xs)(e:xs.length<=1000000000000):Spec prog 31 [v] R [] λu H'=>∃T,H'=[T]/\∃b,u=pT b/\eU b (some xs) T:=by
 have i:=h.aL
 refine Spec.body func31 rfl results31 ntmps31 rfl ?_
 refine .sr<|.ag rfl<|.z<|.mo rfl ?_
 refine .cL (ph v xs _ h.rx e) (λu a c=>?_)
 obtain⟨g,f,rfl,_⟩:=c.shape
 refine .q .dR ?_
 refine .cJ rfl (λd=>?_)
 refine .az rfl ?_
 refine .ret (aZ _ (.one (.tmp rfl)) (bV.du (H':=[(d,.cells [.slice g xs.length f,.int .i64 0,.bool true].toArray 171 (0,0))::a]) (by simp[cF])) ?_)
 ·exact⟨_,rfl,_,rfl,_,0,a,rfl,c.sg,by simp⟩
theorem jC(b:Nat)(v:Value)(e:Int)(R:aA) [pc:PC R (pT b) [v,.int .i64 e,.bool true]]:Spec prog 98 [pT b] R [] λu H'=>u=.int .i64 e/\H'=[]:=by
 refine Spec.body func98 rfl results98 ntmps98 rfl ?_
 refine .sr<|.ag rfl<|.zs<|.sr<|.mo rfl<|.q (.p2 rfl rfl) ?_
 refine .mo rfl<|.gt rfl ?_
 refine .mo rfl<|.gt rfl ?_
 refine .nc rfl<|.gt rfl ?_
 refine .fa rfl<|.gt rfl ?_
 refine .lo rfl<|.gt rfl ?_
 refine .q .not<|.q .dv<|.zn<|.bB<|.kn<|.sr<|.mo rfl<|.nc rfl<|.fa rfl<|.lo rfl<|.az rfl ?_
 refine .ret (br rfl ?_)
 ·exact⟨rfl,rfl⟩
theorem rU(b:Nat)(v:Value)(e d:Int)(R:aA):Spec prog 99 [pT b,.int .i64 d] R [bl b [v,.int .i64 e,.bool true] 171] λu H'=>∃T',H'=[T']/\T'=(bl b [sZ,.int .i64 (if e=0 then d else e),.bool true] 171):=by
 refine Spec.body func99 rfl results99 ntmps99 rfl ?_
 refine .seq<|.sr<|.mo rfl<|.nc rfl<|.fa rfl<|.lo rfl<|.q .cA<|.zn ?_
 refine .cond rfl (λa=>?_) λa=>?_
 refine .region<|.mo rfl<|.mo rfl<|.nc rfl<|.fa rfl<|.cO rfl rfl<|.zn<|.region<|.mo rfl<|.nc rfl<|.fa rfl<|.cO rfl rfl<|.nil<|ct _ .none (.one [0] _) ?_
 ·have c:e=0:=by simpa using a
  exact⟨_,rfl,by rw[if_pos c];rfl⟩
 refine .kn<|.region<|.mo rfl<|.nc rfl<|.fa rfl<|.cO rfl rfl<|.nil<|ct _ .none (.one [0] _) ?_
 ·have c:¬e=0:=by simpa using a
  exact⟨_,rfl,by rw[if_neg c];rfl⟩
theorem uv{xs:List UInt8}{i:Nat}{c:UInt8}(h:xs[i]? =some c):xs.drop i=c::xs.drop (i+1):=by
 obtain⟨a,rfl⟩:=List.getElem?_eq_some_iff.1 h
 exact List.drop_eq_getElem_cons a
theorem sE{c:UInt8}(h:128<=c.toNat):IntKind.u8.wrap ((c.toNat:Int)-128)=((c.toNat-128:Nat):Int):=by
 have:=c.toNat_lt
 simp[IntKind.wrap,IntKind.bits,IntKind.signed]
 omega
theorem li{x a i:Nat}(c:x<2^(7*i))(b:a*2^(7*i)<di):x|||a*2^(7*i) % di=x+2^(7*i)*a:=by
 rw[Nat.mod_eq_of_lt b,Nat.or_comm,FD c,Nat.mul_comm]
 omega
theorem ni{i:Nat}(h:i<=8):2^(7*i)<=72057594037927936:=Nat.le_trans (acV (by decide) (show 7*i<=56 by omega)) (by decide)
theorem Fa(v:Value)(xs:List UInt8)(R:aA)(h:RS R 1 dt v xs):Spec prog 100 [v] R [] λu H'=>(∃(x n:Nat) (e:Int),u=.tuple [.int .u64 (x:Nat),iN n,.int .i64 e].toArray/\((e=0/\n<=xs.length/\gm xs=some (x,xs.drop n))\/(e≠0/\gm xs=none)))/\H'=[]:=by
  have T:=h.aL
  have S:=h.le
  refine Spec.body func100 rfl results100 ntmps100 rfl ?_
  refine .sr<|.ag rfl<|.ag rfl<|.ag rfl<|.z<|.ag rfl<|.zs<|.sr<|.mo rfl<|.q (.dH h) ?_
  refine .mo rfl<|.zn<|.block ?_
  refine .loop (X:=Nat×Nat) (λy=>y.2<=xs.length/\y.2<=9/\y.1<2^(7*y.2)/\gm xs=(kp y.2 (xs.drop y.2)).map λp=>(y.1+2^(7*y.2)*p.1,p.2)) (λy=>[(5,.int .u64 (y.1:Nat)),(8,v),(9,iN xs.length),(10,iN y.2)]) (λ_=>[]) (λy=>xs.length-y.2) (0,0) ⟨acS _,acS _,by decide,by simp[gm]⟩ kE.c.c.c.c rH ?_
  rintro⟨x,i⟩ ⟨N,O,w,b⟩
  simp only at N O w b⊢
  refine .sr<|.q .lss<|.zs ?_
  refine .cond rfl (λI=>?_) λI=>?_
  have j:i<xs.length:=de I
  obtain⟨c,L⟩:=eL j
  have Q:=c.toNat_lt
  rw[uv L]at b
  unfold kp at b
  refine .kn<|.seq<|.block<|.sr<|.mo rfl ?_
  refine .cR i h L (λU=>?_)
  refine .lo rfl<|.ag rfl<|.az rfl<|.block<|.sr<|.mo rfl<|.q .cA<|.mo rfl ?_
  refine .split (t:=27) rfl (λo=>?_) (λo=>?_)
  ·exfalso;have f:(i:Int)=10:=by simpa using o
   omega
  refine .gT o<|.mo rfl<|.gT o<|.q .cA<|.gT o<|.mo rfl ?_
  refine .split (t:=30) rfl (λl=>?_) (λl=>?_)
  refine .gT l<|.mo rfl<|.gT l<|.q .gtr<|.gT o<|.q (.bu l) ?_
  refine .q (.bq o) ?_
  refine .az rfl ?_
  refine .cond rfl (λH=>?_) λH=>?_
  have F:i=9/\1<c.toNat:=by
    refine⟨?_,?_⟩
    ·have f:(i:Int)=9:=by simpa using l
     omega
    ·have f:=bo H
     omega
  rw[if_pos F]at b
  refine .sr<|.ag rfl<|.ag rfl<|.az rfl ?_
  refine .ret (bg (bg (aT (cc (bg (aT (aZ _ (.three (.tmp rfl) (.tmp rfl) (.tmp rfl)) (.none _) ?_)))))))
  ·first
      |exact⟨⟨0,0,_,rfl,.inr ⟨by decide,A⟩⟩,rfl⟩
      |exact⟨⟨0,0,_,rfl,.inr ⟨by decide,b⟩⟩,rfl⟩
      |exact⟨⟨x+2^(7*i)*c.toNat,i+1,0,rfl,.inl ⟨rfl,j,b⟩⟩,rfl⟩
  have F:¬(i=9/\1<c.toNat):=by
    rintro⟨C,f⟩
    first
      |(have g:=aY H;omega)
      |(have g:¬(i:Int)=9:=by simpa using l
        omega)
  rw[if_neg F]at b
  refine .sr<|.mo rfl<|.q .geq<|.az rfl ?_
  refine .cond rfl (λB=>?_) λB=>?_
  have E:128<=c.toNat:=by have:=bo B;omega
  have D:i<=8:=by omega
  have J:=ni D
  have s:(c.toNat-128)*2^(7*i)<di:=acQ (acT (show c.toNat-128<=127 by omega) J) (by decide)
  rw[if_pos E]at b
  refine .region<|.mo rfl<|.mo rfl<|.q (bd.cast (v':=.int .u8 ((c.toNat-128:Nat):Int)) (.sub rfl rfl) (congrArg (Value.int .u8) (sE E))) ?_
  refine .q (.gg (a:=c.toNat-128) rfl (by unfold di;omega)) ?_
  refine .mo rfl ?_
  refine .ia (7*i) .mul ?_
  refine .q (.lz (a:=c.toNat-128) (n:=7*i) rfl rfl (by omega)) ?_
  refine .q (.lh rfl rfl (by unfold di;omega) (acR _ (by decide))) ?_
  rw[li w s]
  refine .ag rfl<|.nil<|bi<|bi<|aD<|.region ?_
  refine .ia (i+1) .add ?_
  refine .mo rfl<|.nil ?_
  ·exact aN (x+2^(7*i)*(c.toNat-128),i+1) ⟨j,by simp only;omega,by
      simp only
      rw[show 7*(i+1)=7*i+7 by omega,Nat.pow_add]
      have C:2^(7*i)*(c.toNat-128)<=2^(7*i)*127:=Nat.mul_le_mul_left _ (by omega)
      generalize 2^(7*i)=m at *
      generalize m*(c.toNat-128)=q at *
      omega,by
      simp only
      rw[b,Option.map_map]
      congr 1
      funext p
      simp only[Function.comp,Prod.mk.injEq,and_true]
      rw[show 7*(i+1)=7*i+7 by omega,Nat.pow_add,Nat.mul_add,Nat.add_assoc,Nat.mul_assoc]⟩ (by simp only;omega) kE.c.c.c.c rH
  have K:¬128<=c.toNat:=by have:=aY B;omega
  rw[if_neg K]at b
  have s:c.toNat*2^(7*i)<di:=by
    by_cases D:i<=8
    ·exact acQ (acT (show c.toNat<=127 by omega) (ni D)) (by decide)
    ·have:i=9:=by omega
     subst this
     exact acQ (Nat.mul_le_mul_right _ (show c.toNat<=1 by omega)) (by decide)
  have G:x<di:=Nat.lt_of_lt_of_le w (Nat.le_trans (acV (by decide) (show 7*i<=63 by omega)) (by decide))
  refine .sr<|.mo rfl<|.q .cA<|.mo rfl ?_
  refine .split (t:=49) rfl (λd=>?_) (λd=>?_)
  refine .gT d<|.mo rfl<|.gT d<|.q .gtr<|.q (.bu d) ?_
  refine .az rfl ?_
  refine .cond rfl (λr=>?_) λr=>?_
  have k:c.toNat=0/\0<i:=by
    refine⟨?_,?_⟩
    ·have f:(c.toNat:Int)=0:=by simpa using d
     omega
    ·have f:=bo r
     omega
  rw[if_pos k]at b
  refine .sr<|.ag rfl<|.ag rfl<|.az rfl ?_
  refine .ret (bg (bg (aT (cc (bg (aT (aZ _ (.three (.tmp rfl) (.tmp rfl) (.tmp rfl)) (.none _) ?_)))))))
  ·first
      |exact⟨⟨0,0,_,rfl,.inr ⟨by decide,A⟩⟩,rfl⟩
      |exact⟨⟨0,0,_,rfl,.inr ⟨by decide,b⟩⟩,rfl⟩
      |exact⟨⟨x+2^(7*i)*c.toNat,i+1,0,rfl,.inl ⟨rfl,j,b⟩⟩,rfl⟩
  have k:¬(c.toNat=0/\0<i):=by
    rintro⟨C,f⟩
    first
      |(have g:=aY r;omega)
      |(have g:¬(c.toNat:Int)=0:=by simpa using d
        omega)
  rw[if_neg k]at b
  refine .sr<|.mo rfl<|.mo rfl ?_
  refine .q (.gg (a:=c.toNat) rfl (by unfold di;omega)) ?_
  refine .mo rfl ?_
  refine .ia (7*i) .mul ?_
  refine .q (.lz (a:=c.toNat) (n:=7*i) rfl rfl (by omega)) ?_
  refine .q (.lh rfl rfl G (acR _ (by decide))) ?_
  rw[li w s]
  refine .mo rfl ?_
  refine .ia (i+1) .add ?_
  refine .ag rfl<|.ag rfl<|.az rfl ?_
  refine .ret (bg (bg (aT (cc (bg (aT (aZ _ (.three (.tmp rfl) (.tmp rfl) (.tmp rfl)) (.none _) ?_)))))))
  ·first
      |exact⟨⟨0,0,_,rfl,.inr ⟨by decide,A⟩⟩,rfl⟩
      |exact⟨⟨0,0,_,rfl,.inr ⟨by decide,b⟩⟩,rfl⟩
      |exact⟨⟨x+2^(7*i)*c.toNat,i+1,0,rfl,.inl ⟨rfl,j,b⟩⟩,rfl⟩
  refine .gF d<|.gF d<|.q (.bq d) ?_
  refine .az rfl<|.bB ?_
  have k:¬(c.toNat=0/\0<i):=by
    rintro⟨C,f⟩
    first
      |(have g:=aY r;omega)
      |(have g:¬(c.toNat:Int)=0:=by simpa using d
        omega)
  rw[if_neg k]at b
  refine .sr<|.mo rfl<|.mo rfl ?_
  refine .q (.gg (a:=c.toNat) rfl (by unfold di;omega)) ?_
  refine .mo rfl ?_
  refine .ia (7*i) .mul ?_
  refine .q (.lz (a:=c.toNat) (n:=7*i) rfl rfl (by omega)) ?_
  refine .q (.lh rfl rfl G (acR _ (by decide))) ?_
  rw[li w s]
  refine .mo rfl ?_
  refine .ia (i+1) .add ?_
  refine .ag rfl<|.ag rfl<|.az rfl ?_
  refine .ret (bg (bg (aT (cc (bg (aT (aZ _ (.three (.tmp rfl) (.tmp rfl) (.tmp rfl)) (.none _) ?_)))))))
  ·first
      |exact⟨⟨0,0,_,rfl,.inr ⟨by decide,A⟩⟩,rfl⟩
      |exact⟨⟨0,0,_,rfl,.inr ⟨by decide,b⟩⟩,rfl⟩
      |exact⟨⟨x+2^(7*i)*c.toNat,i+1,0,rfl,.inl ⟨rfl,j,b⟩⟩,rfl⟩
  refine .gF l<|.gF l<|.gT o<|.q (.bq l) ?_
  refine .q (.bq o) ?_
  refine .az rfl<|.bB ?_
  have F:¬(i=9/\1<c.toNat):=by
    rintro⟨C,f⟩
    first
      |(have g:=aY H;omega)
      |(have g:¬(i:Int)=9:=by simpa using l
        omega)
  rw[if_neg F]at b
  refine .sr<|.mo rfl<|.q .geq<|.az rfl ?_
  refine .cond rfl (λB=>?_) λB=>?_
  have E:128<=c.toNat:=by have:=bo B;omega
  have D:i<=8:=by omega
  have J:=ni D
  have s:(c.toNat-128)*2^(7*i)<di:=acQ (acT (show c.toNat-128<=127 by omega) J) (by decide)
  rw[if_pos E]at b
  refine .region<|.mo rfl<|.mo rfl<|.q (bd.cast (v':=.int .u8 ((c.toNat-128:Nat):Int)) (.sub rfl rfl) (congrArg (Value.int .u8) (sE E))) ?_
  refine .q (.gg (a:=c.toNat-128) rfl (by unfold di;omega)) ?_
  refine .mo rfl ?_
  refine .ia (7*i) .mul ?_
  refine .q (.lz (a:=c.toNat-128) (n:=7*i) rfl rfl (by omega)) ?_
  refine .q (.lh rfl rfl (by unfold di;omega) (acR _ (by decide))) ?_
  rw[li w s]
  refine .ag rfl<|.nil<|bi<|bi<|aD<|.region ?_
  refine .ia (i+1) .add ?_
  refine .mo rfl<|.nil ?_
  ·exact aN (x+2^(7*i)*(c.toNat-128),i+1) ⟨j,by simp only;omega,by
      simp only
      rw[show 7*(i+1)=7*i+7 by omega,Nat.pow_add]
      have C:2^(7*i)*(c.toNat-128)<=2^(7*i)*127:=Nat.mul_le_mul_left _ (by omega)
      generalize 2^(7*i)=m at *
      generalize m*(c.toNat-128)=q at *
      omega,by
      simp only
      rw[b,Option.map_map]
      congr 1
      funext p
      simp only[Function.comp,Prod.mk.injEq,and_true]
      rw[show 7*(i+1)=7*i+7 by omega,Nat.pow_add,Nat.mul_add,Nat.add_assoc,Nat.mul_assoc]⟩ (by simp only;omega) kE.c.c.c.c rH
  have K:¬128<=c.toNat:=by have:=aY B;omega
  rw[if_neg K]at b
  have s:c.toNat*2^(7*i)<di:=by
    by_cases D:i<=8
    ·exact acQ (acT (show c.toNat<=127 by omega) (ni D)) (by decide)
    ·have:i=9:=by omega
     subst this
     exact acQ (Nat.mul_le_mul_right _ (show c.toNat<=1 by omega)) (by decide)
  have G:x<di:=Nat.lt_of_lt_of_le w (Nat.le_trans (acV (by decide) (show 7*i<=63 by omega)) (by decide))
  refine .sr<|.mo rfl<|.q .cA<|.mo rfl ?_
  refine .split (t:=49) rfl (λd=>?_) (λd=>?_)
  refine .gT d<|.mo rfl<|.gT d<|.q .gtr<|.q (.bu d) ?_
  refine .az rfl ?_
  refine .cond rfl (λr=>?_) λr=>?_
  have k:c.toNat=0/\0<i:=by
    refine⟨?_,?_⟩
    ·have f:(c.toNat:Int)=0:=by simpa using d
     omega
    ·have f:=bo r
     omega
  rw[if_pos k]at b
  refine .sr<|.ag rfl<|.ag rfl<|.az rfl ?_
  refine .ret (bg (bg (aT (cc (bg (aT (aZ _ (.three (.tmp rfl) (.tmp rfl) (.tmp rfl)) (.none _) ?_)))))))
  ·first
      |exact⟨⟨0,0,_,rfl,.inr ⟨by decide,A⟩⟩,rfl⟩
      |exact⟨⟨0,0,_,rfl,.inr ⟨by decide,b⟩⟩,rfl⟩
      |exact⟨⟨x+2^(7*i)*c.toNat,i+1,0,rfl,.inl ⟨rfl,j,b⟩⟩,rfl⟩
  have k:¬(c.toNat=0/\0<i):=by
    rintro⟨C,f⟩
    first
      |(have g:=aY r;omega)
      |(have g:¬(c.toNat:Int)=0:=by simpa using d
        omega)
  rw[if_neg k]at b
  refine .sr<|.mo rfl<|.mo rfl ?_
  refine .q (.gg (a:=c.toNat) rfl (by unfold di;omega)) ?_
  refine .mo rfl ?_
  refine .ia (7*i) .mul ?_
  refine .q (.lz (a:=c.toNat) (n:=7*i) rfl rfl (by omega)) ?_
  refine .q (.lh rfl rfl G (acR _ (by decide))) ?_
  rw[li w s]
  refine .mo rfl ?_
  refine .ia (i+1) .add ?_
  refine .ag rfl<|.ag rfl<|.az rfl ?_
  refine .ret (bg (bg (aT (cc (bg (aT (aZ _ (.three (.tmp rfl) (.tmp rfl) (.tmp rfl)) (.none _) ?_)))))))
  ·first
      |exact⟨⟨0,0,_,rfl,.inr ⟨by decide,A⟩⟩,rfl⟩
      |exact⟨⟨0,0,_,rfl,.inr ⟨by decide,b⟩⟩,rfl⟩
      |exact⟨⟨x+2^(7*i)*c.toNat,i+1,0,rfl,.inl ⟨rfl,j,b⟩⟩,rfl⟩
  refine .gF d<|.gF d<|.q (.bq d) ?_
  refine .az rfl<|.bB ?_
  have k:¬(c.toNat=0/\0<i):=by
    rintro⟨C,f⟩
    first
      |(have g:=aY r;omega)
      |(have g:¬(c.toNat:Int)=0:=by simpa using d
        omega)
  rw[if_neg k]at b
  refine .sr<|.mo rfl<|.mo rfl ?_
  refine .q (.gg (a:=c.toNat) rfl (by unfold di;omega)) ?_
  refine .mo rfl ?_
  refine .ia (7*i) .mul ?_
  refine .q (.lz (a:=c.toNat) (n:=7*i) rfl rfl (by omega)) ?_
  refine .q (.lh rfl rfl G (acR _ (by decide))) ?_
  rw[li w s]
  refine .mo rfl ?_
  refine .ia (i+1) .add ?_
  refine .ag rfl<|.ag rfl<|.az rfl ?_
  refine .ret (bg (bg (aT (cc (bg (aT (aZ _ (.three (.tmp rfl) (.tmp rfl) (.tmp rfl)) (.none _) ?_)))))))
  ·first
      |exact⟨⟨0,0,_,rfl,.inr ⟨by decide,A⟩⟩,rfl⟩
      |exact⟨⟨0,0,_,rfl,.inr ⟨by decide,b⟩⟩,rfl⟩
      |exact⟨⟨x+2^(7*i)*c.toNat,i+1,0,rfl,.inl ⟨rfl,j,b⟩⟩,rfl⟩
  have A:gm xs=none:=by
    have M:i=xs.length:=by have:=aY I;omega
    rw[b,M,List.drop_length];rfl
  refine .exit<|aP<|aV<|aR<|aD<|.sr<|.ag rfl<|.ag rfl<|.az rfl ?_
  refine .ret (aZ _ (.three (.tmp rfl) (.tmp rfl) (.tmp rfl)) (.none _) ?_)
  ·first
      |exact⟨⟨0,0,_,rfl,.inr ⟨by decide,A⟩⟩,rfl⟩
      |exact⟨⟨0,0,_,rfl,.inr ⟨by decide,b⟩⟩,rfl⟩
      |exact⟨⟨x+2^(7*i)*c.toNat,i+1,0,rfl,.inl ⟨rfl,j,b⟩⟩,rfl⟩
theorem lq(b:Nat)(s:Option (List UInt8))(T:ay)(h:eU b s T)(R:aA):Spec prog 33 [pT b] R [T] λu H'=>∃T',H'=[T']/\∃(x:Nat) (s':Option (List UInt8)),u=.int .u64 (x:Nat)/\x<di/\eU b s' T'/\s.bind gm=s'.map λr=>(x,r):=by
 have A:=h
 obtain⟨v,e,c,rfl,i,t⟩:=h
 have F:=i.aL
 have B:=i.le
 refine Spec.ep (H':=[bl b [v,.int .i64 e,.bool true] 171,c]) (by simp) ?_
 refine Spec.body func33 rfl results33 ntmps33 rfl ?_
 refine .sr<|.ag rfl<|.zs<|.sr<|.mo rfl ?_
 refine .bc (jC b v e _) (λu j=>?_)
 subst j
 refine .q .eb<|.zn ?_
 refine .cond rfl (λm=>?_) λm=>?_
 have g:e≠0:=by simpa using m
 have w:s=none:=by
  cases s with
  |none=>rfl
  |some a=>exact absurd (t.2 rfl) g
 refine .sr<|.az rfl ?_
 refine .ret (aT (aZ _ (.one (.tmp rfl)) (bV.du (H':=[(b,.cells [v,.int .i64 e,.bool true].toArray 171 (0,0))::c]) (by simp)) ?_))
 ·subst w
  exact⟨_,rfl,0,none,rfl,by decide,A,rfl⟩
 have g:e=0:=by simpa using m
 obtain⟨a,rfl⟩:=acU.1 (t.1 g)
 simp only[acW]at i B
 refine .kn<|.sr<|.mo rfl<|.nc rfl<|.fa rfl<|.lo rfl ?_
 refine .bc (Fa v a _ i.Gs) (λu j=>?_)
 obtain⟨x,n,f,rfl,y⟩:=j
 refine .mo rfl<|.q .extract<|.q .extract<|.q .extract<|.ag rfl<|.ag rfl<|.ag rfl<|.zs<|.sr<|.mo rfl<|.q .eb<|.zn ?_
 refine .cond rfl (λo=>?_) λo=>?_
 have k:f≠0:=by simpa using o
 have l:gm a=none:=by
  rcases y with⟨d,_⟩|⟨_,d⟩
  ·exact absurd d k
  ·exact d
 refine .sr<|.mo rfl<|.mo rfl ?_
 refine .bb (rU b v e f _) (λu E j=>?_)
 subst j
 refine .z<|.az rfl ?_
 refine .ret (aT (aZ _ (.one (.tmp rfl)) (bV.du (H':=[(b,.cells [sZ,.int .i64 (if e=0 then f else e),.bool true].toArray 171 (0,0))::c]) (by simp)) ?_))
 ·refine⟨_,rfl,0,none,rfl,by decide,⟨_,_,c,rfl,RS.oy,?_⟩,by simp[l]⟩
  rw[if_pos g];simp[k]
 have k:f=0:=by simpa using o
 obtain⟨w,l⟩:n<=a.length/\gm a=some (x,a.drop n):=by
  rcases y with⟨_,d⟩|⟨d,_⟩
  ·exact d
  ·exact absurd k d
 have C:=((uh.h a x (a.drop n)).1 l).2
 refine .kn<|.sr<|.mo rfl<|.mo rfl<|.nc rfl<|.fa rfl<|.lo rfl<|.mo rfl ?_
 refine .jS (R':=sg c) n a.length i ⟨_,rfl⟩ rfl (by omega) (by omega) (λD p=>?_)
 have G:=p.aL
 have f:(a.drop n).take (a.length-n)=a.drop n:=List.take_of_length_le (by simp)
 rw[f]at p
 refine .nc rfl<|.fa rfl<|.cO rfl rfl<|.z<|.mo rfl<|.az rfl ?_
 refine .ret (aZ _ (.one (.tmp rfl)) (bV.du (H':=[(b,.cells [D,.int .i64 e,.bool true].toArray 171 (0,0))::c]) (by simp[cF])) ?_)
 ·exact⟨_,rfl,x,some (a.drop n),rfl,C,⟨_,_,c,rfl,p,by simp[g]⟩,by simp[l]⟩
theorem F0{s a:Option (List UInt8)}{x m:Nat}(h:s.bind gm=a.map λr=>(x,r)):s.bind (oC m)=a.bind λr=>if x<=m then some (x,r)else none:=by
 unfold oC rR
 rw[tw h]
 cases a<;>simp
theorem lm(b:Nat)(s:Option (List UInt8))(T:ay)(h:eU b s T)(m:Nat)(H:m<=9223372036854775807)(R:aA):Spec prog 32 [pT b,iN m] R [T] λu H'=>∃T',H'=[T']/\∃(x:Nat) (s':Option (List UInt8)),u=iN x/\x<=m/\eU b s' T'/\s.bind (oC m)=s'.map λr=>(x,r):=by
 refine Spec.body func32 rfl results32 ntmps32 rfl ?_
 refine .sr<|.ag rfl<|.z<|.mo rfl ?_
 refine .bb (lq b s T h _) (λu f d=>?_)
 obtain⟨x,A,rfl,F,p,D⟩:=d
 have n:=F0 (m:=m) D
 have G:=F
 unfold di at G
 have o:=p
 obtain⟨v,e,j,w,I,y⟩:=p
 have pT:PS f (pT b) [v,.int .i64 e,.bool true]:=PS.of (E:=171) (fr:=(0,0)) (by rw[w];simp)
 refine .ag rfl<|.zs<|.sr<|.mo rfl ?_
 refine .bc (jC b v e _) (λu d=>?_)
 subst d
 refine .q .eb<|.zn ?_
 refine .cond rfl (λk=>?_) λk=>?_
 have i:e≠0:=by simpa using k
 have C:A=none:=by
  cases A with
  |none=>rfl
  |some B=>exact absurd (y.2 rfl) i
 refine .sr<|.az rfl ?_
 refine .ret (aT (aZ _ (.one (.tmp rfl)) (.one [0] _) ?_))
 ·subst C
  exact⟨f,by simp[take],0,none,rfl,acS _,o,by rw[n];rfl⟩
 have i:e=0:=by simpa using k
 obtain⟨B,rfl⟩:=acU.1 (y.1 i)
 refine .kn<|.seq<|.sr<|.mo rfl<|.q .lss<|.mo rfl ?_
 refine .split (t:=13) rfl (λc=>?_) (λc=>?_)
 ·exfalso;have:=bo c;omega
 refine .gT c<|.mo rfl<|.gT c<|.mo rfl<|.gT c ?_
 refine .q (.gg (a:=m) rfl (by unfold di;omega)) ?_
 refine .gT c<|.q .gtr<|.q (.bq c) ?_
 refine .zn ?_
 refine .cond rfl (λl=>?_) λl=>?_
 have g:¬x<=m:=by have:=bo l;omega
 refine .sr ?_
 subst w
 refine .sub (bV.open_ (S:=[bl b [v,.int .i64 e,.bool true] 171,j]) 0 (by simp)) ?_
 show aM _ _ _ _ _ _ _ [_,_] _
 refine .mo rfl ?_
 refine .bb (rU b v e 5 _) (λu f d=>?_)
 subst d
 refine .z<|.az rfl ?_
 refine .ret (aT (aZ _ (.one (.tmp rfl)) (bV.du (H':=[(b,.cells [sZ,.int .i64 (if e=0 then 5 else e),.bool true].toArray 171 (0,0))::j]) (by simp)) ?_))
 ·refine⟨_,rfl,0,none,rfl,acS _,⟨_,_,j,rfl,RS.oy,?_⟩,by rw[n];simp[g]⟩
  rw[if_pos i];simp
 have g:x<=m:=by have:=aY l;omega
 refine .kn<|.sr<|.mo rfl ?_
 refine .q (bd.cast (v':=iN x) (.ez) (congrArg (Value.int .i64) (IntWalk.i64_in _ (by omega)))) ?_
 refine .az rfl ?_
 refine .ret (aZ _ (.one (.tmp rfl)) (.one [0] _) ?_)
 ·exact⟨f,by simp[take],x,some B,rfl,g,o,by rw[n];simp[g]⟩
theorem F2(b:Nat)(s:Option (List UInt8))(T:ay)(h:eU b s T)(R:aA)(j:∀p∈T,R p.1 p.2):Spec prog 42 [pT b] R [] λu H'=>(∃e:Int,u=.int .i64 e/\(e=0↔s=some []))/\H'=[]:=by
 obtain⟨v,e,x,rfl,k,i⟩:=h
 have y:=k.aL
 have A:PC R (pT b) [v,.int .i64 e,.bool true]:=PC.of (E:=171) (fr:=(0,0)) (j (b,.cells [v,.int .i64 e,.bool true].toArray 171 (0,0)) (by simp))
 have r:RS R 1 dt v (s.getD []):=k.mono λm o n=>j (m,o) (List.mem_cons_of_mem _ n)
 refine Spec.body func42 rfl results42 ntmps42 rfl ?_
 refine .sr<|.ag rfl<|.zs<|.sr<|.mo rfl ?_
 refine .bc (jC b v e _) (λu t=>?_)
 subst t
 refine .ag rfl<|.z<|.mo rfl<|.q .eb<|.zn ?_
 refine .cond rfl (λf=>?_) λf=>?_
 refine .sr<|.mo rfl<|.az rfl ?_
 refine .ret (aT (br rfl ?_))
 ·have c:e≠0:=by simpa using f
  exact⟨⟨e,rfl,λa=>absurd a c,λa=>absurd (i.2 (by rw[a];rfl)) c⟩,rfl⟩
 refine .kn<|.seq<|.sr<|.mo rfl<|.nc rfl<|.fa rfl<|.lo rfl<|.q (.dH r) ?_
 refine .q .gtr<|.zn ?_
 refine .cond rfl (λd=>?_) λd=>?_
 refine .sr<|.az rfl ?_
 refine .ret (aT (br rfl ?_))
 ·have c:e=0:=by simpa using f
  obtain⟨l,rfl⟩:=acU.1 (i.1 c)
  simp only[acW]at d
  have a:=bo d
  refine⟨⟨6,rfl,λg=>by simp at g,λg=>?_⟩,rfl⟩
  cases g
  simp at a
 refine .kn<|.sr<|.az rfl ?_
 refine .ret (br rfl ?_)
 ·have c:e=0:=by simpa using f
  obtain⟨l,rfl⟩:=acU.1 (i.1 c)
  simp only[acW]at d
  have a:=aY d
  have w:l=[]:=List.length_eq_zero_iff.1 (by omega)
  subst w
  exact⟨⟨0,rfl,λ_=>rfl,λ_=>rfl⟩,rfl⟩
end Go.Proofs.YtgppncmdpcefhaaGreatDoor
