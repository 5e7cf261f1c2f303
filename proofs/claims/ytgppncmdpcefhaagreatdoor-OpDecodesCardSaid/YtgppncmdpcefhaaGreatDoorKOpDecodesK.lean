/- What the law 'OpDecodes' uses. No condition. -/
import Derived.Laws.BytesArg
import Derived.Laws.IdiomStrings
import Derived.Test.YtgppncmdpcefhaaGreatDoorKOpDecodesB
import Derived.Test.YtgppncmdpcefhaaGreatDoorKOpDecodesE
import Derived.Test.YtgppncmdpcefhaaGreatDoorKOpDecodesI
namespace Go.Proofs.YtgppncmdpcefhaaGreatDoor
set_option linter.defProp false
def aci:=@if_pos
def acj:=@congrArg
def ack:=@Nat.lt_of_le_of_lt
def acm:=@Nat.mod_lt
def acn:=@Option.isSome_iff_exists
def aco:=@Nat.zero_le
def acp:=@Nat.mul_le_mul
def acq:=@Option.getD_some
def acr:=@List.length_append
def acs:=@Nat.pow_le_pow_right
open Tryz
set_option linter.unusedVariables false
set_option linter.unusedSimpArgs false
set_option maxRecDepth 4000
theorem Bh(n:Nat):IntKind.u8.wrap ((BitVec.ofInt IntKind.u8.bits ((UInt8.ofNat n).toNat:Int)|||BitVec.ofInt IntKind.u8.bits 128).toNat:Int)=((UInt8.ofNat (128+n % 128)).toNat:Int):=by
 have c:∀m:Fin 256,IntKind.u8.wrap ((BitVec.ofInt IntKind.u8.bits (m.val:Int)|||BitVec.ofInt IntKind.u8.bits 128).toNat:Int)=((128+m.val % 128:Nat):Int):=by decide+kernel
 have a:(UInt8.ofNat n).toNat=n % 256:=UInt8.toNat_ofNat'
 have b:(UInt8.ofNat (128+n % 128)).toNat=128+n % 128:=lv (by omega)
 rw[a,b,c ⟨n % 256,by omega⟩]
 simp only
 omega
theorem CW(x:Nat)(i:x<bW)(R:aC):Spec prog 96 [.int .u64 (x:Nat)] R [] λv H'=>∃T,H'=[T]/\OS 5 1 bZ v (put x) T:=by
 have t:=ja i
 refine Spec.eg (H':=[[]]) (by simp) ?_
 refine Spec.body func96 rfl results96 ntmps96 rfl ?_
 refine .sr<|.ag rfl<|.z<|.ag rfl<|.zs<|.block ?_
 refine .loop (X:=Nat×List UInt8×Value×ay) (λy=>y.1<bW/\y.2.1++put y.1=put x/\OS 5 1 bZ y.2.2.1 y.2.1 y.2.2.2) (λy=>[(0,.int .u64 (y.1:Nat)),(3,y.2.2.1)]) (λy=>[y.2.2.2]) (λy=>y.1) (x,[],sZ,[]) ⟨i,rfl,OS.nil⟩ kE.c.c rH ?_
 rintro⟨y,o,w,p⟩ ⟨l,d,e⟩
 simp only at l d e⊢
 have u:=e.aF
 have k:=acj List.length d
 rw[acr]at k
 refine .seq<|.sr<|.mo rfl<|.q .geq<|.zn ?_
 refine .cond rfl (λg=>?_) λg=>?_
 have h:¬y<128:=by have:=bp g;omega
 rw[jA h]at d
 refine .kn<|.block<|.sr<|.mo rfl<|.mo rfl<|.q (.lU (a:=y) rfl) ?_
 refine .q (aV.cast (v':=.int .u8 ((UInt8.ofNat (128+y % 128)).toNat:Int)) (.dE rfl rfl) (acj (Value.int .u8) (Bh y))) ?_
 refine .jg (λr=>?_)
 refine .append e (RS.lits (xs:=[UInt8.ofNat (128+y % 128)]) rfl (by simp[bZ]) (by simp[bZ,aF])) (by simp;omega) (λj f b=>?_)
 have m:=b.aF
 refine .az rfl<|.region<|.mo rfl ?_
 refine .q (.B3 (a:=y) (n:=7) rfl rfl (by decide)) ?_
 refine .ag rfl<|.nil<|bg ?_
 ·exact aS (y/128,o++[UInt8.ofNat (128+y % 128)],j,f) ⟨by simp only;omega,by simp only;rw[<-d];simp,b⟩ (by simp only;omega) kE.c.c (cw [1])
 have h:y<128:=by have:=bc g;omega
 rw[iF h]at d
 refine .exit<|aT<|aW<|aU<|aI<|.sr<|.mo rfl<|.mo rfl<|.q (.lU (a:=y) rfl) ?_
 refine .jg (λs=>?_)
 refine .append e (RS.lits (xs:=[UInt8.ofNat y]) rfl (by simp[bZ]) (by simp[bZ,aF])) (by simp;omega) (λj f b=>?_)
 have m:=b.aF
 rw[d]at b
 refine .az rfl ?_
 refine .ret (bb _ (.one (.tmp rfl)) (.one [1] _) ?_)
 ·exact⟨f,by simp[take],b⟩
theorem mv(v:Value)(xs:List UInt8)(R:aC)(h:RS R 1 bZ v xs)(n:xs.length<=1000000000000):Spec prog 97 [v] R [] λu H'=>∃T,H'=[T]/\OS 5 1 bZ u xs T:=by
 obtain⟨p,j,rfl,l,m,h4⟩:=id h.h
 refine Spec.eg (H':=[[]]) (by simp) ?_
 cases p with
 |none=>
  have f:xs=[]:=by
   rcases h4 with h4|⟨b,r,c,E,k,g,_⟩
   ·exact h4
   ·cases g
  subst f
  refine Spec.body func97 rfl results97 ntmps97 rfl ?_
  refine .sr<|.ag rfl<|.zs<|.sr<|.mo rfl<|.q (.mJ rfl rfl) ?_
  refine .zn<|.jj<|.sr<|.az rfl ?_
  refine .ret (bq (bb _ (.one (.tmp rfl)) (.one [0] _) ?_))
  ·exact⟨_,rfl,OS.nil⟩
 |some a=>
  refine Spec.body func97 rfl results97 ntmps97 rfl ?_
  refine .sr<|.ag rfl<|.zs<|.sr<|.mo rfl<|.q (.mJ rfl rfl) ?_
  refine .zn<|.bB<|.kn<|.sr ?_
  refine .nF (λi=>?_)
  refine .mo rfl ?_
  refine .append (OS.lits (xs:=([]:List UInt8)) (enc:=bZ) (sz:=1) (cs:=[]) rfl (by simp) (by simp)) h.rx (by simp;omega) (λs e d=>?_)
  have o:=d.aF
  refine .az rfl ?_
  refine .ret (bb _ (.one (.tmp rfl)) (.one [0] _) ?_)
  ·exact⟨e,by simp[take],d⟩
def cT(b:Nat)(xs:List UInt8)(T:ay):Prop:=∃vs Tb,T=(b,.cells [vs].toArray 169 (0,0))::Tb/\OS 5 1 bZ vs xs Tb
theorem pP(R:aC):Spec prog 22 [] R [] λv H'=>∃T,H'=[T]/\∃b,v=pT b/\cT b [] T:=by
 refine Spec.body func22 rfl results22 ntmps22 rfl ?_
 refine .sr<|.ag rfl<|.z ?_
 refine .q .ek ?_
 refine .cQ rfl (λa=>?_)
 refine .az rfl ?_
 refine .ret (bb _ (.one (.tmp rfl)) (.one [0] _) ?_)
 ·exact⟨_,rfl,_,rfl,_,[],rfl,OS.nil⟩
theorem ey(b:Nat)(xs:List UInt8)(T:ay)(h:cT b xs T)(x:Nat)(f:x<bW)(l:xs.length<=1000000000000)(R:aC):Spec prog 23 [pT b,.int .u64 (x:Nat)] R [T] λv H'=>∃T',H'=[T']/\v=pT b/\cT b (xs++put x) T':=by
 obtain⟨j,i,rfl,c⟩:=h
 have p:=c.aF
 have m:=ja f
 refine Spec.eg (H':=[bl b [j] 169,i]) (by simp) ?_
 refine Spec.body func23 rfl results23 ntmps23 rfl ?_
 refine .sr<|.ag rfl<|.zs<|.sr<|.mo rfl<|.q (.hN rfl rfl) ?_
 refine .zn<|.jj<|.bN [7,10] mixed ?_
 refine .tK 0 rfl .move<|.tO 1 rfl .move<|.tO 2 rfl (.nilCheck rfl)<|.tO 3 rfl (.fieldAddr rfl)<|.tO 4 rfl (.cj rfl)<|.tO 5 rfl .move ?_
 refine .sT 6 rfl ?_
 refine .bY (CW x f _) (λu k e=>?_)
 have o:=e.aF
 refine .nil (Next.sub ?_)
 refine .sT 7 rfl ?_
 refine .append c e.rx (by simp;omega) (λg a d=>?_)
 have n:=d.aF
 refine .nil (Next.mod rfl ?_)
 refine .tK 8 rfl (.mW rfl) ?_
 refine .tK 9 rfl (.ee rfl) ?_
 refine .sT 10 rfl ?_
 refine .cC rfl rfl ?_
 refine .nil (Next.mod rfl ?_)
 refine RA.nil (by kernel_rfl) ?_
 refine aI<|.sr<|.mo rfl<|.az rfl ?_
 refine .ret (bb _ (.one (.tmp rfl)) ((cw [1,1]).trans (bJ.cW (H':=[(b,.cells [g].toArray 169 (0,0))::a]) (by simp[take,bM,cg]))) ?_)
 ·exact⟨_,rfl,rfl,g,a,rfl,d⟩
theorem nv(b:Nat)(xs:List UInt8)(T:ay)(h:cT b xs T)(v:Value)(l:List UInt8)(R:aC)(c:RS R 1 bZ v l)(r:xs.length+l.length<=1000000000000):Spec prog 27 [pT b,v] R [T] λv H'=>∃T',H'=[T']/\v=pT b/\cT b (xs++ew l) T':=by
 have y:=c.aF
 have s:=ja (x:=l.length) (by unfold bW;omega)
 obtain⟨m,o,j,_⟩:=id h
 have A:PS T (pT b) [m]:=PS.of (E:=169) (fr:=(0,0)) (by rw[j];simp)
 refine Spec.body func27 rfl results27 ntmps27 rfl ?_
 refine .sr<|.ag rfl<|.zs<|.sr<|.mo rfl<|.q (.hN rfl rfl) ?_
 refine .zn<|.jj<|.sr<|.mo rfl<|.mo rfl<|.q (.dw c) ?_
 refine .q (.dQ (a:=l.length) rfl (by unfold bW;omega)) ?_
 refine .aQ (ey b xs T h l.length (by unfold bW;omega) (by omega) _) (λu p k=>?_)
 obtain⟨rfl,n,i,rfl,e⟩:=k
 have t:=e.aF
 refine .zn<|.region ?_
 refine .sub (bJ.open_ (S:=[bl b [n] 169,i]) 0 (by simp)) ?_
 show aH _ _ _ _ _ _ _ [_,_] _
 refine .mo rfl<|.mo rfl<|.nc rfl<|.fa rfl<|.lo rfl<|.mo rfl ?_
 refine .append e c.rx (by simp;omega) (λg d f=>?_)
 have w:=f.aF
 refine .nc rfl<|.fa rfl<|.cC rfl rfl<|.z<|.mo rfl<|.az rfl ?_
 refine .ret (bb _ (.one (.tmp rfl)) ((cw [0,0]).trans (bJ.cW (H':=[(b,.cells [g].toArray 169 (0,0))::d]) (by simp[take,bM,cg]))) ?_)
 ·exact⟨_,rfl,rfl,g,d,rfl,by rw[ew, <-List.append_assoc];exact f⟩
theorem ff(b:Nat)(xs:List UInt8)(T:ay)(h:cT b xs T)(s:ByteArray)(R:aC)(a:(xs++cv s).length<=1000000000000):Spec prog 25 [pT b,.string s] R [T] λv H'=>∃T',H'=[T']/\v=pT b/\cT b (xs++cv s) T':=by
 have i:xs.length+s.data.toList.length<=1000000000000:=by
  unfold cv ew at a
  simp only[acr]at a
  omega
 have k:s.size<=1000000000000:=by
  have:s.data.toList.length=s.size:=by rw[Array.length_toList];rfl
  omega
 refine Spec.body func25 rfl results25 ntmps25 rfl ?_
 refine .sr<|.ag rfl<|.z<|.mo rfl<|.mo rfl ?_
 refine .pz (s:=s) (by unfold maxLen;omega) (λv T' d=>?_)
 refine .qf (nv b xs T h v s.data.toList _ (d.mono λb o f=>.inr (by have g:(b,o)∈T':=f;simp[g])) i) (λu c j=>?_)
 obtain⟨rfl,e⟩:=j
 refine .az rfl ?_
 refine .ret (bb _ (.one (.tmp rfl)) (.one [1] _) ?_)
 ·exact⟨c,by simp[take],rfl,e⟩
theorem CN(b:Nat)(xs:List UInt8)(T:ay)(h:cT b xs T)(f:Bool)(g:xs.length<=1000000000000)(R:aC):Spec prog 29 [pT b,.bool f] R [T] λv H'=>∃T',H'=[T']/\v=pT b/\cT b (xs++lC f) T':=by
 refine Spec.body func29 rfl results29 ntmps29 rfl ?_
 refine .sr<|.ag rfl<|.zs<|.sr<|.mo rfl<|.zn ?_
 refine .cond rfl (λc=>?_) λc=>?_
 refine .sr<|.mo rfl ?_
 refine .aQ (ey b xs T h 1 (by decide) g _) (λu a e=>?_)
 obtain⟨rfl,d⟩:=e
 refine .az rfl ?_
 refine .ret (bq (bb _ (.one (.tmp rfl)) (.one [0] _) ?_))
 ·rw[c]
  exact⟨a,by simp[take],rfl,d⟩
 refine .kn<|.sr<|.mo rfl ?_
 refine .aQ (ey b xs T h 0 (by decide) g _) (λu a e=>?_)
 obtain⟨rfl,d⟩:=e
 refine .az rfl ?_
 refine .ret (bb _ (.one (.tmp rfl)) (.one [0] _) ?_)
 ·rw[c]
  exact⟨a,by simp[take],rfl,d⟩
theorem pN(b:Nat)(xs:List UInt8)(T:ay)(h:cT b xs T)(g:xs.length<=1000000000000)(R:aC)(d:∀p∈T,R p.1 p.2):Spec prog 30 [pT b] R [] λv H'=>∃T',H'=[T']/\OS 5 1 bZ v xs T':=by
 obtain⟨a,k,rfl,c⟩:=h
 have m:=c.aF
 have n:PC R (pT b) [a]:=PC.of (E:=169) (fr:=(0,0)) (d (b,.cells [a].toArray 169 (0,0)) (by simp))
 have j:RS R 1 bZ a xs:=c.rs λp i=>d p (by simp[i])
 refine Spec.body func30 rfl results30 ntmps30 rfl ?_
 refine .sr<|.ag rfl<|.zs<|.sr<|.mo rfl<|.q (.nP rfl rfl) ?_
 refine .zn<|.bB<|.kn<|.sr<|.mo rfl<|.nc rfl<|.fa rfl<|.lo rfl ?_
 refine .bY (mv a xs _ j.rx g) (λu f e=>?_)
 have l:=e.aF
 refine .az rfl ?_
 refine .ret (bb _ (.one (.tmp rfl)) (.one [0] _) ?_)
 ·exact⟨f,by simp[take],e⟩
section
variable{P:Program}{R:aC}{env:Env}{H:aN}{x:Operand}{ty:TypeId}
theorem aV.qb{src dst e:TypeId}{v:Value}{xs:List UInt8}(h:RS (Rx R H) 1 bZ v xs)(y:ev env x=some v:=by rfl) [k:bF P src (.slice e)] [l:bF P e (.int .u8)] [m:bF P dst .string]:aV P R env H (.convert src dst x) ty (.string ⟨xs.toArray⟩):=λa w d I C g t B A=>by
 obtain⟨p,i,rfl,F,G,s⟩:=h.h
 have r:(convert src dst (.slice p xs.length i)).run P w=.ok (.string ⟨xs.toArray⟩) w:=by
  rcases s with rfl|⟨b,z,c,E,D,rfl,n,o⟩
  ·cases p with
   |none=>exact run_convert_bytes_nil (P:=P) (w:=w) src e k.h l.h _ _ dst m.h
   |some q=>exact run_convert_bytes_back w src dst e q i [] k.h l.h m.h (λj f=>by simp at f)
  ·have u:=kB B A b _ n
   refine run_convert_bytes_back w src dst e ⟨b,z,none⟩ i xs k.h l.h m.h (λj f=>?_)
   have:=o j (by rw[mM,List.length_map];exact f)
   rw[mM,List.getElem?_map,aE f]at this
   rw[kT]
   simpa[World.cell?,u]using this
 simp[execOp,t.eval y,r]
end
theorem RS.ju{R:aC}:RS R 1 bZ (sZ) []:=⟨by simp,by simp,none,0,rfl,Nat.le_refl _,aco _,.inl rfl⟩
def dp(b:Nat)(s:Option (List UInt8))(T:ay):Prop:=∃v e Tb,T=(b,.cells [v,.int .i64 e,.bool true].toArray 171 (0,0))::Tb/\RS (sg Tb) 1 bZ v (s.getD [])/\(e=0↔s.isSome=true)
theorem dp.read{b:Nat}{s:Option (List UInt8)}{T:ay}(h:dp b s T):∃v e,PS T (pT b) [v,.int .i64 e,.bool true]/\(e=0↔s.isSome=true):=by
 obtain⟨v,e,c,rfl,_,a⟩:=h
 exact⟨v,e,PS.of (E:=171) (fr:=(0,0)) (by simp),a⟩
theorem BJ(v:Value)(xs:List UInt8)(R:aC)(h:RS R 1 bZ v xs)(e:xs.length<=1000000000000):Spec prog 31 [v] R [] λu H'=>∃T,H'=[T]/\∃b,u=pT b/\dp b (some xs) T:=by
 have i:=h.aF
 refine Spec.body func31 rfl results31 ntmps31 rfl ?_
 refine .sr<|.ag rfl<|.z<|.mo rfl ?_
 refine .bY (mv v xs _ h.rx e) (λu a c=>?_)
 obtain⟨g,f,rfl,_⟩:=c.shape
 refine .q .ek ?_
 refine .cQ rfl (λd=>?_)
 refine .az rfl ?_
 refine .ret (bb _ (.one (.tmp rfl)) (bJ.cW (H':=[(d,.cells [.slice g xs.length f,.int .i64 0,.bool true].toArray 171 (0,0))::a]) (by simp[cg])) ?_)
 ·exact⟨_,rfl,_,rfl,_,0,a,rfl,c.sg,by simp⟩
theorem iI(b:Nat)(v:Value)(e:Int)(R:aC) [pc:PC R (pT b) [v,.int .i64 e,.bool true]]:Spec prog 98 [pT b] R [] λu H'=>u=.int .i64 e/\H'=[]:=by
 refine Spec.body func98 rfl results98 ntmps98 rfl ?_
 refine .sr<|.ag rfl<|.zs<|.sr<|.mo rfl<|.q (.nP rfl rfl) ?_
 refine .mo rfl<|.gt rfl ?_
 refine .mo rfl<|.gt rfl ?_
 refine .nc rfl<|.gt rfl ?_
 refine .fa rfl<|.gt rfl ?_
 refine .lo rfl<|.gt rfl ?_
 refine .q .not<|.q .iE<|.zn<|.bB<|.kn<|.sr<|.mo rfl<|.nc rfl<|.fa rfl<|.lo rfl<|.az rfl ?_
 refine .ret (cf rfl ?_)
 ·exact⟨rfl,rfl⟩
theorem lG(b:Nat)(v:Value)(e d:Int)(R:aC):Spec prog 99 [pT b,.int .i64 d] R [bl b [v,.int .i64 e,.bool true] 171] λu H'=>∃T',H'=[T']/\T'=(bl b [sZ,.int .i64 (if e=0 then d else e),.bool true] 171):=by
 refine Spec.body func99 rfl results99 ntmps99 rfl ?_
 refine .seq<|.sr<|.mo rfl<|.nc rfl<|.fa rfl<|.lo rfl<|.q .cL<|.zn ?_
 refine .cond rfl (λa=>?_) λa=>?_
 refine .region<|.mo rfl<|.mo rfl<|.nc rfl<|.fa rfl<|.cC rfl rfl<|.zn<|.region<|.mo rfl<|.nc rfl<|.fa rfl<|.cC rfl rfl<|.nil<|cz _ .none (.one [0] _) ?_
 ·have c:e=0:=by simpa using a
  exact⟨_,rfl,by rw[aci c];rfl⟩
 refine .kn<|.region<|.mo rfl<|.nc rfl<|.fa rfl<|.cC rfl rfl<|.nil<|cz _ .none (.one [0] _) ?_
 ·have c:¬e=0:=by simpa using a
  exact⟨_,rfl,by rw[if_neg c];rfl⟩
theorem qK{xs:List UInt8}{i:Nat}{c:UInt8}(h:xs[i]? =some c):xs.drop i=c::xs.drop (i+1):=by
 obtain⟨a,rfl⟩:=List.getElem?_eq_some_iff.1 h
 exact List.drop_eq_getElem_cons a
theorem pA{c:UInt8}(h:128<=c.toNat):IntKind.u8.wrap ((c.toNat:Int)-128)=((c.toNat-128:Nat):Int):=by
 have:=c.toNat_lt
 simp[IntKind.wrap,IntKind.bits,IntKind.signed]
 omega
theorem jy{x a i:Nat}(c:x<2^(7*i))(b:a*2^(7*i)<bW):x|||a*2^(7*i) % bW=x+2^(7*i)*a:=by
 rw[Nat.mod_eq_of_lt b,Nat.or_comm,Bi c,Nat.mul_comm]
 omega
theorem lB{i:Nat}(h:i<=8):2^(7*i)<=72057594037927936:=Nat.le_trans (acs (by decide) (show 7*i<=56 by omega)) (by decide)
theorem A0(v:Value)(xs:List UInt8)(R:aC)(h:RS R 1 bZ v xs):Spec prog 100 [v] R [] λu H'=>(∃(x n:Nat) (e:Int),u=.tuple [.int .u64 (x:Nat),iN n,.int .i64 e].toArray/\((e=0/\n<=xs.length/\fk xs=some (x,xs.drop n))\/(e≠0/\fk xs=none)))/\H'=[]:=by
  have T:=h.aF
  have S:=h.le
  refine Spec.body func100 rfl results100 ntmps100 rfl ?_
  refine .sr<|.ag rfl<|.ag rfl<|.ag rfl<|.z<|.ag rfl<|.zs<|.sr<|.mo rfl<|.q (.dw h) ?_
  refine .mo rfl<|.zn<|.block ?_
  refine .loop (X:=Nat×Nat) (λy=>y.2<=xs.length/\y.2<=9/\y.1<2^(7*y.2)/\fk xs=(jD y.2 (xs.drop y.2)).map λp=>(y.1+2^(7*y.2)*p.1,p.2)) (λy=>[(5,.int .u64 (y.1:Nat)),(8,v),(9,iN xs.length),(10,iN y.2)]) (λ_=>[]) (λy=>xs.length-y.2) (0,0) ⟨aco _,aco _,by decide,by simp[fk]⟩ kE.c.c.c.c rH ?_
  rintro⟨x,i⟩ ⟨N,O,w,b⟩
  simp only at N O w b⊢
  refine .sr<|.q .lss<|.zs ?_
  refine .cond rfl (λI=>?_) λI=>?_
  have j:i<xs.length:=cO I
  obtain⟨c,L⟩:=eo j
  have Q:=c.toNat_lt
  rw[qK L]at b
  unfold jD at b
  refine .kn<|.seq<|.block<|.sr<|.mo rfl ?_
  refine .dm i h L (λU=>?_)
  refine .lo rfl<|.ag rfl<|.az rfl<|.block<|.sr<|.mo rfl<|.q .cL<|.mo rfl ?_
  refine .split (t:=27) rfl (λo=>?_) (λo=>?_)
  ·exfalso;have f:(i:Int)=10:=by simpa using o
   omega
  refine .gT o<|.mo rfl<|.gT o<|.q .cL<|.gT o<|.mo rfl ?_
  refine .split (t:=30) rfl (λl=>?_) (λl=>?_)
  refine .gT l<|.mo rfl<|.gT l<|.q .gtr<|.gT o<|.q (.bX l) ?_
  refine .q (.bU o) ?_
  refine .az rfl ?_
  refine .cond rfl (λH=>?_) λH=>?_
  have F:i=9/\1<c.toNat:=by
    refine⟨?_,?_⟩
    ·have f:(i:Int)=9:=by simpa using l
     omega
    ·have f:=bp H
     omega
  rw[aci F]at b
  refine .sr<|.ag rfl<|.ag rfl<|.az rfl ?_
  refine .ret (bu (bu (bq (cH (bu (bq (bb _ (.three (.tmp rfl) (.tmp rfl) (.tmp rfl)) (.none _) ?_)))))))
  ·first
      |exact⟨⟨0,0,_,rfl,.inr ⟨by decide,A⟩⟩,rfl⟩
      |exact⟨⟨0,0,_,rfl,.inr ⟨by decide,b⟩⟩,rfl⟩
      |exact⟨⟨x+2^(7*i)*c.toNat,i+1,0,rfl,.inl ⟨rfl,j,b⟩⟩,rfl⟩
  have F:¬(i=9/\1<c.toNat):=by
    rintro⟨C,f⟩
    first
      |(have g:=bc H;omega)
      |(have g:¬(i:Int)=9:=by simpa using l
        omega)
  rw[if_neg F]at b
  refine .sr<|.mo rfl<|.q .geq<|.az rfl ?_
  refine .cond rfl (λB=>?_) λB=>?_
  have E:128<=c.toNat:=by have:=bp B;omega
  have D:i<=8:=by omega
  have J:=lB D
  have s:(c.toNat-128)*2^(7*i)<bW:=ack (acp (show c.toNat-128<=127 by omega) J) (by decide)
  rw[aci E]at b
  refine .region<|.mo rfl<|.mo rfl<|.q (aV.cast (v':=.int .u8 ((c.toNat-128:Nat):Int)) (.sub rfl rfl) (acj (Value.int .u8) (pA E))) ?_
  refine .q (.dQ (a:=c.toNat-128) rfl (by unfold bW;omega)) ?_
  refine .mo rfl ?_
  refine .ia (7*i) .mul ?_
  refine .q (.jH (a:=c.toNat-128) (n:=7*i) rfl rfl (by omega)) ?_
  refine .q (.jx rfl rfl (by unfold bW;omega) (acm _ (by decide))) ?_
  rw[jy w s]
  refine .ag rfl<|.nil<|bg<|bg<|aI<|.region ?_
  refine .ia (i+1) .add ?_
  refine .mo rfl<|.nil ?_
  ·exact aS (x+2^(7*i)*(c.toNat-128),i+1) ⟨j,by simp only;omega,by
      simp only
      rw[show 7*(i+1)=7*i+7 by omega,Nat.pow_add]
      have C:2^(7*i)*(c.toNat-128)<=2^(7*i)*127:=Nat.mul_le_mul_left _ (by omega)
      generalize 2^(7*i)=m at *
      generalize m*(c.toNat-128)=q at *
      omega,by
      simp only
      rw[b,Option.map_map]
      congr 1
      funext p
      simp only[Function.comp,Prod.mk.injEq,and_true]
      rw[show 7*(i+1)=7*i+7 by omega,Nat.pow_add,Nat.mul_add,Nat.add_assoc,Nat.mul_assoc]⟩ (by simp only;omega) kE.c.c.c.c rH
  have K:¬128<=c.toNat:=by have:=bc B;omega
  rw[if_neg K]at b
  have s:c.toNat*2^(7*i)<bW:=by
    by_cases D:i<=8
    ·exact ack (acp (show c.toNat<=127 by omega) (lB D)) (by decide)
    ·have:i=9:=by omega
     subst this
     exact ack (Nat.mul_le_mul_right _ (show c.toNat<=1 by omega)) (by decide)
  have G:x<bW:=Nat.lt_of_lt_of_le w (Nat.le_trans (acs (by decide) (show 7*i<=63 by omega)) (by decide))
  refine .sr<|.mo rfl<|.q .cL<|.mo rfl ?_
  refine .split (t:=49) rfl (λd=>?_) (λd=>?_)
  refine .gT d<|.mo rfl<|.gT d<|.q .gtr<|.q (.bX d) ?_
  refine .az rfl ?_
  refine .cond rfl (λr=>?_) λr=>?_
  have k:c.toNat=0/\0<i:=by
    refine⟨?_,?_⟩
    ·have f:(c.toNat:Int)=0:=by simpa using d
     omega
    ·have f:=bp r
     omega
  rw[aci k]at b
  refine .sr<|.ag rfl<|.ag rfl<|.az rfl ?_
  refine .ret (bu (bu (bq (cH (bu (bq (bb _ (.three (.tmp rfl) (.tmp rfl) (.tmp rfl)) (.none _) ?_)))))))
  ·first
      |exact⟨⟨0,0,_,rfl,.inr ⟨by decide,A⟩⟩,rfl⟩
      |exact⟨⟨0,0,_,rfl,.inr ⟨by decide,b⟩⟩,rfl⟩
      |exact⟨⟨x+2^(7*i)*c.toNat,i+1,0,rfl,.inl ⟨rfl,j,b⟩⟩,rfl⟩
  have k:¬(c.toNat=0/\0<i):=by
    rintro⟨C,f⟩
    first
      |(have g:=bc r;omega)
      |(have g:¬(c.toNat:Int)=0:=by simpa using d
        omega)
  rw[if_neg k]at b
  refine .sr<|.mo rfl<|.mo rfl ?_
  refine .q (.dQ (a:=c.toNat) rfl (by unfold bW;omega)) ?_
  refine .mo rfl ?_
  refine .ia (7*i) .mul ?_
  refine .q (.jH (a:=c.toNat) (n:=7*i) rfl rfl (by omega)) ?_
  refine .q (.jx rfl rfl G (acm _ (by decide))) ?_
  rw[jy w s]
  refine .mo rfl ?_
  refine .ia (i+1) .add ?_
  refine .ag rfl<|.ag rfl<|.az rfl ?_
  refine .ret (bu (bu (bq (cH (bu (bq (bb _ (.three (.tmp rfl) (.tmp rfl) (.tmp rfl)) (.none _) ?_)))))))
  ·first
      |exact⟨⟨0,0,_,rfl,.inr ⟨by decide,A⟩⟩,rfl⟩
      |exact⟨⟨0,0,_,rfl,.inr ⟨by decide,b⟩⟩,rfl⟩
      |exact⟨⟨x+2^(7*i)*c.toNat,i+1,0,rfl,.inl ⟨rfl,j,b⟩⟩,rfl⟩
  refine .gF d<|.gF d<|.q (.bU d) ?_
  refine .az rfl<|.bB ?_
  have k:¬(c.toNat=0/\0<i):=by
    rintro⟨C,f⟩
    first
      |(have g:=bc r;omega)
      |(have g:¬(c.toNat:Int)=0:=by simpa using d
        omega)
  rw[if_neg k]at b
  refine .sr<|.mo rfl<|.mo rfl ?_
  refine .q (.dQ (a:=c.toNat) rfl (by unfold bW;omega)) ?_
  refine .mo rfl ?_
  refine .ia (7*i) .mul ?_
  refine .q (.jH (a:=c.toNat) (n:=7*i) rfl rfl (by omega)) ?_
  refine .q (.jx rfl rfl G (acm _ (by decide))) ?_
  rw[jy w s]
  refine .mo rfl ?_
  refine .ia (i+1) .add ?_
  refine .ag rfl<|.ag rfl<|.az rfl ?_
  refine .ret (bu (bu (bq (cH (bu (bq (bb _ (.three (.tmp rfl) (.tmp rfl) (.tmp rfl)) (.none _) ?_)))))))
  ·first
      |exact⟨⟨0,0,_,rfl,.inr ⟨by decide,A⟩⟩,rfl⟩
      |exact⟨⟨0,0,_,rfl,.inr ⟨by decide,b⟩⟩,rfl⟩
      |exact⟨⟨x+2^(7*i)*c.toNat,i+1,0,rfl,.inl ⟨rfl,j,b⟩⟩,rfl⟩
  refine .gF l<|.gF l<|.gT o<|.q (.bU l) ?_
  refine .q (.bU o) ?_
  refine .az rfl<|.bB ?_
  have F:¬(i=9/\1<c.toNat):=by
    rintro⟨C,f⟩
    first
      |(have g:=bc H;omega)
      |(have g:¬(i:Int)=9:=by simpa using l
        omega)
  rw[if_neg F]at b
  refine .sr<|.mo rfl<|.q .geq<|.az rfl ?_
  refine .cond rfl (λB=>?_) λB=>?_
  have E:128<=c.toNat:=by have:=bp B;omega
  have D:i<=8:=by omega
  have J:=lB D
  have s:(c.toNat-128)*2^(7*i)<bW:=ack (acp (show c.toNat-128<=127 by omega) J) (by decide)
  rw[aci E]at b
  refine .region<|.mo rfl<|.mo rfl<|.q (aV.cast (v':=.int .u8 ((c.toNat-128:Nat):Int)) (.sub rfl rfl) (acj (Value.int .u8) (pA E))) ?_
  refine .q (.dQ (a:=c.toNat-128) rfl (by unfold bW;omega)) ?_
  refine .mo rfl ?_
  refine .ia (7*i) .mul ?_
  refine .q (.jH (a:=c.toNat-128) (n:=7*i) rfl rfl (by omega)) ?_
  refine .q (.jx rfl rfl (by unfold bW;omega) (acm _ (by decide))) ?_
  rw[jy w s]
  refine .ag rfl<|.nil<|bg<|bg<|aI<|.region ?_
  refine .ia (i+1) .add ?_
  refine .mo rfl<|.nil ?_
  ·exact aS (x+2^(7*i)*(c.toNat-128),i+1) ⟨j,by simp only;omega,by
      simp only
      rw[show 7*(i+1)=7*i+7 by omega,Nat.pow_add]
      have C:2^(7*i)*(c.toNat-128)<=2^(7*i)*127:=Nat.mul_le_mul_left _ (by omega)
      generalize 2^(7*i)=m at *
      generalize m*(c.toNat-128)=q at *
      omega,by
      simp only
      rw[b,Option.map_map]
      congr 1
      funext p
      simp only[Function.comp,Prod.mk.injEq,and_true]
      rw[show 7*(i+1)=7*i+7 by omega,Nat.pow_add,Nat.mul_add,Nat.add_assoc,Nat.mul_assoc]⟩ (by simp only;omega) kE.c.c.c.c rH
  have K:¬128<=c.toNat:=by have:=bc B;omega
  rw[if_neg K]at b
  have s:c.toNat*2^(7*i)<bW:=by
    by_cases D:i<=8
    ·exact ack (acp (show c.toNat<=127 by omega) (lB D)) (by decide)
    ·have:i=9:=by omega
     subst this
     exact ack (Nat.mul_le_mul_right _ (show c.toNat<=1 by omega)) (by decide)
  have G:x<bW:=Nat.lt_of_lt_of_le w (Nat.le_trans (acs (by decide) (show 7*i<=63 by omega)) (by decide))
  refine .sr<|.mo rfl<|.q .cL<|.mo rfl ?_
  refine .split (t:=49) rfl (λd=>?_) (λd=>?_)
  refine .gT d<|.mo rfl<|.gT d<|.q .gtr<|.q (.bX d) ?_
  refine .az rfl ?_
  refine .cond rfl (λr=>?_) λr=>?_
  have k:c.toNat=0/\0<i:=by
    refine⟨?_,?_⟩
    ·have f:(c.toNat:Int)=0:=by simpa using d
     omega
    ·have f:=bp r
     omega
  rw[aci k]at b
  refine .sr<|.ag rfl<|.ag rfl<|.az rfl ?_
  refine .ret (bu (bu (bq (cH (bu (bq (bb _ (.three (.tmp rfl) (.tmp rfl) (.tmp rfl)) (.none _) ?_)))))))
  ·first
      |exact⟨⟨0,0,_,rfl,.inr ⟨by decide,A⟩⟩,rfl⟩
      |exact⟨⟨0,0,_,rfl,.inr ⟨by decide,b⟩⟩,rfl⟩
      |exact⟨⟨x+2^(7*i)*c.toNat,i+1,0,rfl,.inl ⟨rfl,j,b⟩⟩,rfl⟩
  have k:¬(c.toNat=0/\0<i):=by
    rintro⟨C,f⟩
    first
      |(have g:=bc r;omega)
      |(have g:¬(c.toNat:Int)=0:=by simpa using d
        omega)
  rw[if_neg k]at b
  refine .sr<|.mo rfl<|.mo rfl ?_
  refine .q (.dQ (a:=c.toNat) rfl (by unfold bW;omega)) ?_
  refine .mo rfl ?_
  refine .ia (7*i) .mul ?_
  refine .q (.jH (a:=c.toNat) (n:=7*i) rfl rfl (by omega)) ?_
  refine .q (.jx rfl rfl G (acm _ (by decide))) ?_
  rw[jy w s]
  refine .mo rfl ?_
  refine .ia (i+1) .add ?_
  refine .ag rfl<|.ag rfl<|.az rfl ?_
  refine .ret (bu (bu (bq (cH (bu (bq (bb _ (.three (.tmp rfl) (.tmp rfl) (.tmp rfl)) (.none _) ?_)))))))
  ·first
      |exact⟨⟨0,0,_,rfl,.inr ⟨by decide,A⟩⟩,rfl⟩
      |exact⟨⟨0,0,_,rfl,.inr ⟨by decide,b⟩⟩,rfl⟩
      |exact⟨⟨x+2^(7*i)*c.toNat,i+1,0,rfl,.inl ⟨rfl,j,b⟩⟩,rfl⟩
  refine .gF d<|.gF d<|.q (.bU d) ?_
  refine .az rfl<|.bB ?_
  have k:¬(c.toNat=0/\0<i):=by
    rintro⟨C,f⟩
    first
      |(have g:=bc r;omega)
      |(have g:¬(c.toNat:Int)=0:=by simpa using d
        omega)
  rw[if_neg k]at b
  refine .sr<|.mo rfl<|.mo rfl ?_
  refine .q (.dQ (a:=c.toNat) rfl (by unfold bW;omega)) ?_
  refine .mo rfl ?_
  refine .ia (7*i) .mul ?_
  refine .q (.jH (a:=c.toNat) (n:=7*i) rfl rfl (by omega)) ?_
  refine .q (.jx rfl rfl G (acm _ (by decide))) ?_
  rw[jy w s]
  refine .mo rfl ?_
  refine .ia (i+1) .add ?_
  refine .ag rfl<|.ag rfl<|.az rfl ?_
  refine .ret (bu (bu (bq (cH (bu (bq (bb _ (.three (.tmp rfl) (.tmp rfl) (.tmp rfl)) (.none _) ?_)))))))
  ·first
      |exact⟨⟨0,0,_,rfl,.inr ⟨by decide,A⟩⟩,rfl⟩
      |exact⟨⟨0,0,_,rfl,.inr ⟨by decide,b⟩⟩,rfl⟩
      |exact⟨⟨x+2^(7*i)*c.toNat,i+1,0,rfl,.inl ⟨rfl,j,b⟩⟩,rfl⟩
  have A:fk xs=none:=by
    have M:i=xs.length:=by have:=bc I;omega
    rw[b,M,List.drop_length];rfl
  refine .exit<|aT<|aW<|aU<|aI<|.sr<|.ag rfl<|.ag rfl<|.az rfl ?_
  refine .ret (bb _ (.three (.tmp rfl) (.tmp rfl) (.tmp rfl)) (.none _) ?_)
  ·first
      |exact⟨⟨0,0,_,rfl,.inr ⟨by decide,A⟩⟩,rfl⟩
      |exact⟨⟨0,0,_,rfl,.inr ⟨by decide,b⟩⟩,rfl⟩
      |exact⟨⟨x+2^(7*i)*c.toNat,i+1,0,rfl,.inl ⟨rfl,j,b⟩⟩,rfl⟩
theorem lK(b:Nat)(s:Option (List UInt8))(T:ay)(h:dp b s T)(R:aC):Spec prog 33 [pT b] R [T] λu H'=>∃T',H'=[T']/\∃(x:Nat) (s':Option (List UInt8)),u=.int .u64 (x:Nat)/\x<bW/\dp b s' T'/\s.bind fk=s'.map λr=>(x,r):=by
 have A:=h
 obtain⟨v,e,c,rfl,i,t⟩:=h
 have F:=i.aF
 have B:=i.le
 refine Spec.eg (H':=[bl b [v,.int .i64 e,.bool true] 171,c]) (by simp) ?_
 refine Spec.body func33 rfl results33 ntmps33 rfl ?_
 refine .sr<|.ag rfl<|.zs<|.sr<|.mo rfl ?_
 refine .bx (iI b v e _) (λu j=>?_)
 subst j
 refine .q .eS<|.zn ?_
 refine .cond rfl (λm=>?_) λm=>?_
 have g:e≠0:=by simpa using m
 have w:s=none:=by
  cases s with
  |none=>rfl
  |some a=>exact absurd (t.2 rfl) g
 refine .sr<|.az rfl ?_
 refine .ret (bq (bb _ (.one (.tmp rfl)) (bJ.cW (H':=[(b,.cells [v,.int .i64 e,.bool true].toArray 171 (0,0))::c]) (by simp)) ?_))
 ·subst w
  exact⟨_,rfl,0,none,rfl,by decide,A,rfl⟩
 have g:e=0:=by simpa using m
 obtain⟨a,rfl⟩:=acn.1 (t.1 g)
 simp only[acq]at i B
 refine .kn<|.sr<|.mo rfl<|.nc rfl<|.fa rfl<|.lo rfl ?_
 refine .bx (A0 v a _ i.pb) (λu j=>?_)
 obtain⟨x,n,f,rfl,y⟩:=j
 refine .mo rfl<|.q .extract<|.q .extract<|.q .extract<|.ag rfl<|.ag rfl<|.ag rfl<|.zs<|.sr<|.mo rfl<|.q .eS<|.zn ?_
 refine .cond rfl (λo=>?_) λo=>?_
 have k:f≠0:=by simpa using o
 have l:fk a=none:=by
  rcases y with⟨d,_⟩|⟨_,d⟩
  ·exact absurd d k
  ·exact d
 refine .sr<|.mo rfl<|.mo rfl ?_
 refine .aQ (lG b v e f _) (λu E j=>?_)
 subst j
 refine .z<|.az rfl ?_
 refine .ret (bq (bb _ (.one (.tmp rfl)) (bJ.cW (H':=[(b,.cells [sZ,.int .i64 (if e=0 then f else e),.bool true].toArray 171 (0,0))::c]) (by simp)) ?_))
 ·refine⟨_,rfl,0,none,rfl,by decide,⟨_,_,c,rfl,RS.ju,?_⟩,by simp[l]⟩
  rw[aci g];simp[k]
 have k:f=0:=by simpa using o
 obtain⟨w,l⟩:n<=a.length/\fk a=some (x,a.drop n):=by
  rcases y with⟨_,d⟩|⟨d,_⟩
  ·exact d
  ·exact absurd k d
 have C:=((lc.h a x (a.drop n)).1 l).2
 refine .kn<|.sr<|.mo rfl<|.mo rfl<|.nc rfl<|.fa rfl<|.lo rfl<|.mo rfl ?_
 refine .jI (R':=sg c) n a.length i ⟨_,rfl⟩ rfl (by omega) (by omega) (λD p=>?_)
 have G:=p.aF
 have f:(a.drop n).take (a.length-n)=a.drop n:=List.take_of_length_le (by simp)
 rw[f]at p
 refine .nc rfl<|.fa rfl<|.cC rfl rfl<|.z<|.mo rfl<|.az rfl ?_
 refine .ret (bb _ (.one (.tmp rfl)) (bJ.cW (H':=[(b,.cells [D,.int .i64 e,.bool true].toArray 171 (0,0))::c]) (by simp[cg])) ?_)
 ·exact⟨_,rfl,x,some (a.drop n),rfl,C,⟨_,_,c,rfl,p,by simp[g]⟩,by simp[l]⟩
theorem oX{s a:Option (List UInt8)}{x m:Nat}(h:s.bind fk=a.map λr=>(x,r)):s.bind (fM m)=a.bind λr=>if x<=m then some (x,r)else none:=by
 unfold fM lE
 rw[cU h]
 cases a<;>simp
theorem kz(b:Nat)(s:Option (List UInt8))(T:ay)(h:dp b s T)(m:Nat)(H:m<=9223372036854775807)(R:aC):Spec prog 32 [pT b,iN m] R [T] λu H'=>∃T',H'=[T']/\∃(x:Nat) (s':Option (List UInt8)),u=iN x/\x<=m/\dp b s' T'/\s.bind (fM m)=s'.map λr=>(x,r):=by
 refine Spec.body func32 rfl results32 ntmps32 rfl ?_
 refine .sr<|.ag rfl<|.z<|.mo rfl ?_
 refine .aQ (lK b s T h _) (λu f d=>?_)
 obtain⟨x,A,rfl,F,p,D⟩:=d
 have n:=oX (m:=m) D
 have G:=F
 unfold bW at G
 have o:=p
 obtain⟨v,e,j,w,I,y⟩:=p
 have pT:PS f (pT b) [v,.int .i64 e,.bool true]:=PS.of (E:=171) (fr:=(0,0)) (by rw[w];simp)
 refine .ag rfl<|.zs<|.sr<|.mo rfl ?_
 refine .bx (iI b v e _) (λu d=>?_)
 subst d
 refine .q .eS<|.zn ?_
 refine .cond rfl (λk=>?_) λk=>?_
 have i:e≠0:=by simpa using k
 have C:A=none:=by
  cases A with
  |none=>rfl
  |some B=>exact absurd (y.2 rfl) i
 refine .sr<|.az rfl ?_
 refine .ret (bq (bb _ (.one (.tmp rfl)) (.one [0] _) ?_))
 ·subst C
  exact⟨f,by simp[take],0,none,rfl,aco _,o,by rw[n];rfl⟩
 have i:e=0:=by simpa using k
 obtain⟨B,rfl⟩:=acn.1 (y.1 i)
 refine .kn<|.seq<|.sr<|.mo rfl<|.q .lss<|.mo rfl ?_
 refine .split (t:=13) rfl (λc=>?_) (λc=>?_)
 ·exfalso;have:=bp c;omega
 refine .gT c<|.mo rfl<|.gT c<|.mo rfl<|.gT c ?_
 refine .q (.dQ (a:=m) rfl (by unfold bW;omega)) ?_
 refine .gT c<|.q .gtr<|.q (.bU c) ?_
 refine .zn ?_
 refine .cond rfl (λl=>?_) λl=>?_
 have g:¬x<=m:=by have:=bp l;omega
 refine .sr ?_
 subst w
 refine .sub (bJ.open_ (S:=[bl b [v,.int .i64 e,.bool true] 171,j]) 0 (by simp)) ?_
 show aH _ _ _ _ _ _ _ [_,_] _
 refine .mo rfl ?_
 refine .aQ (lG b v e 5 _) (λu f d=>?_)
 subst d
 refine .z<|.az rfl ?_
 refine .ret (bq (bb _ (.one (.tmp rfl)) (bJ.cW (H':=[(b,.cells [sZ,.int .i64 (if e=0 then 5 else e),.bool true].toArray 171 (0,0))::j]) (by simp)) ?_))
 ·refine⟨_,rfl,0,none,rfl,aco _,⟨_,_,j,rfl,RS.ju,?_⟩,by rw[n];simp[g]⟩
  rw[aci i];simp
 have g:x<=m:=by have:=bc l;omega
 refine .kn<|.sr<|.mo rfl ?_
 refine .q (aV.cast (v':=iN x) (.dT) (acj (Value.int .i64) (IntWalk.i64_in _ (by omega)))) ?_
 refine .az rfl ?_
 refine .ret (bb _ (.one (.tmp rfl)) (.one [0] _) ?_)
 ·exact⟨f,by simp[take],x,some B,rfl,g,o,by rw[n];simp[g]⟩
theorem BA{s a:Option (List UInt8)}{n:Nat}(h:s.bind (fM 2147483647)=a.map λr=>(n,r)):s.bind iG=a.bind λr=>if n<=r.length then some (r.take n,r.drop n)else none:=by
 unfold iG
 exact cU h _
theorem m1(b:Nat)(s:Option (List UInt8))(T:ay)(h:dp b s T)(I:∀xs,s=some xs->xs.length<=1000000000)(R:aC):Spec prog 37 [pT b] R [T] λu H'=>∃T' T2,H'=[T',T2]/\∃(l:List UInt8) (s':Option (List UInt8)),OS 5 1 bZ u l T2/\dp b s' T'/\s.bind iG=s'.map λr=>(l,r):=by
 refine Spec.eg (H':=[T,[]]) (by simp) ?_
 refine Spec.body func37 rfl results37 ntmps37 rfl ?_
 refine .sr<|.ag rfl<|.z<|.mo rfl ?_
 refine .aQ (kz b s T h 2147483647 (by decide) _) (λu p f=>?_)
 obtain⟨n,C,rfl,A,w,g⟩:=f
 have m:=BA g
 have G:=w
 obtain⟨v,e,a,x,c,y⟩:=w
 have pT:PS p (pT b) [v,.int .i64 e,.bool true]:=PS.of (E:=171) (fr:=(0,0)) (by rw[x];simp)
 have M:=c.aF
 have H:=c.le
 refine .ag rfl<|.zs<|.sr<|.mo rfl ?_
 refine .bx (iI b v e _) (λu f=>?_)
 subst f
 refine .q .eS<|.zn ?_
 refine .cond rfl (λi=>?_) λi=>?_
 have d:e≠0:=by simpa using i
 have A:C=none:=by
  cases C with
  |none=>rfl
  |some xs=>exact absurd (y.2 rfl) d
 refine .sr<|.az rfl ?_
 refine .ret (bq (bb _ (.one (.tmp rfl)) rH ?_))
 ·subst A
  exact⟨_,_,rfl,[],none,OS.nil,G,by rw[m];rfl⟩
 have d:e=0:=by simpa using i
 obtain⟨xs,rfl⟩:=acn.1 (y.1 d)
 simp only[acq]at c H
 have L:xs.length<=1000000000:=by
  cases s with
  |none=>simp at g
  |some ys=>
   simp only[Option.bind_some,Option.map_some]at g
   obtain⟨rfl,_⟩:=((gY _).h ys n xs).1 g
   have:=I _ rfl
   rw[acr]at this
   omega
 refine .kn<|.seq<|.sr ?_
 subst x
 refine .sub (bJ.open_ (S:=[bl b [v,.int .i64 e,.bool true] 171,a]) 0 (by simp)) ?_
 show aH _ _ _ _ _ _ _ [_,_,_] _
 refine .mo rfl<|.mo rfl<|.nc rfl<|.fa rfl<|.lo rfl<|.q (.dw c) ?_
 refine .q .gtr<|.zn ?_
 refine .cond rfl (λj=>?_) λj=>?_
 have k:¬n<=xs.length:=by have:=bp j;omega
 refine .sr<|.mo rfl ?_
 refine .aQ (lG b v e 3 _) (λu p f=>?_)
 subst f
 refine .z<|.az rfl ?_
 refine .ret (bq (bb _ (.one (.tmp rfl)) (bJ.cW (H':=[(b,.cells [sZ,.int .i64 (if e=0 then 3 else e),.bool true].toArray 171 (0,0))::a,[]]) (by simp)) ?_))
 ·refine⟨_,_,rfl,[],none,OS.nil,⟨_,_,a,rfl,RS.ju,?_⟩,by rw[m];simp[k]⟩
  rw[aci d];simp
 have k:n<=xs.length:=by have:=bc j;omega
 refine .kn<|.sr<|.mo rfl<|.nc rfl<|.fa rfl<|.lo rfl<|.mo rfl ?_
 refine .jI (R':=sg a) 0 n c rfl ⟨_,rfl⟩ (by omega) (by omega) (λJ B=>?_)
 have N:=B.aF
 refine .bY (mv J _ _ B.pb (by simp;omega)) (λU D t=>?_)
 have O:=t.aF
 refine .ag rfl<|.z<|.mo rfl<|.mo rfl<|.nc rfl<|.fa rfl<|.lo rfl<|.mo rfl ?_
 refine .jI (R':=sg a) n xs.length c ⟨_,rfl⟩ rfl (by omega) (by omega) (λK o=>?_)
 have Q:=o.aF
 have F:(xs.drop n).take (xs.length-n)=xs.drop n:=List.take_of_length_le (by simp)
 rw[F]at o
 refine .nc rfl<|.fa rfl<|.cC rfl rfl<|.z<|.mo rfl<|.az rfl ?_
 refine .ret (bb _ (.one (.tmp rfl)) ((cw [1,1,0]).trans (bJ.cW (H':=[(b,.cells [K,.int .i64 e,.bool true].toArray 171 (0,0))::a,D]) (by simp[take,bM,cg]))) ?_)
 ·refine⟨_,_,rfl,xs.take n,some (xs.drop n),?_,⟨_,_,a,rfl,o,by simp[d]⟩,by rw[m];simp[k]⟩
  simpa using t
theorem fe(b:Nat)(s:Option (List UInt8))(T:ay)(h:dp b s T)(f:∀xs,s=some xs->xs.length<=1000000000)(R:aC):Spec prog 35 [pT b] R [T] λu H'=>∃T',H'=[T']/\∃(a:ByteArray) (s':Option (List UInt8)),u=.string a/\dp b s' T'/\s.bind dG=s'.map λr=>(a,r):=by
 refine Spec.body func35 rfl results35 ntmps35 rfl ?_
 refine .sr<|.ag rfl<|.z<|.mo rfl ?_
 refine .call [0] (m1 b s T h f _) (λu H' i=>?_)
 obtain⟨c,k,rfl,l,j,d,e,g⟩:=i
 conv=>arg 8;simp only[rest,bM,List.cons_append,List.nil_append]
 refine .q (.qb d.rx) ?_
 refine .az rfl ?_
 refine .ret (bb _ (.one (.tmp rfl)) (.one [0] _) ?_)
 ·refine⟨c,by simp[take],_,j,rfl,e,?_⟩
  unfold dG
  rw[cU g,jS]
theorem Bz(b:Nat)(s:Option (List UInt8))(T:ay)(h:dp b s T)(R:aC):Spec prog 101 [pT b] R [T] λu H'=>∃T',H'=[T']/\∃(f:Bool) (s':Option (List UInt8)),u=.bool f/\dp b s' T'/\s.bind jC=s'.map λr=>(f,r):=by
  have H:∀{i:Option (List UInt8)} {x:Nat},s.bind fk=i.map (λr=>(x,r))->s.bind jC=i.bind λr=>if x<=1 then some (x==1,r)else none:=λ{i x} G=>by
    have F:=oX (m:=1) G
    unfold jC
    have:s.bind (bQ (fM 1) λn b=>some (n==1,b))=(s.bind (fM 1)).bind λp=>some (p.1==1,p.2):=by cases s<;>rfl
    rw[this,F]
    cases i with
    |none=>rfl
    |some r=>simp only[Option.bind_some];split<;>rfl
  refine Spec.body func101 rfl results101 ntmps101 rfl ?_
  refine .sr<|.ag rfl<|.z<|.mo rfl ?_
  refine .aQ (lK b s T h _) (λu A o=>?_)
  obtain⟨x,i,rfl,K,B,I⟩:=o
  have d:=H I
  have j:=B
  obtain⟨v,e,g,C,J,D⟩:=B
  have pT:PS A (pT b) [v,.int .i64 e,.bool true]:=PS.of (E:=171) (fr:=(0,0)) (by rw[C];simp)
  refine .ag rfl<|.zs<|.sr<|.mo rfl ?_
  refine .bx (iI b v e _) (λu o=>?_)
  subst o
  refine .q .cL<|.mo rfl ?_
  refine .split (t:=9) rfl (λa=>?_) (λa=>?_)
  have k:e=0:=by simpa using a
  obtain⟨w,rfl⟩:=acn.1 (D.1 k)
  refine .gT a<|.mo rfl<|.gT a<|.q .gtr<|.q (.bX a) ?_
  refine .zn ?_
  refine .cond rfl (λl=>?_) λl=>?_
  have c:¬x<=1:=by have:=bp l;omega
  refine .sr ?_
  subst C
  refine .sub (bJ.open_ (S:=[bl b [v,.int .i64 e,.bool true] 171,g]) 0 (by simp)) ?_
  show aH _ _ _ _ _ _ _ [_,_] _
  refine .mo rfl ?_
  refine .aQ (lG b v e 4 _) (λu A o=>?_)
  subst o
  refine .z<|.az rfl ?_
  refine .ret (bq (bb _ (.one (.tmp rfl)) (by first|(refine bJ.cW (H':=[(b,.cells [sZ,.int .i64 (if e=0 then 4 else e),.bool true].toArray 171 (0,0))::g]) ?_;simp<;>fail)|exact bJ.refl _) ?_))
  ·first
      |(refine⟨_,rfl,false,none,rfl,⟨_,_,g,rfl,RS.ju,?_⟩,by rw[d];simp[c]⟩
        rw[aci k];simp)
      |(have c:x<=1:=by have:=bc l;omega
        exact⟨_,rfl,x==1,some w,rfl,j,by rw[d];simp[c]⟩)
      |(subst y
        exact⟨_,rfl,_,none,rfl,j,by rw[d];rfl⟩)
  refine .kn<|.sr<|.mo rfl ?_
  refine .q (aV.cast (v':=.bool (x==1)) (.cL rfl rfl) (acj Value.bool (by rw[Bool.eq_iff_iff];simp;omega))) ?_
  refine .az rfl ?_
  refine .ret (bb _ (.one (.tmp rfl)) (by first|(refine bJ.cW (H':=[(b,.cells [sZ,.int .i64 (if e=0 then 4 else e),.bool true].toArray 171 (0,0))::g]) ?_;simp<;>fail)|exact bJ.refl _) ?_)
  ·first
      |(refine⟨_,rfl,false,none,rfl,⟨_,_,g,rfl,RS.ju,?_⟩,by rw[d];simp[c]⟩
        rw[aci k];simp)
      |(have c:x<=1:=by have:=bc l;omega
        exact⟨_,rfl,x==1,some w,rfl,j,by rw[d];simp[c]⟩)
      |(subst y
        exact⟨_,rfl,_,none,rfl,j,by rw[d];rfl⟩)
  have k:e≠0:=by simpa using a
  have y:i=none:=by
    cases i with
    |none=>rfl
    |some w=>exact absurd (D.2 rfl) k
  refine .gF a<|.gF a<|.q (.bU a) ?_
  refine .zn<|.bB<|.kn<|.sr<|.mo rfl ?_
  refine .q (aV.cast (v':=.bool (x==1)) (.cL rfl rfl) (acj Value.bool (by rw[Bool.eq_iff_iff];simp;omega))) ?_
  refine .az rfl ?_
  refine .ret (bb _ (.one (.tmp rfl)) (by first|(refine bJ.cW (H':=[(b,.cells [sZ,.int .i64 (if e=0 then 4 else e),.bool true].toArray 171 (0,0))::g]) ?_;simp<;>fail)|exact bJ.refl _) ?_)
  ·first
      |(refine⟨_,rfl,false,none,rfl,⟨_,_,g,rfl,RS.ju,?_⟩,by rw[d];simp[c]⟩
        rw[aci k];simp)
      |(have c:x<=1:=by have:=bc l;omega
        exact⟨_,rfl,x==1,some w,rfl,j,by rw[d];simp[c]⟩)
      |(subst y
        exact⟨_,rfl,_,none,rfl,j,by rw[d];rfl⟩)
theorem BD(b:Nat)(s:Option (List UInt8))(T:ay)(h:dp b s T)(R:aC)(j:∀p∈T,R p.1 p.2):Spec prog 42 [pT b] R [] λu H'=>(∃e:Int,u=.int .i64 e/\(e=0↔s=some []))/\H'=[]:=by
 obtain⟨v,e,x,rfl,k,i⟩:=h
 have y:=k.aF
 have A:PC R (pT b) [v,.int .i64 e,.bool true]:=PC.of (E:=171) (fr:=(0,0)) (j (b,.cells [v,.int .i64 e,.bool true].toArray 171 (0,0)) (by simp))
 have r:RS R 1 bZ v (s.getD []):=k.mono λm o n=>j (m,o) (List.mem_cons_of_mem _ n)
 refine Spec.body func42 rfl results42 ntmps42 rfl ?_
 refine .sr<|.ag rfl<|.zs<|.sr<|.mo rfl ?_
 refine .bx (iI b v e _) (λu t=>?_)
 subst t
 refine .ag rfl<|.z<|.mo rfl<|.q .eS<|.zn ?_
 refine .cond rfl (λf=>?_) λf=>?_
 refine .sr<|.mo rfl<|.az rfl ?_
 refine .ret (bq (cf rfl ?_))
 ·have c:e≠0:=by simpa using f
  exact⟨⟨e,rfl,λa=>absurd a c,λa=>absurd (i.2 (by rw[a];rfl)) c⟩,rfl⟩
 refine .kn<|.seq<|.sr<|.mo rfl<|.nc rfl<|.fa rfl<|.lo rfl<|.q (.dw r) ?_
 refine .q .gtr<|.zn ?_
 refine .cond rfl (λd=>?_) λd=>?_
 refine .sr<|.az rfl ?_
 refine .ret (bq (cf rfl ?_))
 ·have c:e=0:=by simpa using f
  obtain⟨l,rfl⟩:=acn.1 (i.1 c)
  simp only[acq]at d
  have a:=bp d
  refine⟨⟨6,rfl,λg=>by simp at g,λg=>?_⟩,rfl⟩
  cases g
  simp at a
 refine .kn<|.sr<|.az rfl ?_
 refine .ret (cf rfl ?_)
 ·have c:e=0:=by simpa using f
  obtain⟨l,rfl⟩:=acn.1 (i.1 c)
  simp only[acq]at d
  have a:=bc d
  have w:l=[]:=List.length_eq_zero_iff.1 (by omega)
  subst w
  exact⟨⟨0,rfl,λ_=>rfl,λ_=>rfl⟩,rfl⟩
end Go.Proofs.YtgppncmdpcefhaaGreatDoor
