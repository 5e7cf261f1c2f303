/- What the law 'KeepOpens' uses. No condition. -/
import Derived.Laws.BytesArg
import Derived.Laws.IdiomStrings
import Derived.Test.YtocjmmbldeljnaaGreatDoorKKeepOpensB
import Derived.Test.YtocjmmbldeljnaaGreatDoorKKeepOpensE
import Derived.Test.YtocjmmbldeljnaaGreatDoorKKeepOpensI
set_option linter.unusedSimpArgs false
set_option linter.unusedVariables false
namespace Go.Proofs.YtocjmmbldeljnaaGreatDoor
set_option linter.defProp false
def ac8:=@if_neg
def ac9:=@Bool.eq_iff_iff
def ada:=@congrArg
def adb:=@if_pos
def ade:=@decide_eq_true
def adf:=@trivial
def adg:=@Nat.zero_le
def adh:=@Option.bind_some
def adi:=@List.append_assoc
def adj:=@List.length_append
def adk:=@Nat.lt_of_le_of_lt
def adl:=@Nat.mod_lt
def adm:=@Option.isSome_iff_exists
def adn:=@Bool.true_and
def ado:=@List.mem_singleton
def adp:=@Int.natCast_inj
def adq:=@Option.bind_none
def adr:=@Nat.mod_eq_of_lt
def ads:=@Nat.pow_le_pow_right
def adt:=@Nat.mul_le_mul
def adu:=@Nat.mul_le_mul_right
def adv:=@Option.getD_some
def adw:=@List.mem_of_mem_drop
def adx:=@List.mem_of_mem_take
def ady:=@BitVec.ofInt_natCast
def adz:=@BitVec.toNat_ofNat
def adA:=@List.take_add_one
def adB:=@List.take_left
def adC:=@Bool.and_eq_true
def adD:=@List.getElem?_map
def adE:=@List.getElem?_eq_some_iff
def adF:=@Nat.lt_of_lt_of_le
def adG:=@List.take_of_length_le
def adH:=@List.foldl_append
def adI:=@List.take_length
def adJ:=@Nat.shiftLeft_add_eq_or_of_lt
open Tryz
set_option linter.unusedVariables false
set_option linter.unusedSimpArgs false
set_option maxRecDepth 4000
theorem NZ(n:Nat):IntKind.u8.wrap ((BitVec.ofInt IntKind.u8.bits ((UInt8.ofNat n).toNat:Int)|||BitVec.ofInt IntKind.u8.bits 128).toNat:Int)=((UInt8.ofNat (128+n % 128)).toNat:Int):=by
 have c:∀m:Fin 256,IntKind.u8.wrap ((BitVec.ofInt IntKind.u8.bits (m.val:Int)|||BitVec.ofInt IntKind.u8.bits 128).toNat:Int)=((128+m.val % 128:Nat):Int):=by decide+kernel
 have a:(UInt8.ofNat n).toNat=n % 256:=UInt8.toNat_ofNat'
 have b:(UInt8.ofNat (128+n % 128)).toNat=128+n % 128:=qH (by omega)
 rw[a,b,c ⟨n % 256,by omega⟩]
 simp only
 omega
theorem QG(x:Nat)(i:x<cm)(R:ao):Spec prog 163 [.int .u64 (x:Nat)] R [] λv H'=>∃T,H'=[T]/\OS 5 1 bS v (put x) T:=by
 have t:=mT i
 refine Spec.du (H':=[[]]) (by simp) ?_
 refine Spec.body func163 rfl results163 ntmps163 rfl ?_
 refine .sr<|.ag rfl<|.z<|.ag rfl<|.zs<|.block ?_
 refine .loop (X:=Nat×List UInt8×Value×au) (λy=>y.1<cm/\y.2.1++put y.1=put x/\OS 5 1 bS y.2.2.1 y.2.1 y.2.2.2) (λy=>[(0,.int .u64 (y.1:Nat)),(3,y.2.2.1)]) (λy=>[y.2.2.2]) (λy=>y.1) (x,[],sZ,[]) ⟨i,rfl,OS.nil⟩ kE.c.c rH ?_
 rintro⟨y,o,w,p⟩ ⟨l,d,e⟩
 simp only at l d e⊢
 have u:=e.ay
 have k:=ada List.length d
 rw[adj]at k
 refine .seq<|.sr<|.mo rfl<|.q .geq<|.zn ?_
 refine .cond rfl (λg=>?_) λg=>?_
 have h:¬y<128:=by have:=bp g;omega
 rw[pB h]at d
 refine .kn<|.block<|.sr<|.mo rfl<|.mo rfl<|.q (.tY (a:=y) rfl) ?_
 refine .q (aI.cast (v':=.int .u8 ((UInt8.ofNat (128+y % 128)).toNat:Int)) (.et rfl rfl) (ada (Value.int .u8) (NZ y))) ?_
 refine .lq (λr=>?_)
 refine .append e (RS.lits (xs:=[UInt8.ofNat (128+y % 128)]) rfl (by simp[bS]) (by simp[bS,ay])) (by simp;omega) (λj f b=>?_)
 have m:=b.ay
 refine .az rfl<|.region<|.mo rfl ?_
 refine .q (.Pc (a:=y) (n:=7) rfl rfl (by decide)) ?_
 refine .ag rfl<|.nil<|bz ?_
 ·exact br (y/128,o++[UInt8.ofNat (128+y % 128)],j,f) ⟨by simp only;omega,by simp only;rw[<-d];simp,b⟩ (by simp only;omega) kE.c.c (bG [1])
 have h:y<128:=by have:=ba g;omega
 rw[mU h]at d
 refine .exit<|bk<|bw<|bq<|aG<|.sr<|.mo rfl<|.mo rfl<|.q (.tY (a:=y) rfl) ?_
 refine .lq (λs=>?_)
 refine .append e (RS.lits (xs:=[UInt8.ofNat y]) rfl (by simp[bS]) (by simp[bS,ay])) (by simp;omega) (λj f b=>?_)
 have m:=b.ay
 rw[d]at b
 refine .az rfl ?_
 refine .ret (aO _ (.one (.tmp rfl)) (.one [1] _) ?_)
 ·exact⟨f,by simp[take],b⟩
theorem ku(v:Value)(xs:List UInt8)(R:ao)(h:RS R 1 bS v xs)(n:xs.length<=1000000000000):Spec prog 107 [v] R [] λu H'=>∃T,H'=[T]/\OS 5 1 bS u xs T:=by
 obtain⟨p,j,rfl,l,m,h4⟩:=id h.h
 refine Spec.du (H':=[[]]) (by simp) ?_
 cases p with
 |none=>
  have f:xs=[]:=by
   rcases h4 with h4|⟨b,r,c,E,k,g,_⟩
   ·exact h4
   ·cases g
  subst f
  refine Spec.body func107 rfl results107 ntmps107 rfl ?_
  refine .sr<|.ag rfl<|.zs<|.sr<|.mo rfl<|.q (.rY rfl rfl) ?_
  refine .zn<|.cW<|.sr<|.az rfl ?_
  refine .ret (aR (aO _ (.one (.tmp rfl)) (.one [0] _) ?_))
  ·exact⟨_,rfl,OS.nil⟩
 |some a=>
  refine Spec.body func107 rfl results107 ntmps107 rfl ?_
  refine .sr<|.ag rfl<|.zs<|.sr<|.mo rfl<|.q (.rY rfl rfl) ?_
  refine .zn<|.bB<|.kn<|.sr ?_
  refine .uE (λi=>?_)
  refine .mo rfl ?_
  refine .append (OS.lits (xs:=([]:List UInt8)) (enc:=bS) (sz:=1) (cs:=[]) rfl (by simp) (by simp)) h.rx (by simp;omega) (λs e d=>?_)
  have o:=d.ay
  refine .az rfl ?_
  refine .ret (aO _ (.one (.tmp rfl)) (.one [0] _) ?_)
  ·exact⟨e,by simp[take],d⟩
def dJ(b:Nat)(xs:List UInt8)(T:au):Prop:=∃vs Tb,T=(b,.cells [vs].toArray 260 (0,0))::Tb/\OS 5 1 bS vs xs Tb
theorem yS(R:ao):Spec prog 68 [] R [] λv H'=>∃T,H'=[T]/\∃b,v=pT b/\dJ b [] T:=by
 refine Spec.body func68 rfl results68 ntmps68 rfl ?_
 refine .sr<|.ag rfl<|.z ?_
 refine .q .cC ?_
 refine .cc rfl (λa=>?_)
 refine .az rfl ?_
 refine .ret (aO _ (.one (.tmp rfl)) (.one [0] _) ?_)
 ·exact⟨_,rfl,_,rfl,_,[],rfl,OS.nil⟩
theorem fV(b:Nat)(xs:List UInt8)(T:au)(h:dJ b xs T)(x:Nat)(f:x<cm)(l:xs.length<=1000000000000)(R:ao):Spec prog 69 [pT b,.int .u64 (x:Nat)] R [T] λv H'=>∃T',H'=[T']/\v=pT b/\dJ b (xs++put x) T':=by
 obtain⟨j,i,rfl,c⟩:=h
 have p:=c.ay
 have m:=mT f
 refine Spec.du (H':=[bl b [j] 260,i]) (by simp) ?_
 refine Spec.body func69 rfl results69 ntmps69 rfl ?_
 refine .sr<|.ag rfl<|.zs<|.sr<|.mo rfl<|.q (.jX rfl rfl) ?_
 refine .zn<|.cW<|.cq [7,10] mixed ?_
 refine .tK 0 rfl .move<|.tO 1 rfl .move<|.tO 2 rfl (.nilCheck rfl)<|.tO 3 rfl (.fieldAddr rfl)<|.tO 4 rfl (.bo rfl)<|.tO 5 rfl .move ?_
 refine .sT 6 rfl ?_
 refine .bM (QG x f _) (λu k e=>?_)
 have o:=e.ay
 refine .nil (Next.sub ?_)
 refine .sT 7 rfl ?_
 refine .append c e.rx (by simp;omega) (λg a d=>?_)
 have n:=d.ay
 refine .nil (Next.mod rfl ?_)
 refine .tK 8 rfl (.pn rfl) ?_
 refine .tK 9 rfl (.dU rfl) ?_
 refine .sT 10 rfl ?_
 refine .ca rfl rfl ?_
 refine .nil (Next.mod rfl ?_)
 refine RA.nil (by kernel_rfl) ?_
 refine aG<|.sr<|.mo rfl<|.az rfl ?_
 refine .ret (aO _ (.one (.tmp rfl)) ((bG [1,1]).trans (bu.cu (H':=[(b,.cells [g].toArray 260 (0,0))::a]) (by simp[take,bf,bT]))) ?_)
 ·exact⟨_,rfl,rfl,g,a,rfl,d⟩
theorem uh(b:Nat)(xs:List UInt8)(T:au)(h:dJ b xs T)(v:Value)(l:List UInt8)(R:ao)(c:RS R 1 bS v l)(r:xs.length+l.length<=1000000000000):Spec prog 101 [pT b,v] R [T] λv H'=>∃T',H'=[T']/\v=pT b/\dJ b (xs++jJ l) T':=by
 have y:=c.ay
 have s:=mT (x:=l.length) (by unfold cm;omega)
 obtain⟨m,o,j,_⟩:=id h
 have A:PS T (pT b) [m]:=PS.of (E:=260) (fr:=(0,0)) (by rw[j];simp)
 refine Spec.body func101 rfl results101 ntmps101 rfl ?_
 refine .sr<|.ag rfl<|.zs<|.sr<|.mo rfl<|.q (.jX rfl rfl) ?_
 refine .zn<|.cW<|.sr<|.mo rfl<|.mo rfl<|.q (.cv c) ?_
 refine .q (.fU (a:=l.length) rfl (by unfold cm;omega)) ?_
 refine .aT (fV b xs T h l.length (by unfold cm;omega) (by omega) _) (λu p k=>?_)
 obtain⟨rfl,n,i,rfl,e⟩:=k
 have t:=e.ay
 refine .zn<|.region ?_
 refine .sub (bu.open_ (S:=[bl b [n] 260,i]) 0 (by simp)) ?_
 show aB _ _ _ _ _ _ _ [_,_] _
 refine .mo rfl<|.mo rfl<|.nc rfl<|.fa rfl<|.lo rfl<|.mo rfl ?_
 refine .append e c.rx (by simp;omega) (λg d f=>?_)
 have w:=f.ay
 refine .nc rfl<|.fa rfl<|.ca rfl rfl<|.z<|.mo rfl<|.az rfl ?_
 refine .ret (aO _ (.one (.tmp rfl)) ((bG [0,0]).trans (bu.cu (H':=[(b,.cells [g].toArray 260 (0,0))::d]) (by simp[take,bf,bT]))) ?_)
 ·exact⟨_,rfl,rfl,g,d,rfl,by rw[jJ, <-adi];exact f⟩
theorem iF(b:Nat)(xs:List UInt8)(T:au)(h:dJ b xs T)(s:ByteArray)(R:ao)(a:(xs++dF s).length<=1000000000000):Spec prog 169 [pT b,.string s] R [T] λv H'=>∃T',H'=[T']/\v=pT b/\dJ b (xs++dF s) T':=by
 have i:xs.length+s.data.toList.length<=1000000000000:=by
  unfold dF jJ at a
  simp only[adj]at a
  omega
 have k:s.size<=1000000000000:=by
  have:s.data.toList.length=s.size:=by rw[Array.length_toList];rfl
  omega
 refine Spec.body func169 rfl results169 ntmps169 rfl ?_
 refine .sr<|.ag rfl<|.z<|.mo rfl<|.mo rfl ?_
 refine .PM (s:=s) (by unfold maxLen;omega) (λv T' d=>?_)
 refine .zE (uh b xs T h v s.data.toList _ (d.mono λb o f=>.inr (by have g:(b,o)∈T':=f;simp[g])) i) (λu c j=>?_)
 obtain⟨rfl,e⟩:=j
 refine .az rfl ?_
 refine .ret (aO _ (.one (.tmp rfl)) (.one [1] _) ?_)
 ·exact⟨c,by simp[take],rfl,e⟩
theorem Qu(b:Nat)(xs:List UInt8)(T:au)(h:dJ b xs T)(f:Bool)(g:xs.length<=1000000000000)(R:ao):Spec prog 178 [pT b,.bool f] R [T] λv H'=>∃T',H'=[T']/\v=pT b/\dJ b (xs++th f) T':=by
 refine Spec.body func178 rfl results178 ntmps178 rfl ?_
 refine .sr<|.ag rfl<|.zs<|.sr<|.mo rfl<|.zn ?_
 refine .cond rfl (λc=>?_) λc=>?_
 refine .sr<|.mo rfl ?_
 refine .aT (fV b xs T h 1 (by decide) g _) (λu a e=>?_)
 obtain⟨rfl,d⟩:=e
 refine .az rfl ?_
 refine .ret (aR (aO _ (.one (.tmp rfl)) (.one [0] _) ?_))
 ·rw[c]
  exact⟨a,by simp[take],rfl,d⟩
 refine .kn<|.sr<|.mo rfl ?_
 refine .aT (fV b xs T h 0 (by decide) g _) (λu a e=>?_)
 obtain⟨rfl,d⟩:=e
 refine .az rfl ?_
 refine .ret (aO _ (.one (.tmp rfl)) (.one [0] _) ?_)
 ·rw[c]
  exact⟨a,by simp[take],rfl,d⟩
theorem yQ(b:Nat)(xs:List UInt8)(T:au)(h:dJ b xs T)(g:xs.length<=1000000000000)(R:ao)(d:∀p∈T,R p.1 p.2):Spec prog 94 [pT b] R [] λv H'=>∃T',H'=[T']/\OS 5 1 bS v xs T':=by
 obtain⟨a,k,rfl,c⟩:=h
 have m:=c.ay
 have n:PC R (pT b) [a]:=PC.of (E:=260) (fr:=(0,0)) (d (b,.cells [a].toArray 260 (0,0)) (by simp))
 have j:RS R 1 bS a xs:=c.rs λp i=>d p (by simp[i])
 refine Spec.body func94 rfl results94 ntmps94 rfl ?_
 refine .sr<|.ag rfl<|.zs<|.sr<|.mo rfl<|.q (.vz rfl rfl) ?_
 refine .zn<|.bB<|.kn<|.sr<|.mo rfl<|.nc rfl<|.fa rfl<|.lo rfl ?_
 refine .bM (ku a xs _ j.rx g) (λu f e=>?_)
 have l:=e.ay
 refine .az rfl ?_
 refine .ret (aO _ (.one (.tmp rfl)) (.one [0] _) ?_)
 ·exact⟨f,by simp[take],e⟩
section
variable{P:Program}{R:ao}{env:Env}{H:aF}{x:Operand}{ty:TypeId}
theorem aI.rN{src dst e:TypeId}{v:Value}{xs:List UInt8}(h:RS (Rx R H) 1 bS v xs)(y:ev env x=some v:=by rfl) [k:bh P src (.slice e)] [l:bh P e (.int .u8)] [m:bh P dst .string]:aI P R env H (.convert src dst x) ty (.string ⟨xs.toArray⟩):=λa w d I C g t B A=>by
 obtain⟨p,i,rfl,F,G,s⟩:=h.h
 have r:(convert src dst (.slice p xs.length i)).run P w=.ok (.string ⟨xs.toArray⟩) w:=by
  rcases s with rfl|⟨b,z,c,E,D,rfl,n,o⟩
  ·cases p with
   |none=>exact run_convert_bytes_nil (P:=P) (w:=w) src e k.h l.h _ _ dst m.h
   |some q=>exact run_convert_bytes_back w src dst e q i [] k.h l.h m.h (λj f=>by simp at f)
  ·have u:=mq B A b _ n
   refine run_convert_bytes_back w src dst e ⟨b,z,none⟩ i xs k.h l.h m.h (λj f=>?_)
   have:=o j (by rw[sn,List.length_map];exact f)
   rw[sn,adD,bd f]at this
   rw[kO]
   simpa[World.cell?,u]using this
 simp[execOp,t.eval y,r]
end
theorem RS.nP{R:ao}:RS R 1 bS (sZ) []:=⟨by simp,by simp,none,0,rfl,Nat.le_refl _,adg _,.inl rfl⟩
def de(b:Nat)(s:Option (List UInt8))(T:au):Prop:=∃v e Tb,T=(b,.cells [v,.int .i64 e,.bool true].toArray 203 (0,0))::Tb/\RS (sg Tb) 1 bS v (s.getD [])/\(e=0↔s.isSome=true)
theorem de.read{b:Nat}{s:Option (List UInt8)}{T:au}(h:de b s T):∃v e,PS T (pT b) [v,.int .i64 e,.bool true]/\(e=0↔s.isSome=true):=by
 obtain⟨v,e,c,rfl,_,a⟩:=h
 exact⟨v,e,PS.of (E:=203) (fr:=(0,0)) (by simp),a⟩
theorem xZ(v:Value)(xs:List UInt8)(R:ao)(h:RS R 1 bS v xs)(e:xs.length<=1000000000000):Spec prog 43 [v] R [] λu H'=>∃T,H'=[T]/\∃b,u=pT b/\de b (some xs) T:=by
 have i:=h.ay
 refine Spec.body func43 rfl results43 ntmps43 rfl ?_
 refine .sr<|.ag rfl<|.z<|.mo rfl ?_
 refine .bM (ku v xs _ h.rx e) (λu a c=>?_)
 obtain⟨g,f,rfl,_⟩:=c.shape
 refine .q .cC ?_
 refine .cc rfl (λd=>?_)
 refine .az rfl ?_
 refine .ret (aO _ (.one (.tmp rfl)) (bu.cu (H':=[(d,.cells [.slice g xs.length f,.int .i64 0,.bool true].toArray 203 (0,0))::a]) (by simp[bT])) ?_)
 ·exact⟨_,rfl,_,rfl,_,0,a,rfl,c.sg,by simp⟩
theorem ml(b:Nat)(v:Value)(e:Int)(R:ao) [pc:PC R (pT b) [v,.int .i64 e,.bool true]]:Spec prog 114 [pT b] R [] λu H'=>u=.int .i64 e/\H'=[]:=by
 refine Spec.body func114 rfl results114 ntmps114 rfl ?_
 refine .sr<|.ag rfl<|.zs<|.sr<|.mo rfl<|.q (.vz rfl rfl) ?_
 refine .mo rfl<|.gt rfl ?_
 refine .mo rfl<|.gt rfl ?_
 refine .nc rfl<|.gt rfl ?_
 refine .fa rfl<|.gt rfl ?_
 refine .lo rfl<|.gt rfl ?_
 refine .q .not<|.q .cd<|.zn<|.bB<|.kn<|.sr<|.mo rfl<|.nc rfl<|.fa rfl<|.lo rfl<|.az rfl ?_
 refine .ret (aW rfl ?_)
 ·exact⟨rfl,rfl⟩
theorem qR(b:Nat)(v:Value)(e d:Int)(R:ao):Spec prog 115 [pT b,.int .i64 d] R [bl b [v,.int .i64 e,.bool true] 203] λu H'=>∃T',H'=[T']/\T'=(bl b [sZ,.int .i64 (if e=0 then d else e),.bool true] 203):=by
 refine Spec.body func115 rfl results115 ntmps115 rfl ?_
 refine .seq<|.sr<|.mo rfl<|.nc rfl<|.fa rfl<|.lo rfl<|.q .cG<|.zn ?_
 refine .cond rfl (λa=>?_) λa=>?_
 refine .region<|.mo rfl<|.mo rfl<|.nc rfl<|.fa rfl<|.ca rfl rfl<|.zn<|.region<|.mo rfl<|.nc rfl<|.fa rfl<|.ca rfl rfl<|.nil<|dc _ .none (.one [0] _) ?_
 ·have c:e=0:=by simpa using a
  exact⟨_,rfl,by rw[adb c];rfl⟩
 refine .kn<|.region<|.mo rfl<|.nc rfl<|.fa rfl<|.ca rfl rfl<|.nil<|dc _ .none (.one [0] _) ?_
 ·have c:¬e=0:=by simpa using a
  exact⟨_,rfl,by rw[ac8 c];rfl⟩
theorem Ag{xs:List UInt8}{i:Nat}{c:UInt8}(h:xs[i]? =some c):xs.drop i=c::xs.drop (i+1):=by
 obtain⟨a,rfl⟩:=adE.1 h
 exact List.drop_eq_getElem_cons a
theorem yA{c:UInt8}(h:128<=c.toNat):IntKind.u8.wrap ((c.toNat:Int)-128)=((c.toNat-128:Nat):Int):=by
 have:=c.toNat_lt
 simp[IntKind.wrap,IntKind.bits,IntKind.signed]
 omega
theorem nS{x a i:Nat}(c:x<2^(7*i))(b:a*2^(7*i)<cm):x|||a*2^(7*i) % cm=x+2^(7*i)*a:=by
 rw[adr b,Nat.or_comm,N0 c,Nat.mul_comm]
 omega
theorem qP{i:Nat}(h:i<=8):2^(7*i)<=72057594037927936:=Nat.le_trans (ads (by decide) (show 7*i<=56 by omega)) (by decide)
theorem NA(v:Value)(xs:List UInt8)(R:ao)(h:RS R 1 bS v xs):Spec prog 203 [v] R [] λu H'=>(∃(x n:Nat) (e:Int),u=.tuple [.int .u64 (x:Nat),iN n,.int .i64 e].toArray/\((e=0/\n<=xs.length/\gY xs=some (x,xs.drop n))\/(e≠0/\gY xs=none)))/\H'=[]:=by
  have T:=h.ay
  have S:=h.le
  refine Spec.body func203 rfl results203 ntmps203 rfl ?_
  refine .sr<|.ag rfl<|.ag rfl<|.ag rfl<|.z<|.ag rfl<|.zs<|.sr<|.mo rfl<|.q (.cv h) ?_
  refine .mo rfl<|.zn<|.block ?_
  refine .loop (X:=Nat×Nat) (λy=>y.2<=xs.length/\y.2<=9/\y.1<2^(7*y.2)/\gY xs=(nY y.2 (xs.drop y.2)).map λp=>(y.1+2^(7*y.2)*p.1,p.2)) (λy=>[(5,.int .u64 (y.1:Nat)),(8,v),(9,iN xs.length),(10,iN y.2)]) (λ_=>[]) (λy=>xs.length-y.2) (0,0) ⟨adg _,adg _,by decide,by simp[gY]⟩ kE.c.c.c.c rH ?_
  rintro⟨x,i⟩ ⟨N,O,w,b⟩
  simp only at N O w b⊢
  refine .sr<|.q .lss<|.zs ?_
  refine .cond rfl (λI=>?_) λI=>?_
  have j:i<xs.length:=fg I
  obtain⟨c,L⟩:=dM j
  have Q:=c.toNat_lt
  rw[Ag L]at b
  unfold nY at b
  refine .kn<|.seq<|.block<|.sr<|.mo rfl ?_
  refine .cB i h L (λU=>?_)
  refine .lo rfl<|.ag rfl<|.az rfl<|.block<|.sr<|.mo rfl<|.q .cG<|.mo rfl ?_
  refine .split (t:=27) rfl (λo=>?_) (λo=>?_)
  ·exfalso;have f:(i:Int)=10:=by simpa using o
   omega
  refine .gT o<|.mo rfl<|.gT o<|.q .cG<|.gT o<|.mo rfl ?_
  refine .split (t:=30) rfl (λl=>?_) (λl=>?_)
  refine .gT l<|.mo rfl<|.gT l<|.q .gtr<|.gT o<|.q (.bA l) ?_
  refine .q (.bg o) ?_
  refine .az rfl ?_
  refine .cond rfl (λH=>?_) λH=>?_
  have F:i=9/\1<c.toNat:=by
    refine⟨?_,?_⟩
    ·have f:(i:Int)=9:=by simpa using l
     omega
    ·have f:=bp H
     omega
  rw[adb F]at b
  refine .sr<|.ag rfl<|.ag rfl<|.az rfl ?_
  refine .ret (bi (bi (aR (cK (bi (aR (aO _ (.three (.tmp rfl) (.tmp rfl) (.tmp rfl)) (.none _) ?_)))))))
  ·first
      |exact⟨⟨0,0,_,rfl,.inr ⟨by decide,A⟩⟩,rfl⟩
      |exact⟨⟨0,0,_,rfl,.inr ⟨by decide,b⟩⟩,rfl⟩
      |exact⟨⟨x+2^(7*i)*c.toNat,i+1,0,rfl,.inl ⟨rfl,j,b⟩⟩,rfl⟩
  have F:¬(i=9/\1<c.toNat):=by
    rintro⟨C,f⟩
    first
      |(have g:=ba H;omega)
      |(have g:¬(i:Int)=9:=by simpa using l
        omega)
  rw[ac8 F]at b
  refine .sr<|.mo rfl<|.q .geq<|.az rfl ?_
  refine .cond rfl (λB=>?_) λB=>?_
  have E:128<=c.toNat:=by have:=bp B;omega
  have D:i<=8:=by omega
  have J:=qP D
  have s:(c.toNat-128)*2^(7*i)<cm:=adk (adt (show c.toNat-128<=127 by omega) J) (by decide)
  rw[adb E]at b
  refine .region<|.mo rfl<|.mo rfl<|.q (aI.cast (v':=.int .u8 ((c.toNat-128:Nat):Int)) (.sub rfl rfl) (ada (Value.int .u8) (yA E))) ?_
  refine .q (.fU (a:=c.toNat-128) rfl (by unfold cm;omega)) ?_
  refine .mo rfl ?_
  refine .ia (7*i) .mul ?_
  refine .q (.oh (a:=c.toNat-128) (n:=7*i) rfl rfl (by omega)) ?_
  refine .q (.nR rfl rfl (by unfold cm;omega) (adl _ (by decide))) ?_
  rw[nS w s]
  refine .ag rfl<|.nil<|bz<|bz<|aG<|.region ?_
  refine .ia (i+1) .add ?_
  refine .mo rfl<|.nil ?_
  ·exact br (x+2^(7*i)*(c.toNat-128),i+1) ⟨j,by simp only;omega,by
      simp only
      rw[show 7*(i+1)=7*i+7 by omega,Nat.pow_add]
      have C:2^(7*i)*(c.toNat-128)<=2^(7*i)*127:=Nat.mul_le_mul_left _ (by omega)
      generalize 2^(7*i)=m at *
      generalize m*(c.toNat-128)=q at *
      omega,by
      simp only
      rw[b,Option.map_map]
      congr 1
      funext p
      simp only[Function.comp,Prod.mk.injEq,and_true]
      rw[show 7*(i+1)=7*i+7 by omega,Nat.pow_add,Nat.mul_add,Nat.add_assoc,Nat.mul_assoc]⟩ (by simp only;omega) kE.c.c.c.c rH
  have K:¬128<=c.toNat:=by have:=ba B;omega
  rw[ac8 K]at b
  have s:c.toNat*2^(7*i)<cm:=by
    by_cases D:i<=8
    ·exact adk (adt (show c.toNat<=127 by omega) (qP D)) (by decide)
    ·have:i=9:=by omega
     subst this
     exact adk (adu _ (show c.toNat<=1 by omega)) (by decide)
  have G:x<cm:=adF w (Nat.le_trans (ads (by decide) (show 7*i<=63 by omega)) (by decide))
  refine .sr<|.mo rfl<|.q .cG<|.mo rfl ?_
  refine .split (t:=49) rfl (λd=>?_) (λd=>?_)
  refine .gT d<|.mo rfl<|.gT d<|.q .gtr<|.q (.bA d) ?_
  refine .az rfl ?_
  refine .cond rfl (λr=>?_) λr=>?_
  have k:c.toNat=0/\0<i:=by
    refine⟨?_,?_⟩
    ·have f:(c.toNat:Int)=0:=by simpa using d
     omega
    ·have f:=bp r
     omega
  rw[adb k]at b
  refine .sr<|.ag rfl<|.ag rfl<|.az rfl ?_
  refine .ret (bi (bi (aR (cK (bi (aR (aO _ (.three (.tmp rfl) (.tmp rfl) (.tmp rfl)) (.none _) ?_)))))))
  ·first
      |exact⟨⟨0,0,_,rfl,.inr ⟨by decide,A⟩⟩,rfl⟩
      |exact⟨⟨0,0,_,rfl,.inr ⟨by decide,b⟩⟩,rfl⟩
      |exact⟨⟨x+2^(7*i)*c.toNat,i+1,0,rfl,.inl ⟨rfl,j,b⟩⟩,rfl⟩
  have k:¬(c.toNat=0/\0<i):=by
    rintro⟨C,f⟩
    first
      |(have g:=ba r;omega)
      |(have g:¬(c.toNat:Int)=0:=by simpa using d
        omega)
  rw[ac8 k]at b
  refine .sr<|.mo rfl<|.mo rfl ?_
  refine .q (.fU (a:=c.toNat) rfl (by unfold cm;omega)) ?_
  refine .mo rfl ?_
  refine .ia (7*i) .mul ?_
  refine .q (.oh (a:=c.toNat) (n:=7*i) rfl rfl (by omega)) ?_
  refine .q (.nR rfl rfl G (adl _ (by decide))) ?_
  rw[nS w s]
  refine .mo rfl ?_
  refine .ia (i+1) .add ?_
  refine .ag rfl<|.ag rfl<|.az rfl ?_
  refine .ret (bi (bi (aR (cK (bi (aR (aO _ (.three (.tmp rfl) (.tmp rfl) (.tmp rfl)) (.none _) ?_)))))))
  ·first
      |exact⟨⟨0,0,_,rfl,.inr ⟨by decide,A⟩⟩,rfl⟩
      |exact⟨⟨0,0,_,rfl,.inr ⟨by decide,b⟩⟩,rfl⟩
      |exact⟨⟨x+2^(7*i)*c.toNat,i+1,0,rfl,.inl ⟨rfl,j,b⟩⟩,rfl⟩
  refine .gF d<|.gF d<|.q (.bg d) ?_
  refine .az rfl<|.bB ?_
  have k:¬(c.toNat=0/\0<i):=by
    rintro⟨C,f⟩
    first
      |(have g:=ba r;omega)
      |(have g:¬(c.toNat:Int)=0:=by simpa using d
        omega)
  rw[ac8 k]at b
  refine .sr<|.mo rfl<|.mo rfl ?_
  refine .q (.fU (a:=c.toNat) rfl (by unfold cm;omega)) ?_
  refine .mo rfl ?_
  refine .ia (7*i) .mul ?_
  refine .q (.oh (a:=c.toNat) (n:=7*i) rfl rfl (by omega)) ?_
  refine .q (.nR rfl rfl G (adl _ (by decide))) ?_
  rw[nS w s]
  refine .mo rfl ?_
  refine .ia (i+1) .add ?_
  refine .ag rfl<|.ag rfl<|.az rfl ?_
  refine .ret (bi (bi (aR (cK (bi (aR (aO _ (.three (.tmp rfl) (.tmp rfl) (.tmp rfl)) (.none _) ?_)))))))
  ·first
      |exact⟨⟨0,0,_,rfl,.inr ⟨by decide,A⟩⟩,rfl⟩
      |exact⟨⟨0,0,_,rfl,.inr ⟨by decide,b⟩⟩,rfl⟩
      |exact⟨⟨x+2^(7*i)*c.toNat,i+1,0,rfl,.inl ⟨rfl,j,b⟩⟩,rfl⟩
  refine .gF l<|.gF l<|.gT o<|.q (.bg l) ?_
  refine .q (.bg o) ?_
  refine .az rfl<|.bB ?_
  have F:¬(i=9/\1<c.toNat):=by
    rintro⟨C,f⟩
    first
      |(have g:=ba H;omega)
      |(have g:¬(i:Int)=9:=by simpa using l
        omega)
  rw[ac8 F]at b
  refine .sr<|.mo rfl<|.q .geq<|.az rfl ?_
  refine .cond rfl (λB=>?_) λB=>?_
  have E:128<=c.toNat:=by have:=bp B;omega
  have D:i<=8:=by omega
  have J:=qP D
  have s:(c.toNat-128)*2^(7*i)<cm:=adk (adt (show c.toNat-128<=127 by omega) J) (by decide)
  rw[adb E]at b
  refine .region<|.mo rfl<|.mo rfl<|.q (aI.cast (v':=.int .u8 ((c.toNat-128:Nat):Int)) (.sub rfl rfl) (ada (Value.int .u8) (yA E))) ?_
  refine .q (.fU (a:=c.toNat-128) rfl (by unfold cm;omega)) ?_
  refine .mo rfl ?_
  refine .ia (7*i) .mul ?_
  refine .q (.oh (a:=c.toNat-128) (n:=7*i) rfl rfl (by omega)) ?_
  refine .q (.nR rfl rfl (by unfold cm;omega) (adl _ (by decide))) ?_
  rw[nS w s]
  refine .ag rfl<|.nil<|bz<|bz<|aG<|.region ?_
  refine .ia (i+1) .add ?_
  refine .mo rfl<|.nil ?_
  ·exact br (x+2^(7*i)*(c.toNat-128),i+1) ⟨j,by simp only;omega,by
      simp only
      rw[show 7*(i+1)=7*i+7 by omega,Nat.pow_add]
      have C:2^(7*i)*(c.toNat-128)<=2^(7*i)*127:=Nat.mul_le_mul_left _ (by omega)
      generalize 2^(7*i)=m at *
      generalize m*(c.toNat-128)=q at *
      omega,by
      simp only
      rw[b,Option.map_map]
      congr 1
      funext p
      simp only[Function.comp,Prod.mk.injEq,and_true]
      rw[show 7*(i+1)=7*i+7 by omega,Nat.pow_add,Nat.mul_add,Nat.add_assoc,Nat.mul_assoc]⟩ (by simp only;omega) kE.c.c.c.c rH
  have K:¬128<=c.toNat:=by have:=ba B;omega
  rw[ac8 K]at b
  have s:c.toNat*2^(7*i)<cm:=by
    by_cases D:i<=8
    ·exact adk (adt (show c.toNat<=127 by omega) (qP D)) (by decide)
    ·have:i=9:=by omega
     subst this
     exact adk (adu _ (show c.toNat<=1 by omega)) (by decide)
  have G:x<cm:=adF w (Nat.le_trans (ads (by decide) (show 7*i<=63 by omega)) (by decide))
  refine .sr<|.mo rfl<|.q .cG<|.mo rfl ?_
  refine .split (t:=49) rfl (λd=>?_) (λd=>?_)
  refine .gT d<|.mo rfl<|.gT d<|.q .gtr<|.q (.bA d) ?_
  refine .az rfl ?_
  refine .cond rfl (λr=>?_) λr=>?_
  have k:c.toNat=0/\0<i:=by
    refine⟨?_,?_⟩
    ·have f:(c.toNat:Int)=0:=by simpa using d
     omega
    ·have f:=bp r
     omega
  rw[adb k]at b
  refine .sr<|.ag rfl<|.ag rfl<|.az rfl ?_
  refine .ret (bi (bi (aR (cK (bi (aR (aO _ (.three (.tmp rfl) (.tmp rfl) (.tmp rfl)) (.none _) ?_)))))))
  ·first
      |exact⟨⟨0,0,_,rfl,.inr ⟨by decide,A⟩⟩,rfl⟩
      |exact⟨⟨0,0,_,rfl,.inr ⟨by decide,b⟩⟩,rfl⟩
      |exact⟨⟨x+2^(7*i)*c.toNat,i+1,0,rfl,.inl ⟨rfl,j,b⟩⟩,rfl⟩
  have k:¬(c.toNat=0/\0<i):=by
    rintro⟨C,f⟩
    first
      |(have g:=ba r;omega)
      |(have g:¬(c.toNat:Int)=0:=by simpa using d
        omega)
  rw[ac8 k]at b
  refine .sr<|.mo rfl<|.mo rfl ?_
  refine .q (.fU (a:=c.toNat) rfl (by unfold cm;omega)) ?_
  refine .mo rfl ?_
  refine .ia (7*i) .mul ?_
  refine .q (.oh (a:=c.toNat) (n:=7*i) rfl rfl (by omega)) ?_
  refine .q (.nR rfl rfl G (adl _ (by decide))) ?_
  rw[nS w s]
  refine .mo rfl ?_
  refine .ia (i+1) .add ?_
  refine .ag rfl<|.ag rfl<|.az rfl ?_
  refine .ret (bi (bi (aR (cK (bi (aR (aO _ (.three (.tmp rfl) (.tmp rfl) (.tmp rfl)) (.none _) ?_)))))))
  ·first
      |exact⟨⟨0,0,_,rfl,.inr ⟨by decide,A⟩⟩,rfl⟩
      |exact⟨⟨0,0,_,rfl,.inr ⟨by decide,b⟩⟩,rfl⟩
      |exact⟨⟨x+2^(7*i)*c.toNat,i+1,0,rfl,.inl ⟨rfl,j,b⟩⟩,rfl⟩
  refine .gF d<|.gF d<|.q (.bg d) ?_
  refine .az rfl<|.bB ?_
  have k:¬(c.toNat=0/\0<i):=by
    rintro⟨C,f⟩
    first
      |(have g:=ba r;omega)
      |(have g:¬(c.toNat:Int)=0:=by simpa using d
        omega)
  rw[ac8 k]at b
  refine .sr<|.mo rfl<|.mo rfl ?_
  refine .q (.fU (a:=c.toNat) rfl (by unfold cm;omega)) ?_
  refine .mo rfl ?_
  refine .ia (7*i) .mul ?_
  refine .q (.oh (a:=c.toNat) (n:=7*i) rfl rfl (by omega)) ?_
  refine .q (.nR rfl rfl G (adl _ (by decide))) ?_
  rw[nS w s]
  refine .mo rfl ?_
  refine .ia (i+1) .add ?_
  refine .ag rfl<|.ag rfl<|.az rfl ?_
  refine .ret (bi (bi (aR (cK (bi (aR (aO _ (.three (.tmp rfl) (.tmp rfl) (.tmp rfl)) (.none _) ?_)))))))
  ·first
      |exact⟨⟨0,0,_,rfl,.inr ⟨by decide,A⟩⟩,rfl⟩
      |exact⟨⟨0,0,_,rfl,.inr ⟨by decide,b⟩⟩,rfl⟩
      |exact⟨⟨x+2^(7*i)*c.toNat,i+1,0,rfl,.inl ⟨rfl,j,b⟩⟩,rfl⟩
  have A:gY xs=none:=by
    have M:i=xs.length:=by have:=ba I;omega
    rw[b,M,List.drop_length];rfl
  refine .exit<|bk<|bw<|bq<|aG<|.sr<|.ag rfl<|.ag rfl<|.az rfl ?_
  refine .ret (aO _ (.three (.tmp rfl) (.tmp rfl) (.tmp rfl)) (.none _) ?_)
  ·first
      |exact⟨⟨0,0,_,rfl,.inr ⟨by decide,A⟩⟩,rfl⟩
      |exact⟨⟨0,0,_,rfl,.inr ⟨by decide,b⟩⟩,rfl⟩
      |exact⟨⟨x+2^(7*i)*c.toNat,i+1,0,rfl,.inl ⟨rfl,j,b⟩⟩,rfl⟩
theorem lM(b:Nat)(s:Option (List UInt8))(T:au)(h:de b s T)(R:ao):Spec prog 113 [pT b] R [T] λu H'=>∃T',H'=[T']/\∃(x:Nat) (s':Option (List UInt8)),u=.int .u64 (x:Nat)/\x<cm/\de b s' T'/\s.bind gY=s'.map λr=>(x,r):=by
 have A:=h
 obtain⟨v,e,c,rfl,i,t⟩:=h
 have F:=i.ay
 have B:=i.le
 refine Spec.du (H':=[bl b [v,.int .i64 e,.bool true] 203,c]) (by simp) ?_
 refine Spec.body func113 rfl results113 ntmps113 rfl ?_
 refine .sr<|.ag rfl<|.zs<|.sr<|.mo rfl ?_
 refine .aH (ml b v e _) (λu j=>?_)
 subst j
 refine .q .cb<|.zn ?_
 refine .cond rfl (λm=>?_) λm=>?_
 have g:e≠0:=by simpa using m
 have w:s=none:=by
  cases s with
  |none=>rfl
  |some a=>exact absurd (t.2 rfl) g
 refine .sr<|.az rfl ?_
 refine .ret (aR (aO _ (.one (.tmp rfl)) (bu.cu (H':=[(b,.cells [v,.int .i64 e,.bool true].toArray 203 (0,0))::c]) (by simp)) ?_))
 ·subst w
  exact⟨_,rfl,0,none,rfl,by decide,A,rfl⟩
 have g:e=0:=by simpa using m
 obtain⟨a,rfl⟩:=adm.1 (t.1 g)
 simp only[adv]at i B
 refine .kn<|.sr<|.mo rfl<|.nc rfl<|.fa rfl<|.lo rfl ?_
 refine .aH (NA v a _ i.yi) (λu j=>?_)
 obtain⟨x,n,f,rfl,y⟩:=j
 refine .mo rfl<|.q .extract<|.q .extract<|.q .extract<|.ag rfl<|.ag rfl<|.ag rfl<|.zs<|.sr<|.mo rfl<|.q .cb<|.zn ?_
 refine .cond rfl (λo=>?_) λo=>?_
 have k:f≠0:=by simpa using o
 have l:gY a=none:=by
  rcases y with⟨d,_⟩|⟨_,d⟩
  ·exact absurd d k
  ·exact d
 refine .sr<|.mo rfl<|.mo rfl ?_
 refine .aT (qR b v e f _) (λu E j=>?_)
 subst j
 refine .z<|.az rfl ?_
 refine .ret (aR (aO _ (.one (.tmp rfl)) (bu.cu (H':=[(b,.cells [sZ,.int .i64 (if e=0 then f else e),.bool true].toArray 203 (0,0))::c]) (by simp)) ?_))
 ·refine⟨_,rfl,0,none,rfl,by decide,⟨_,_,c,rfl,RS.nP,?_⟩,by simp[l]⟩
  rw[adb g];simp[k]
 have k:f=0:=by simpa using o
 obtain⟨w,l⟩:n<=a.length/\gY a=some (x,a.drop n):=by
  rcases y with⟨_,d⟩|⟨d,_⟩
  ·exact d
  ·exact absurd k d
 have C:=((oV.h a x (a.drop n)).1 l).2
 refine .kn<|.sr<|.mo rfl<|.mo rfl<|.nc rfl<|.fa rfl<|.lo rfl<|.mo rfl ?_
 refine .ld (R':=sg c) n a.length i ⟨_,rfl⟩ rfl (by omega) (by omega) (λD p=>?_)
 have G:=p.ay
 have f:(a.drop n).take (a.length-n)=a.drop n:=adG (by simp)
 rw[f]at p
 refine .nc rfl<|.fa rfl<|.ca rfl rfl<|.z<|.mo rfl<|.az rfl ?_
 refine .ret (aO _ (.one (.tmp rfl)) (bu.cu (H':=[(b,.cells [D,.int .i64 e,.bool true].toArray 203 (0,0))::c]) (by simp[bT])) ?_)
 ·exact⟨_,rfl,x,some (a.drop n),rfl,C,⟨_,_,c,rfl,p,by simp[g]⟩,by simp[l]⟩
theorem xR{s a:Option (List UInt8)}{x m:Nat}(h:s.bind gY=a.map λr=>(x,r)):s.bind (iZ m)=a.bind λr=>if x<=m then some (x,r)else none:=by
 unfold iZ qQ
 rw[dK h]
 cases a<;>simp
theorem kI(b:Nat)(s:Option (List UInt8))(T:au)(h:de b s T)(m:Nat)(H:m<=9223372036854775807)(R:ao):Spec prog 44 [pT b,iN m] R [T] λu H'=>∃T',H'=[T']/\∃(x:Nat) (s':Option (List UInt8)),u=iN x/\x<=m/\de b s' T'/\s.bind (iZ m)=s'.map λr=>(x,r):=by
 refine Spec.body func44 rfl results44 ntmps44 rfl ?_
 refine .sr<|.ag rfl<|.z<|.mo rfl ?_
 refine .aT (lM b s T h _) (λu f d=>?_)
 obtain⟨x,A,rfl,F,p,D⟩:=d
 have n:=xR (m:=m) D
 have G:=F
 unfold cm at G
 have o:=p
 obtain⟨v,e,j,w,I,y⟩:=p
 have pT:PS f (pT b) [v,.int .i64 e,.bool true]:=PS.of (E:=203) (fr:=(0,0)) (by rw[w];simp)
 refine .ag rfl<|.zs<|.sr<|.mo rfl ?_
 refine .aH (ml b v e _) (λu d=>?_)
 subst d
 refine .q .cb<|.zn ?_
 refine .cond rfl (λk=>?_) λk=>?_
 have i:e≠0:=by simpa using k
 have C:A=none:=by
  cases A with
  |none=>rfl
  |some B=>exact absurd (y.2 rfl) i
 refine .sr<|.az rfl ?_
 refine .ret (aR (aO _ (.one (.tmp rfl)) (.one [0] _) ?_))
 ·subst C
  exact⟨f,by simp[take],0,none,rfl,adg _,o,by rw[n];rfl⟩
 have i:e=0:=by simpa using k
 obtain⟨B,rfl⟩:=adm.1 (y.1 i)
 refine .kn<|.seq<|.sr<|.mo rfl<|.q .lss<|.mo rfl ?_
 refine .split (t:=13) rfl (λc=>?_) (λc=>?_)
 ·exfalso;have:=bp c;omega
 refine .gT c<|.mo rfl<|.gT c<|.mo rfl<|.gT c ?_
 refine .q (.fU (a:=m) rfl (by unfold cm;omega)) ?_
 refine .gT c<|.q .gtr<|.q (.bg c) ?_
 refine .zn ?_
 refine .cond rfl (λl=>?_) λl=>?_
 have g:¬x<=m:=by have:=bp l;omega
 refine .sr ?_
 subst w
 refine .sub (bu.open_ (S:=[bl b [v,.int .i64 e,.bool true] 203,j]) 0 (by simp)) ?_
 show aB _ _ _ _ _ _ _ [_,_] _
 refine .mo rfl ?_
 refine .aT (qR b v e 5 _) (λu f d=>?_)
 subst d
 refine .z<|.az rfl ?_
 refine .ret (aR (aO _ (.one (.tmp rfl)) (bu.cu (H':=[(b,.cells [sZ,.int .i64 (if e=0 then 5 else e),.bool true].toArray 203 (0,0))::j]) (by simp)) ?_))
 ·refine⟨_,rfl,0,none,rfl,adg _,⟨_,_,j,rfl,RS.nP,?_⟩,by rw[n];simp[g]⟩
  rw[adb i];simp
 have g:x<=m:=by have:=ba l;omega
 refine .kn<|.sr<|.mo rfl ?_
 refine .q (aI.cast (v':=iN x) (.fv) (ada (Value.int .i64) (IntWalk.i64_in _ (by omega)))) ?_
 refine .az rfl ?_
 refine .ret (aO _ (.one (.tmp rfl)) (.one [0] _) ?_)
 ·exact⟨f,by simp[take],x,some B,rfl,g,o,by rw[n];simp[g]⟩
theorem On{s a:Option (List UInt8)}{n:Nat}(h:s.bind (iZ 2147483647)=a.map λr=>(n,r)):s.bind mj=a.bind λr=>if n<=r.length then some (r.take n,r.drop n)else none:=by
 unfold mj
 exact dK h _
theorem tn(b:Nat)(s:Option (List UInt8))(T:au)(h:de b s T)(I:∀xs,s=some xs->xs.length<=1000000000)(R:ao):Spec prog 45 [pT b] R [T] λu H'=>∃T' T2,H'=[T',T2]/\∃(l:List UInt8) (s':Option (List UInt8)),OS 5 1 bS u l T2/\de b s' T'/\s.bind mj=s'.map λr=>(l,r):=by
 refine Spec.du (H':=[T,[]]) (by simp) ?_
 refine Spec.body func45 rfl results45 ntmps45 rfl ?_
 refine .sr<|.ag rfl<|.z<|.mo rfl ?_
 refine .aT (kI b s T h 2147483647 (by decide) _) (λu p f=>?_)
 obtain⟨n,C,rfl,A,w,g⟩:=f
 have m:=On g
 have G:=w
 obtain⟨v,e,a,x,c,y⟩:=w
 have pT:PS p (pT b) [v,.int .i64 e,.bool true]:=PS.of (E:=203) (fr:=(0,0)) (by rw[x];simp)
 have M:=c.ay
 have H:=c.le
 refine .ag rfl<|.zs<|.sr<|.mo rfl ?_
 refine .aH (ml b v e _) (λu f=>?_)
 subst f
 refine .q .cb<|.zn ?_
 refine .cond rfl (λi=>?_) λi=>?_
 have d:e≠0:=by simpa using i
 have A:C=none:=by
  cases C with
  |none=>rfl
  |some xs=>exact absurd (y.2 rfl) d
 refine .sr<|.az rfl ?_
 refine .ret (aR (aO _ (.one (.tmp rfl)) rH ?_))
 ·subst A
  exact⟨_,_,rfl,[],none,OS.nil,G,by rw[m];rfl⟩
 have d:e=0:=by simpa using i
 obtain⟨xs,rfl⟩:=adm.1 (y.1 d)
 simp only[adv]at c H
 have L:xs.length<=1000000000:=by
  cases s with
  |none=>simp at g
  |some ys=>
   simp only[adh,Option.map_some]at g
   obtain⟨rfl,_⟩:=((kR _).h ys n xs).1 g
   have:=I _ rfl
   rw[adj]at this
   omega
 refine .kn<|.seq<|.sr ?_
 subst x
 refine .sub (bu.open_ (S:=[bl b [v,.int .i64 e,.bool true] 203,a]) 0 (by simp)) ?_
 show aB _ _ _ _ _ _ _ [_,_,_] _
 refine .mo rfl<|.mo rfl<|.nc rfl<|.fa rfl<|.lo rfl<|.q (.cv c) ?_
 refine .q .gtr<|.zn ?_
 refine .cond rfl (λj=>?_) λj=>?_
 have k:¬n<=xs.length:=by have:=bp j;omega
 refine .sr<|.mo rfl ?_
 refine .aT (qR b v e 3 _) (λu p f=>?_)
 subst f
 refine .z<|.az rfl ?_
 refine .ret (aR (aO _ (.one (.tmp rfl)) (bu.cu (H':=[(b,.cells [sZ,.int .i64 (if e=0 then 3 else e),.bool true].toArray 203 (0,0))::a,[]]) (by simp)) ?_))
 ·refine⟨_,_,rfl,[],none,OS.nil,⟨_,_,a,rfl,RS.nP,?_⟩,by rw[m];simp[k]⟩
  rw[adb d];simp
 have k:n<=xs.length:=by have:=ba j;omega
 refine .kn<|.sr<|.mo rfl<|.nc rfl<|.fa rfl<|.lo rfl<|.mo rfl ?_
 refine .ld (R':=sg a) 0 n c rfl ⟨_,rfl⟩ (by omega) (by omega) (λJ B=>?_)
 have N:=B.ay
 refine .bM (ku J _ _ B.yi (by simp;omega)) (λU D t=>?_)
 have O:=t.ay
 refine .ag rfl<|.z<|.mo rfl<|.mo rfl<|.nc rfl<|.fa rfl<|.lo rfl<|.mo rfl ?_
 refine .ld (R':=sg a) n xs.length c ⟨_,rfl⟩ rfl (by omega) (by omega) (λK o=>?_)
 have Q:=o.ay
 have F:(xs.drop n).take (xs.length-n)=xs.drop n:=adG (by simp)
 rw[F]at o
 refine .nc rfl<|.fa rfl<|.ca rfl rfl<|.z<|.mo rfl<|.az rfl ?_
 refine .ret (aO _ (.one (.tmp rfl)) ((bG [1,1,0]).trans (bu.cu (H':=[(b,.cells [K,.int .i64 e,.bool true].toArray 203 (0,0))::a,D]) (by simp[take,bf,bT]))) ?_)
 ·refine⟨_,_,rfl,xs.take n,some (xs.drop n),?_,⟨_,_,a,rfl,o,by simp[d]⟩,by rw[m];simp[k]⟩
  simpa using t
theorem iE(b:Nat)(s:Option (List UInt8))(T:au)(h:de b s T)(f:∀xs,s=some xs->xs.length<=1000000000)(R:ao):Spec prog 119 [pT b] R [T] λu H'=>∃T',H'=[T']/\∃(a:ByteArray) (s':Option (List UInt8)),u=.string a/\de b s' T'/\s.bind eZ=s'.map λr=>(a,r):=by
 refine Spec.body func119 rfl results119 ntmps119 rfl ?_
 refine .sr<|.ag rfl<|.z<|.mo rfl ?_
 refine .call [0] (tn b s T h f _) (λu H' i=>?_)
 obtain⟨c,k,rfl,l,j,d,e,g⟩:=i
 conv=>arg 8;simp only[rest,bf,List.cons_append,List.nil_append]
 refine .q (.rN d.rx) ?_
 refine .az rfl ?_
 refine .ret (aO _ (.one (.tmp rfl)) (.one [0] _) ?_)
 ·refine⟨c,by simp[take],_,j,rfl,e,?_⟩
  unfold eZ
  rw[dK g,oQ]
theorem Om(b:Nat)(s:Option (List UInt8))(T:au)(h:de b s T)(R:ao):Spec prog 222 [pT b] R [T] λu H'=>∃T',H'=[T']/\∃(f:Bool) (s':Option (List UInt8)),u=.bool f/\de b s' T'/\s.bind nX=s'.map λr=>(f,r):=by
  have H:∀{i:Option (List UInt8)} {x:Nat},s.bind gY=i.map (λr=>(x,r))->s.bind nX=i.bind λr=>if x<=1 then some (x==1,r)else none:=λ{i x} G=>by
    have F:=xR (m:=1) G
    unfold nX
    have:s.bind (bX (iZ 1) λn b=>some (n==1,b))=(s.bind (iZ 1)).bind λp=>some (p.1==1,p.2):=by cases s<;>rfl
    rw[this,F]
    cases i with
    |none=>rfl
    |some r=>simp only[adh];split<;>rfl
  refine Spec.body func222 rfl results222 ntmps222 rfl ?_
  refine .sr<|.ag rfl<|.z<|.mo rfl ?_
  refine .aT (lM b s T h _) (λu A o=>?_)
  obtain⟨x,i,rfl,K,B,I⟩:=o
  have d:=H I
  have j:=B
  obtain⟨v,e,g,C,J,D⟩:=B
  have pT:PS A (pT b) [v,.int .i64 e,.bool true]:=PS.of (E:=203) (fr:=(0,0)) (by rw[C];simp)
  refine .ag rfl<|.zs<|.sr<|.mo rfl ?_
  refine .aH (ml b v e _) (λu o=>?_)
  subst o
  refine .q .cG<|.mo rfl ?_
  refine .split (t:=9) rfl (λa=>?_) (λa=>?_)
  have k:e=0:=by simpa using a
  obtain⟨w,rfl⟩:=adm.1 (D.1 k)
  refine .gT a<|.mo rfl<|.gT a<|.q .gtr<|.q (.bA a) ?_
  refine .zn ?_
  refine .cond rfl (λl=>?_) λl=>?_
  have c:¬x<=1:=by have:=bp l;omega
  refine .sr ?_
  subst C
  refine .sub (bu.open_ (S:=[bl b [v,.int .i64 e,.bool true] 203,g]) 0 (by simp)) ?_
  show aB _ _ _ _ _ _ _ [_,_] _
  refine .mo rfl ?_
  refine .aT (qR b v e 4 _) (λu A o=>?_)
  subst o
  refine .z<|.az rfl ?_
  refine .ret (aR (aO _ (.one (.tmp rfl)) (by first|(refine bu.cu (H':=[(b,.cells [sZ,.int .i64 (if e=0 then 4 else e),.bool true].toArray 203 (0,0))::g]) ?_;simp<;>fail)|exact bu.refl _) ?_))
  ·first
      |(refine⟨_,rfl,false,none,rfl,⟨_,_,g,rfl,RS.nP,?_⟩,by rw[d];simp[c]⟩
        rw[adb k];simp)
      |(have c:x<=1:=by have:=ba l;omega
        exact⟨_,rfl,x==1,some w,rfl,j,by rw[d];simp[c]⟩)
      |(subst y
        exact⟨_,rfl,_,none,rfl,j,by rw[d];rfl⟩)
  refine .kn<|.sr<|.mo rfl ?_
  refine .q (aI.cast (v':=.bool (x==1)) (.cG rfl rfl) (ada Value.bool (by rw[ac9];simp;omega))) ?_
  refine .az rfl ?_
  refine .ret (aO _ (.one (.tmp rfl)) (by first|(refine bu.cu (H':=[(b,.cells [sZ,.int .i64 (if e=0 then 4 else e),.bool true].toArray 203 (0,0))::g]) ?_;simp<;>fail)|exact bu.refl _) ?_)
  ·first
      |(refine⟨_,rfl,false,none,rfl,⟨_,_,g,rfl,RS.nP,?_⟩,by rw[d];simp[c]⟩
        rw[adb k];simp)
      |(have c:x<=1:=by have:=ba l;omega
        exact⟨_,rfl,x==1,some w,rfl,j,by rw[d];simp[c]⟩)
      |(subst y
        exact⟨_,rfl,_,none,rfl,j,by rw[d];rfl⟩)
  have k:e≠0:=by simpa using a
  have y:i=none:=by
    cases i with
    |none=>rfl
    |some w=>exact absurd (D.2 rfl) k
  refine .gF a<|.gF a<|.q (.bg a) ?_
  refine .zn<|.bB<|.kn<|.sr<|.mo rfl ?_
  refine .q (aI.cast (v':=.bool (x==1)) (.cG rfl rfl) (ada Value.bool (by rw[ac9];simp;omega))) ?_
  refine .az rfl ?_
  refine .ret (aO _ (.one (.tmp rfl)) (by first|(refine bu.cu (H':=[(b,.cells [sZ,.int .i64 (if e=0 then 4 else e),.bool true].toArray 203 (0,0))::g]) ?_;simp<;>fail)|exact bu.refl _) ?_)
  ·first
      |(refine⟨_,rfl,false,none,rfl,⟨_,_,g,rfl,RS.nP,?_⟩,by rw[d];simp[c]⟩
        rw[adb k];simp)
      |(have c:x<=1:=by have:=ba l;omega
        exact⟨_,rfl,x==1,some w,rfl,j,by rw[d];simp[c]⟩)
      |(subst y
        exact⟨_,rfl,_,none,rfl,j,by rw[d];rfl⟩)
theorem xV(b:Nat)(s:Option (List UInt8))(T:au)(h:de b s T)(R:ao)(j:∀p∈T,R p.1 p.2):Spec prog 46 [pT b] R [] λu H'=>(∃e:Int,u=.int .i64 e/\(e=0↔s=some []))/\H'=[]:=by
 obtain⟨v,e,x,rfl,k,i⟩:=h
 have y:=k.ay
 have A:PC R (pT b) [v,.int .i64 e,.bool true]:=PC.of (E:=203) (fr:=(0,0)) (j (b,.cells [v,.int .i64 e,.bool true].toArray 203 (0,0)) (by simp))
 have r:RS R 1 bS v (s.getD []):=k.mono λm o n=>j (m,o) (List.mem_cons_of_mem _ n)
 refine Spec.body func46 rfl results46 ntmps46 rfl ?_
 refine .sr<|.ag rfl<|.zs<|.sr<|.mo rfl ?_
 refine .aH (ml b v e _) (λu t=>?_)
 subst t
 refine .ag rfl<|.z<|.mo rfl<|.q .cb<|.zn ?_
 refine .cond rfl (λf=>?_) λf=>?_
 refine .sr<|.mo rfl<|.az rfl ?_
 refine .ret (aR (aW rfl ?_))
 ·have c:e≠0:=by simpa using f
  exact⟨⟨e,rfl,λa=>absurd a c,λa=>absurd (i.2 (by rw[a];rfl)) c⟩,rfl⟩
 refine .kn<|.seq<|.sr<|.mo rfl<|.nc rfl<|.fa rfl<|.lo rfl<|.q (.cv r) ?_
 refine .q .gtr<|.zn ?_
 refine .cond rfl (λd=>?_) λd=>?_
 refine .sr<|.az rfl ?_
 refine .ret (aR (aW rfl ?_))
 ·have c:e=0:=by simpa using f
  obtain⟨l,rfl⟩:=adm.1 (i.1 c)
  simp only[adv]at d
  have a:=bp d
  refine⟨⟨6,rfl,λg=>by simp at g,λg=>?_⟩,rfl⟩
  cases g
  simp at a
 refine .kn<|.sr<|.az rfl ?_
 refine .ret (aW rfl ?_)
 ·have c:e=0:=by simpa using f
  obtain⟨l,rfl⟩:=adm.1 (i.1 c)
  simp only[adv]at d
  have a:=ba d
  have w:l=[]:=List.length_eq_zero_iff.1 (by omega)
  subst w
  exact⟨⟨0,rfl,λ_=>rfl,λ_=>rfl⟩,rfl⟩
def be:Nat->Nat->List UInt8
 |0,_=>[]
 |n+1,x=>be n (x/256)++[UInt8.ofNat x]
theorem lV:∀(n x:Nat),(be n x).length=n
 |0,_=>rfl
 |n+1,x=>by rw[be,adj,lV];rfl
def eb(l:List UInt8):Nat:=l.foldl (λx c=>x*256+c.toNat) 0
theorem Ai(l:List UInt8)(c:UInt8):eb (l++[c])=eb l*256+c.toNat:=by unfold eb;rw[adH];rfl
theorem vi:∀(l:List UInt8) (x:Nat),l.foldl (λx c=>x*256+c.toNat) x<(x+1)*256^l.length
 |[],x=>by simp
 |c::l,x=>by
  rw[List.foldl_cons,List.length_cons,Nat.pow_succ]
  refine adF (vi l _) ?_
  have:=c.toNat_lt
  have h:x*256+c.toNat+1<=(x+1)*256:=by omega
  have a:=adu (256^l.length) h
  rw[Nat.mul_assoc]at a
  rw[Nat.mul_comm (256^l.length) 256]
  exact a
theorem Aj(l:List UInt8):eb l<256^l.length:=by
 have:=vi l 0
 unfold eb
 omega
def iA{α:Type}(xs:List α)(lo:Nat)(ys:List α):List α:=xs.take lo++(ys++xs.drop (lo+ys.length))
theorem Px{α:Type}(xs:List α)(lo:Nat):iA xs lo []=xs:=by unfold iA;simp
theorem Py{α:Type}{xs zs:List α}{lo:Nat}{c:α}(h:lo+zs.length<xs.length):iA (xs.set (lo+zs.length) c) lo zs=iA xs lo (zs++[c]):=by
 unfold iA
 rw[List.take_set_of_le (by omega),adj,List.length_singleton]
 congr 1
 rw[adi]
 congr 1
 rw[List.drop_set,ac8 (by omega),Nat.sub_self,List.drop_eq_getElem_cons h,List.set_cons_zero]
 rfl
theorem sX{E:TypeId}{α:Type}{enc:α->List Value}{b k e lo n cap:Nat}{xs:List α}{T:au}(h:OS E 1 enc (.slice (some ⟨b,0,none⟩) k e) xs T)(t:lo+n<=xs.length)(s:n<=cap)(i:cap<=maxLen):RS (sg T) 1 enc (.slice (some ⟨b,lo,none⟩) n cap) ((xs.drop lo).take n):=by
 have j:((xs.drop lo).take n).length=n:=by rw[List.length_take,List.length_drop];omega
 rcases h.h with⟨a,_⟩|⟨l,u,c,m,a,f,o,p,q,g⟩
 ·cases a
 ·simp only[Value.slice.injEq,Option.some.injEq,Addr.mk.injEq,and_true]at a
  obtain⟨⟨rfl,rfl⟩,r,rfl⟩:=a
  refine⟨λx d=>h.len x (adw (adx d)),λx d=>h.one x (adw (adx d)),_,cap,by rw[j],by omega,i,.inr ⟨b,lo,c,E,(0,0),rfl,?_,?_⟩⟩
  ·rw[f];simp[sg]
  ·have:=g.piece h.len lo n
   simpa using this
theorem nN(b lo n cap g a:Nat)(xs:List UInt8)(T:au)(x:Nat)(l:OS 5 1 bS (.slice (some ⟨b,0,none⟩) g a) xs T)(K:lo+n<=xs.length)(w:n<=cap)(C:cap<=maxLen)(L:n<=1000)(H:x<2^62)(R:ao):
  Spec prog 403 [.slice (some ⟨b,lo,none⟩) n cap,iN x] R [T] λu H'=>∃T',H'=[T']/\u=.tuple #[]/\OS 5 1 bS (.slice (some ⟨b,0,none⟩) g a) (iA xs lo (be n x)) T':=by
 have M:=l.ay
 refine Spec.body func403 rfl results403 ntmps403 rfl ?_
 refine .sr<|.mo rfl<|.q (.eY rfl) ?_
 refine .q (.i64 ((n:Int)-1) .sub ⟨rfl,by omega,by omega⟩) ?_
 refine .az rfl<|.block ?_
 refine .ik [(0,_)] (X:=Nat×Nat×List UInt8×au) (λy=>y.1<=n/\y.2.1<2^62/\y.2.2.1.length=xs.length/\iA y.2.2.1 lo (be y.1 y.2.1)=iA xs lo (be n x)/\OS 5 1 bS (.slice (some ⟨b,0,none⟩) g a) y.2.2.1 y.2.2.2) (λy E=>(4,.int .i64 ((y.1:Int)-1))::(1,iN y.2.1)::E) (G:=[]) (λy G=>y.2.2.2::G) (λy=>y.1) (n,x,xs,T) ⟨Nat.le_refl _,H,rfl,rfl,l⟩ kE.c.c.c rH ?_
 rintro⟨k,z,h,p⟩ ⟨A,I,o,f,d⟩
 simp only at A I o f d⊢
 refine .seq<|.sr<|.mo rfl<|.q .geq<|.zn ?_
 refine .cond rfl (λi=>?_) λi=>?_
 have J:0<k:=by have j:=bp i;omega
 obtain⟨q,rfl⟩:∃q,k=q+1:=⟨k-1,by omega⟩
 have s:((q+1:Nat):Int)-1=(q:Int):=by omega
 rw[s]
 obtain⟨c,m⟩:∃c,h[lo+q]? =some c:=⟨_,bd (by omega)⟩
 have D:=sX d (lo:=lo) (n:=n) (cap:=cap) (by omega) w C
 have F:((h.drop lo).take n)[q]? =some c:=by rw[List.getElem?_take_of_lt (by omega),List.getElem?_drop,m]
 refine .kn<|.seq<|.block<|.sr<|.mo rfl<|.mo rfl<|.mo rfl<|.q (.tY rfl) ?_
 refine .q (.cast (v':=eA (.slice (some ⟨b,0,none⟩) g a) ((lo+q)*1)) (.cB q D F rfl rfl rfl) (by by_cases t:q=0<;>by_cases j:lo=0<;>simp[eA,Addr.add,t,j])) ?_
 refine .dC (lo+q) d m (UInt8.ofNat z) (λr v=>?_)
 refine .zn<|.region<|.mo rfl ?_
 refine .q (.cast (v':=.int .i64 ((z/256:Nat):Int)) (.pI rfl rfl) (ada (Value.int .i64) (by
  have e:min ((8:Int)).toNat IntKind.i64.bits=8:=by decide
  rw[e,Int.fdiv_eq_ediv_of_nonneg _ (by decide)]
  omega))) ?_
 refine .ag rfl<|.nil<|bz<|aG<|.region<|.mo rfl ?_
 refine .q (.i64 ((q:Int)-1) .sub ⟨rfl,by omega,by omega⟩) ?_
 refine .ag rfl<|.nil ?_
 ·exact br (q,z/256,h.set (lo+q) (UInt8.ofNat z),r) ⟨by simp only;omega,by simp only;omega,by simp[o],by
   simp only
   rw[<-f,be]
   have:=Py (xs:=h) (zs:=be q (z/256)) (lo:=lo) (c:=UInt8.ofNat z) (by rw[lV];omega)
   rwa [lV]at this,v⟩ (by simp only;omega) kE.c.c.c rH
 have B:k=0:=by have j:=ba i;omega
 subst B
 rw[be,Px]at f
 subst f
 refine .exit<|bk<|bw<|bq<|dc _ .none rH ?_
 ·exact⟨p,rfl,rfl,d⟩
theorem N1{x c:Nat}(h:x<2^50)(g:c<256):IntKind.i64.wrap (((BitVec.ofInt IntKind.i64.bits (IntKind.i64.wrap ((x:Int)*2^min ((8:Int)).toNat IntKind.i64.bits))|||BitVec.ofInt IntKind.i64.bits (c:Int)).toNat:Nat):Int)=((x*256+c:Nat):Int):=by
 have e:min ((8:Int)).toNat IntKind.i64.bits=8:=by decide
 have d:IntKind.i64.wrap ((x:Int)*2^8)=((x*256:Nat):Int):=by
  rw[lj (by omega) (by omega)]
  omega
 rw[e,d]
 have f:(BitVec.ofInt IntKind.i64.bits ((x*256:Nat):Int)|||BitVec.ofInt IntKind.i64.bits (c:Int)).toNat=x*256+c:=by
  rw[ady,ady,BitVec.toNat_or,adz,adz]
  have a:IntKind.i64.bits=64:=rfl
  rw[a,adr (by omega),adr (by omega)]
  have:=adJ (i:=8) (b:=c) (by omega) x
  rw[Nat.shiftLeft_eq]at this
  exact this.symm
 rw[f,lj (by omega) (by omega)]
theorem iS(v:Value)(l:List UInt8)(R:ao)(h:RS R 1 bS v l)(o:l.length<=4):Spec prog 298 [v] R [] λu H'=>u=.int .i64 (eb l:Nat)/\H'=[]:=by
 have p:=h.ay
 refine Spec.body func298 rfl results298 ntmps298 rfl ?_
 refine .sr<|.ag rfl<|.z<|.ag rfl<|.zs<|.sr<|.mo rfl<|.q (.cv h) ?_
 refine .mo rfl<|.zn<|.block ?_
 refine .ik [(6,_),(7,_)] (X:=Nat) (λi=>i<=l.length) (λi E=>(8,iN i)::(3,.int .i64 ((eb (l.take i):Nat):Int))::E) (λ_ G=>G) (λi=>l.length-i) 0 (adg _) kE.c.c.c.c rH ?_
 intro i g
 refine .sr<|.q .lss<|.zs ?_
 refine .cond rfl (λa=>?_) λa=>?_
 have e:i<l.length:=by have b:=bp a;omega
 obtain⟨c,d⟩:=dM e
 have j:eb (l.take (i+1))=eb (l.take i)*256+c.toNat:=by rw[adA,d];exact Ai _ _
 have k:eb (l.take i)<2^50:=by
  have b:=Aj (l.take i)
  rw[List.length_take,Nat.min_eq_left g]at b
  have m:256^i<=256^4:=ads (by decide) (by omega)
  have n:256^4<2^50:=by decide
  omega
 refine .kn<|.seq<|.block<|.sr ?_
 refine .cB i h d (λr=>?_)
 refine .lo rfl<|.az rfl<|.region<|.mo rfl<|.q (.lP rfl rfl) ?_
 refine .mo rfl ?_
 refine .q (.cast (v':=.int .i64 (c.toNat:Int)) .fv (ada (Value.int .i64) (by
  have:=c.toNat_lt
  rw[lj (by omega) (by omega)]))) ?_
 refine .q (.cast (v':=.int .i64 ((eb (l.take (i+1)):Nat):Int)) (.et rfl rfl) (ada (Value.int .i64) (by rw[j];exact N1 k c.toNat_lt))) ?_
 refine .ag rfl<|.nil<|bz<|aG<|.region ?_
 refine .ia (i+1) .add ?_
 refine .mo rfl<|.nil ?_
 ·exact br (i+1) e (by omega) kE.c.c.c.c rH
 have f:i=l.length:=by have b:=ba a;omega
 rw[f,adI]
 refine .exit<|bk<|bw<|bq<|aG<|.sr<|.mo rfl<|.az rfl ?_
 refine .ret (aW rfl ?_)
 ·exact⟨rfl,rfl⟩
structure Pt where
 ep:Nat
 sq:Nat
 ix:Nat
 tt:Nat
 d:List UInt8
abbrev hK:Type:=Value×Pt
def df(p:hK):List Value:=[iN p.2.ep,iN p.2.sq,iN p.2.ix,iN p.2.tt,p.1]
def fj(R:ao)(p:hK):Prop:=RS R 1 bS p.1 p.2.d
theorem fj.bU{R:ao}{p:hK}(h:fj R p):∀u∈df p,ay u=true:=by
 have b:=RS.ay h
 intro u a
 simp only[df,List.mem_cons,List.not_mem_nil,or_false]at a
 rcases a with rfl|rfl|rfl|rfl|rfl<;>first|rfl|exact b.h
theorem fj.mono{R R':ao}{p:hK}(h:fj R p)(a:∀b o,R b o->R' b o):fj R' p:=RS.mono h a
def fL(p:Pt):Bool:=decide (p.ep<=4294967295)&&(decide (p.sq<=4294967295)&&(decide (1<=p.tt)&&(decide (p.tt<=65535)&&(decide (p.ix<p.tt)&&decide (p.d.length<=38)))))
theorem gB{p:Pt}:fL p=true↔p.ep<=4294967295/\p.sq<=4294967295/\1<=p.tt/\p.tt<=65535/\p.ix<p.tt/\p.d.length<=38:=by simp[fL]
abbrev eM(n:Nat):List UInt8:=List.replicate n 0
theorem m2{a ys:List UInt8}{n lo:Nat}(b:lo=a.length)(h:ys.length<=n):iA (a++eM n) lo ys=(a++ys)++eM (n-ys.length):=by
 subst b
 unfold iA
 rw[adB,List.drop_append,List.drop_eq_nil_of_le (by omega),List.nil_append,List.drop_replicate,adi]
 congr 3
 omega
theorem Pw{a y z:List UInt8}{lo:Nat}(b:lo=a.length)(h:y.length=z.length):iA (a++z) lo y=a++y:=by
 subst b
 unfold iA
 rw[adB,List.drop_eq_nil_of_le (by simp;omega),List.append_nil]
def lZ(p:Pt):List UInt8:=be 4 p.ep++be 4 p.sq
def ji(p:Pt):List UInt8:=lZ p++be 2 p.ix++be 2 p.tt++be 2 p.d.length
def kg(p:Pt):dk:=nj (nj 0#32 (ji p)) p.d
def ff(p:Pt):List UInt8:=ji p++be 4 (kg p).toNat++p.d++eM (38-p.d.length)++lZ p
theorem sx(p:Pt):(lZ p).length=8:=by simp[lZ,lV]
theorem wI(p:Pt):(ji p).length=14:=by simp[ji,sx,lV]
theorem sL{p:Pt}(h:p.d.length<=38):(ff p).length=64:=by
 simp[ff,wI,sx,lV];omega
theorem sK(w:Value)(p:Pt)(R:ao)(h:fj R (w,p)):Spec prog 197 [.agg (df (w,p)).toArray] R [] λu H'=>u=.bool (fL p)/\H'=[]:=by
 have l:bI (df (w,p)):=⟨h.bU⟩
 have c:RS R 1 bS w p.d:=h
 have m:=c.ay
 refine Spec.body func197 rfl results197 ntmps197 rfl ?_
 refine .sr ?_
 refine .cc rfl (λn=>?_)
 refine .ag rfl<|.zs ?_
 refine bF.oW [] (di.nil _) (X:=Unit) (λ_=>True) (λ_ E=>(2,.bool (fL p))::E) (λ_=>[]) ?_ ?_
 refine .region<|.fa rfl<|.lo rfl<|.q .geq<|.mo rfl ?_
 refine .split (t:=6) rfl (λj=>?_) (λj=>?_)
 refine .gT j<|.fa rfl<|.gT j<|.lo rfl<|.gT j<|.q .leq<|.q (.bA j) ?_
 refine .mo rfl ?_
 refine .split (t:=11) rfl (λk=>?_) (λk=>?_)
 refine .gT k<|.fa rfl<|.gT k<|.lo rfl<|.gT k<|.q .geq<|.q (.bA k) ?_
 refine .mo rfl ?_
 refine .split (t:=16) rfl (λe=>?_) (λe=>?_)
 refine .gT e<|.fa rfl<|.gT e<|.lo rfl<|.gT e<|.q .leq<|.q (.bA e) ?_
 refine .mo rfl ?_
 refine .split (t:=21) rfl (λf=>?_) (λf=>?_)
 refine .gT f<|.fa rfl<|.gT f<|.lo rfl<|.gT f<|.q .geq<|.q (.bA f) ?_
 refine .mo rfl ?_
 refine .split (t:=26) rfl (λg=>?_) (λg=>?_)
 refine .gT g<|.fa rfl<|.gT g<|.lo rfl<|.gT g<|.q .leq<|.q (.bA g) ?_
 refine .mo rfl ?_
 refine .split (t:=31) rfl (λi=>?_) (λi=>?_)
 refine .gT i<|.fa rfl<|.gT i<|.lo rfl<|.gT i<|.q .geq<|.q (.bA i) ?_
 refine .mo rfl ?_
 refine .split (t:=36) rfl (λa=>?_) (λa=>?_)
 refine .gT a<|.fa rfl<|.gT a<|.lo rfl<|.gT a<|.fa rfl<|.gT a<|.lo rfl<|.gT a<|.q .lss<|.q (.bA a) ?_
 refine .mo rfl ?_
 refine .split (t:=43) rfl (λb=>?_) (λb=>?_)
 refine .gT b<|.fa rfl<|.gT b<|.lo rfl<|.gT b<|.q (.cv c) ?_
 refine .gT b<|.q .leq<|.q (.bA b) ?_
 refine .ag rfl<|.nil ?_
 ·refine aN () adf ((di.nil _).iQ rfl ?_) (bG [])
  clear h l c m
  rw[ac9,gB]
  simp at *
  try omega
 refine .gF b<|.gF b<|.gF b<|.gF b<|.q (.bg b) ?_
 refine .ag rfl<|.nil ?_
 ·refine aN () adf ((di.nil _).iQ rfl ?_) (bG [])
  clear h l c m
  rw[ac9,gB]
  simp at *
  try omega
 refine .gF a<|.gF a<|.gF a<|.gF a<|.gF a<|.q (.bg a) ?_
 refine .mo rfl<|.gX<|.gX<|.gX<|.gX<|.q .cd<|.ag rfl<|.nil ?_
 ·refine aN () adf ((di.nil _).iQ rfl ?_) (bG [])
  clear h l c m
  rw[ac9,gB]
  simp at *
  try omega
 refine .gF i<|.gF i<|.gF i<|.q (.bg i) ?_
 refine .mo rfl<|.gX<|.gX<|.gX<|.gX<|.gX<|.q .cd<|.mo rfl<|.gX<|.gX<|.gX<|.gX<|.q .cd<|.ag rfl<|.nil ?_
 ·refine aN () adf ((di.nil _).iQ rfl ?_) (bG [])
  clear h l c m
  rw[ac9,gB]
  simp at *
  try omega
 refine .gF g<|.gF g<|.gF g<|.q (.bg g) ?_
 refine .mo rfl<|.gX<|.gX<|.gX<|.q .cd<|.mo rfl<|.gX<|.gX<|.gX<|.gX<|.gX<|.q .cd<|.mo rfl<|.gX<|.gX<|.gX<|.gX<|.q .cd<|.ag rfl<|.nil ?_
 ·refine aN () adf ((di.nil _).iQ rfl ?_) (bG [])
  clear h l c m
  rw[ac9,gB]
  simp at *
  try omega
 refine .gF f<|.gF f<|.gF f<|.q (.bg f) ?_
 refine .mo rfl<|.gX<|.gX<|.gX<|.q .cd<|.mo rfl<|.gX<|.gX<|.gX<|.q .cd<|.mo rfl<|.gX<|.gX<|.gX<|.gX<|.gX<|.q .cd<|.mo rfl<|.gX<|.gX<|.gX<|.gX<|.q .cd<|.ag rfl<|.nil ?_
 ·refine aN () adf ((di.nil _).iQ rfl ?_) (bG [])
  clear h l c m
  rw[ac9,gB]
  simp at *
  try omega
 refine .gF e<|.gF e<|.gF e<|.q (.bg e) ?_
 refine .mo rfl<|.gX<|.gX<|.gX<|.q .cd<|.mo rfl<|.gX<|.gX<|.gX<|.q .cd<|.mo rfl<|.gX<|.gX<|.gX<|.q .cd<|.mo rfl<|.gX<|.gX<|.gX<|.gX<|.gX<|.q .cd<|.mo rfl<|.gX<|.gX<|.gX<|.gX<|.q .cd<|.ag rfl<|.nil ?_
 ·refine aN () adf ((di.nil _).iQ rfl ?_) (bG [])
  clear h l c m
  rw[ac9,gB]
  simp at *
  try omega
 refine .gF k<|.gF k<|.gF k<|.q (.bg k) ?_
 refine .mo rfl<|.gX<|.gX<|.gX<|.q .cd<|.mo rfl<|.gX<|.gX<|.gX<|.q .cd<|.mo rfl<|.gX<|.gX<|.gX<|.q .cd<|.mo rfl<|.gX<|.gX<|.gX<|.q .cd<|.mo rfl<|.gX<|.gX<|.gX<|.gX<|.gX<|.q .cd<|.mo rfl<|.gX<|.gX<|.gX<|.gX<|.q .cd<|.ag rfl<|.nil ?_
 ·refine aN () adf ((di.nil _).iQ rfl ?_) (bG [])
  clear h l c m
  rw[ac9,gB]
  simp at *
  try omega
 refine .gF j<|.gF j<|.gF j<|.q (.bg j) ?_
 refine .mo rfl<|.gX<|.gX<|.gX<|.q .cd<|.mo rfl<|.gX<|.gX<|.gX<|.q .cd<|.mo rfl<|.gX<|.gX<|.gX<|.q .cd<|.mo rfl<|.gX<|.gX<|.gX<|.q .cd<|.mo rfl<|.gX<|.gX<|.gX<|.q .cd<|.mo rfl<|.gX<|.gX<|.gX<|.gX<|.gX<|.q .cd<|.mo rfl<|.gX<|.gX<|.gX<|.gX<|.q .cd<|.ag rfl<|.nil ?_
 ·refine aN () adf ((di.nil _).iQ rfl ?_) (bG [])
  clear h l c m
  rw[ac9,gB]
  simp at *
  try omega
 intro y o
 refine aG ?_
 refine .ret (aW rfl ?_)
 ·exact⟨rfl,rfl⟩
theorem aI.lc{P:Program}{R:ao}{env:Env}{H:aF}{ty:TypeId}{x:Operand}{xl h:Option Operand}{t e:TypeId}{b off n cap:Nat}(lo hi:Nat)(o:ev env x=some (.slice (some ⟨b,off,none⟩) n cap)) [ut:bh P t (.slice e)] [s:Sz P e 1](j:dR env xl 0 lo)(k:dR env h n hi)(l:lo<=hi)(m:hi<=cap)(r:lo<cap):
  aI P R env H (.slice t x xl h none) ty (.slice (some ⟨b,off+lo,none⟩) (hi-lo) (cap-lo)):=λa w d u q g f _ _=>by
 have:=oc (P:=P) (w:=w) (p:=some ⟨b,off,none⟩) (n:=n) (cap:=cap) f j k l m (t:=t) (e:=e) (sz:=1)
 rw[ac8 (by omega)]at this
 have i:(some (⟨b,off,none⟩:Addr)).map (·.add (lo*1))=some ⟨b,off+lo,none⟩:=by
  simp only[Option.map_some,Addr.add,Nat.mul_one]
  by_cases c:lo=0
  ·simp[c]
  ·simp[c]
 rw[i]at this
 simp only[execOp,f.eval o,Option.map_none]
 rw[Sem.run_bind,this]
 rfl
theorem kQ{x:Nat}:(be 2 x).length=2:=lV 2 x
theorem fP{x:Nat}:(be 4 x).length=4:=lV 4 x
theorem wW(w:Value)(p:Pt)(R:ao)(h:fj R (w,p))(Q:fL p=true)(F:PC R (pT 1) (wv eW)):Spec prog 296 [.agg (df (w,p)).toArray] R [] λu H'=>∃T,H'=[T]/\∃b,u=.slice (some ⟨b,0,none⟩) 64 64/\OS 5 1 bS u (ff p) T:=by
 have i1:bI (df (w,p)):=⟨h.bU⟩
 have l:RS R 1 bS w p.d:=h
 have i2:=l.ay
 obtain⟨pw,kw,rfl⟩:=l.val
 obtain⟨r1,r2,r3,r4,r5,r6⟩:=gB.1 Q
 have f:=wI p
 have i:=sx p
 have x:(64:Nat)<=maxLen:=by decide
 have Z:=(kg p).isLt
 have O:Value.int .i64 (IntKind.i64.wrap (((nj (nj 0#32 (ji p)) p.d).toNat:Nat):Int))=.int .i64 ((kg p).toNat:Nat):=by
  show Value.int .i64 (IntKind.i64.wrap (((kg p).toNat:Nat):Int))=_
  rw[lj (by omega) (by omega)]
 refine Spec.body func296 rfl results296 ntmps296 rfl ?_
 refine .sr ?_
 refine .cc rfl (λY=>?_)
 refine .ag rfl<|.z ?_
 refine .makeSlice (enc:=bS) 64 (0:UInt8) rfl rfl (by decide) (by simp[bS,ay]) rfl rfl (by omega) (by omega) (λe I N=>?_)
 refine .ag rfl<|.zs ?_
 refine .cM 4 mixed (by kernel_rfl) ?_
 conv=>arg 6;dsimp only[List.take]
 refine .mo rfl ?_
 refine .q (aI.lc 0 4 rfl rfl ⟨_,rfl⟩ (by omega) (by omega) (by omega)) ?_
 refine .fa rfl<|.lo rfl<|.nil ?_
 refine .aT (nN e 0 4 64 64 64 _ I p.ep N (by simp) (by omega) x (by omega) (by omega) _) (λu J c=>?_)
 obtain⟨rfl,A⟩:=c
 rw[show List.replicate 64 (0:UInt8)=[]++eM 64 from rfl,m2 (a:=[]) (lo:=0) rfl (by rw[fP];omega),fP,List.nil_append]at A
 refine .zs ?_
 refine .cM 4 mixed (by kernel_rfl) ?_
 conv=>arg 6;dsimp only[List.take]
 refine .mo rfl ?_
 refine .q (aI.lc 4 8 rfl ⟨_,rfl⟩ ⟨_,rfl⟩ (by omega) (by omega) (by omega)) ?_
 refine .fa rfl<|.lo rfl<|.nil ?_
 refine .aT (nN e 4 4 60 64 64 _ J p.sq A (by simp[fP]) (by omega) (by decide) (by omega) (by omega) _) (λu K c=>?_)
 obtain⟨rfl,B⟩:=c
 rw[m2 fP.symm (by rw[fP];omega),fP]at B
 refine .zs ?_
 refine .cM 4 mixed (by kernel_rfl) ?_
 conv=>arg 6;dsimp only[List.take]
 refine .mo rfl ?_
 refine .q (aI.lc 8 10 rfl ⟨_,rfl⟩ ⟨_,rfl⟩ (by omega) (by omega) (by omega)) ?_
 refine .fa rfl<|.lo rfl<|.nil ?_
 refine .aT (nN e 8 2 56 64 64 _ K p.ix B (by simp[fP]) (by omega) (by decide) (by omega) (by omega) _) (λu L c=>?_)
 obtain⟨rfl,C⟩:=c
 rw[m2 (by simp[fP]) (by rw[kQ];omega),kQ]at C
 refine .zs ?_
 refine .cM 4 mixed (by kernel_rfl) ?_
 conv=>arg 6;dsimp only[List.take]
 refine .mo rfl ?_
 refine .q (aI.lc 10 12 rfl ⟨_,rfl⟩ ⟨_,rfl⟩ (by omega) (by omega) (by omega)) ?_
 refine .fa rfl<|.lo rfl<|.nil ?_
 refine .aT (nN e 10 2 54 64 64 _ L p.tt C (by simp[fP,kQ]) (by omega) (by decide) (by omega) (by omega) _) (λu M c=>?_)
 obtain⟨rfl,D⟩:=c
 rw[m2 (by simp[fP,kQ]) (by rw[kQ];omega),kQ]at D
 refine .zs ?_
 refine .cM 5 mixed (by kernel_rfl) ?_
 conv=>arg 6;dsimp only[List.take]
 refine .mo rfl ?_
 refine .q (aI.lc 12 14 rfl ⟨_,rfl⟩ ⟨_,rfl⟩ (by omega) (by omega) (by omega)) ?_
 refine .fa rfl<|.lo rfl<|.q (.eY rfl) ?_
 refine .nil ?_
 refine .aT (nN e 12 2 52 64 64 _ M p.d.length D (by simp[fP,kQ]) (by omega) (by decide) (by omega) (by omega) _) (λu m c=>?_)
 obtain⟨rfl,k⟩:=c
 rw[m2 (by simp[fP,kQ]) (by rw[kQ];omega),kQ]at k
 have k:OS 5 1 bS (.slice (some ⟨e,0,none⟩) 64 64) (ji p++eM 50) m:=k
 have G:=sX k (lo:=0) (n:=14) (cap:=64) (by simp[f]) (by omega) x
 rw[List.drop_zero, <-f,adB,f]at G
 refine .zs<|.cq [9] mixed ?_
 refine .tO 0 rfl .move ?_
 refine .tO 1 rfl (aI.lc 14 18 rfl ⟨_,rfl⟩ ⟨_,rfl⟩ (by omega) (by omega) (by omega)) ?_
 refine .tO 2 rfl .move ?_
 refine .tO 3 rfl (aI.lc 0 14 rfl rfl ⟨_,rfl⟩ (by omega) (by omega) (by omega)) ?_
 refine .tO 5 rfl (.fieldAddr rfl)<|.tO 6 rfl (.bo rfl) ?_
 refine .sT 4 rfl ?_
 refine .aH (MK _ (ji p) _ (G.mono λb o g=>.inr (by have t:(b,o)∈m:=g;simp[t])) (F.mono λb o g=>.inl g)) (λu c=>?_)
 subst c
 refine .nil (Next.sub ?_)
 refine .sT 7 rfl ?_
 refine .aH (wT _ _ p.d _ l.rx (F.mono λb o g=>.inl g)) (λu c=>?_)
 subst c
 refine .nil (Next.sub ?_)
 refine .eF 8 rfl (.cast (v':=.int .i64 ((kg p).toNat:Nat)) .fv O) (by kernel_rfl) ?_
 refine .sT 9 rfl ?_
 refine .aT (nN e 14 4 50 64 64 _ m (kg p).toNat k (by simp[f]) (by omega) (by decide) (by omega) (by omega) _) (λu X c=>?_)
 obtain⟨rfl,E⟩:=c
 rw[m2 f.symm (by rw[fP];omega),fP]at E
 refine .nil (Next.mod rfl ?_)
 refine RA.nil (by kernel_rfl) ?_
 refine aG<|.seq ?_
 refine .cM 4 mixed (by kernel_rfl) ?_
 conv=>arg 6;dsimp only[List.take]
 refine .mo rfl ?_
 refine .q (aI.lc 18 64 rfl ⟨_,rfl⟩ rfl (by omega) (by omega) (by omega)) ?_
 refine .fa rfl<|.lo rfl<|.nil ?_
 refine .uZ (lo:=18) (off:=0) (n:=64) (xs:=ji p++be 4 (kg p).toNat++eM 46) E l.rx rfl (by show Nat.min _ 46=_;exact Nat.min_eq_left (by omega)) (by simp[f,fP]) (by omega) (by simp[f,fP];omega) (by omega) rfl rfl (λr j=>?_)
 have j:OS 5 1 bS (.slice (some ⟨e,0,none⟩) 64 64) (iA (ji p++be 4 (kg p).toNat++eM 46) 18 p.d) r:=by
  unfold iA
  rw[<-adi]
  exact j
 rw[m2 (by simp[f,fP]) (by omega)]at j
 have S:eM (46-p.d.length)=eM (38-p.d.length)++eM 8:=by
  unfold eM
  rw[List.replicate_append_replicate]
  congr 1
  omega
 rw[S, <-adi]at j
 have v:(ji p++be 4 (kg p).toNat++p.d++eM (38-p.d.length)++eM 8).length=64:=by simp[f,fP];omega
 have H:=sX j (lo:=0) (n:=8) (cap:=64) (by rw[v];omega) (by omega) x
 have V:(ji p++be 4 (kg p).toNat++p.d++eM (38-p.d.length)++eM 8).take 8=lZ p:=by
  unfold ji
  simp only[adi]
  rw[<-i,adB]
 rw[List.drop_zero,V]at H
 have U:iA (ji p++be 4 (kg p).toNat++p.d++eM (38-p.d.length)++eM 8) 56 (lZ p)=ff p:=Pw (by simp[f,fP];omega) (by rw[i];simp)
 refine .zs ?_
 refine .cM 4 mixed (by kernel_rfl) ?_
 conv=>arg 6;dsimp only[List.take]
 refine .mo rfl ?_
 refine .q (aI.lc 56 64 rfl ⟨_,rfl⟩ rfl (by omega) (by omega) (by omega)) ?_
 refine .mo rfl ?_
 refine .q (aI.lc 0 8 rfl rfl ⟨_,rfl⟩ (by omega) (by omega) (by omega)) ?_
 refine .nil ?_
 have W:RS (sg r) 1 bS (.slice (some ⟨e,0,none⟩) (lZ p).length 64) (lZ p):=by rw[i];exact H
 refine .uZ (lo:=56) (off:=0) (n:=64) (cap:=64) (xs:=ji p++be 4 (kg p).toNat++p.d++eM (38-p.d.length)++eM 8) (by rw[v];exact j) (W.mono λb o g=>.inr (by have t:(b,o)∈r:=g;simp[t])) rfl (by rw[i];rfl) (by rw[v];omega) (by rw[i];omega) (by simp[f,i,fP];omega) (by omega) rfl rfl (λy s=>?_)
 have s:OS 5 1 bS (.slice (some ⟨e,0,none⟩) 64 64) (ff p) y:=by
  rw[<-U]
  unfold iA
  rw[<-adi]
  exact s
 refine .z<|.mo rfl<|.az rfl ?_
 refine .ret (aO _ (.one (.tmp rfl)) (.one [0] _) ?_)
 ·exact⟨y,by simp[take],e,rfl,s⟩
theorem MI(w:Value)(p:Pt)(R:ao)(h:fj R (w,p))(d:fL p=true)(f:PC R (pT 1) (wv eW)):Spec prog 193 [.agg (df (w,p)).toArray] R [] λu H'=>∃T,H'=[T]/\∃b,u=.tuple [.slice (some ⟨b,0,none⟩) 64 64,.int .i64 0].toArray/\OS 5 1 bS (.slice (some ⟨b,0,none⟩) 64 64) (ff p) T:=by
 have i:bI (df (w,p)):=⟨h.bU⟩
 refine Spec.body func193 rfl results193 ntmps193 rfl ?_
 refine .sr ?_
 refine .cc rfl (λg=>?_)
 refine .ag rfl<|.ag rfl<|.zs<|.sr<|.q (.bj rfl) ?_
 refine .aH (sK w p _ (h.mono λb o a=>.inl a)) (λu c=>?_)
 rw[d]at c
 subst c
 refine .q .not<|.zn<|.bB<|.kn<|.sr<|.q (.bj rfl) ?_
 refine .bM (wW w p _ (h.mono λb o a=>.inl a) d (f.mono λb o a=>.inl a)) (λu T c=>?_)
 obtain⟨b,rfl,e⟩:=c
 refine .ag rfl<|.az rfl ?_
 refine .ret (aO _ (.two (.tmp rfl) (.tmp rfl)) (.one [0] _) ?_)
 ·exact⟨T,by simp[take],b,rfl,e⟩
def dG(p:Option Addr)(cap lo hi:Nat):Value:=.slice (if cap=lo then p else p.map (·.add (lo*1))) (hi-lo) (cap-lo)
theorem RS.dG{α:Type}{R':ao}{enc:α->List Value}{p:Option Addr}{cap lo hi:Nat}{xs:List α}(h:RS R' 1 enc (.slice p xs.length cap) xs)(r:lo<=hi)(s:hi<=xs.length):RS R' 1 enc (dG p cap lo hi) ((xs.drop lo).take (hi-lo)):=by
 obtain⟨t,n,d,o,q,g⟩:=h.h
 simp only[Value.slice.injEq,true_and]at d
 obtain⟨rfl,rfl⟩:=d
 have e:((xs.drop lo).take (hi-lo)).length=hi-lo:=by simp;omega
 refine⟨λx a=>h.len x (adw (adx a)),λx a=>h.one x (adw (adx a)),_,_,by rw[e];rfl,by rw[e];omega,by omega,?_⟩
 rcases g with rfl|⟨b,k,c,E,f,rfl,l,m⟩
 ·exact .inl (by simp)
 ·by_cases j:cap=lo
  ·left
   have:hi-lo=0:=by omega
   rw[this];simp
  ·right
   refine⟨b,k+lo*1,c,E,f,?_,l,m.piece h.len lo (hi-lo)⟩
   rw[ac8 j]
   simp only[Option.map_some,Addr.add]
   split
   ·rename_i i;rw[i];rfl
   ·rfl
theorem aI.dG{P:Program}{R:ao}{env:Env}{H:aF}{ty:TypeId}{x:Operand}{xl c:Option Operand}{t e:TypeId}{p:Option Addr}{n cap:Nat}(lo hi:Nat)(k:ev env x=some (.slice p n cap)) [ut:bh P t (.slice e)] [s:Sz P e 1](f:dR env xl 0 lo)(h:dR env c n hi)(i:lo<=hi)(j:hi<=cap):
  aI P R env H (.slice t x xl c none) ty (dG p cap lo hi):=λa w d m l g b _ _=>by
 have:=oc (P:=P) (w:=w) (p:=p) (n:=n) (cap:=cap) b f h i j (t:=t) (e:=e) (sz:=1)
 simp only[execOp,b.eval k,Option.map_none]
 rw[Sem.run_bind,this]
 rfl
theorem str_inj{a b:List UInt8}:((⟨a.toArray⟩:ByteArray)=⟨b.toArray⟩)↔a=b:=by
 constructor
 ·intro h
  have:=ada (λs:ByteArray=>s.data.toList) h
  simpa using this
 ·rintro rfl;rfl
theorem sD(v w:Value)(a b:List UInt8)(R:ao)(h:RS R 1 bS v a)(c:RS R 1 bS w b):Spec prog 25 [v,w] R [] λu H'=>u=.bool (decide (a=b))/\H'=[]:=by
 have d:=h.ay
 have e:=c.ay
 refine Spec.body func25 rfl results25 ntmps25 rfl ?_
 refine .sr<|.ag rfl<|.z<|.mo rfl ?_
 refine .q (.rN h.rx) ?_
 refine .mo rfl ?_
 refine .q (.rN c.rx) ?_
 refine .q .lz<|.az rfl ?_
 refine .ret (aW rfl ?_)
 ·exact⟨ada Value.bool (decide_eq_decide.2 str_inj),rfl⟩
def Pt.zero:Pt:=⟨0,0,0,0,[]⟩
def gW(b:List UInt8)(lo hi:Nat):Nat:=eb ((b.drop lo).take (hi-lo))
theorem mY{α:Type}{R:ao}{sz:Nat}{enc:α->List Value}:RS R sz enc (sZ) ([]:List α):=(OS.nil (E:=0) (sz:=sz) (enc:=enc)).rs λp a=>by cases a
def dB(b:List UInt8):Pt:=⟨gW b 0 4,gW b 4 8,gW b 8 10,gW b 10 12,(b.drop 18).take (gW b 12 14)⟩
def dV(b:List UInt8):Option Pt:=
 if b.length≠64 then none else if 38<gW b 12 14 then none else if fL (dB b)=true/\ff (dB b)=b then some (dB b)else none
theorem mL{a b c d:Int}{v:Value}(h:ay v=true):eU [(0,1),(1,1),(2,1),(3,1),(4,1)] [.int .i64 0,.int .i64 0,.int .i64 0,.int .i64 0,sZ] [(0,.int .i64 a),(1,.int .i64 b),(2,.int .i64 c),(3,.int .i64 d),(4,v)]=some [.int .i64 a,.int .i64 b,.int .i64 c,.int .i64 d,v]:=by
 cases v<;>first|rfl|cases h
theorem w4(v:Value)(b:List UInt8)(R:ao)(h:RS R 1 bS v b)(K:PC R (pT 1) (wv eW)):
  Spec prog 199 [v] R [] λu H'=>∃T,H'=[T]/\∃(w:Value) (p:Pt) (e:Int),u=.tuple [.agg (df (w,p)).toArray,.int .i64 e].toArray/\fj (sg T) (w,p)/\((e=0/\dV b=some p)\/(e=4/\dV b=none/\p=Pt.zero)):=by
 have Y:=h.ay
 obtain⟨pv,M,rfl⟩:=h.val
 have V:b.length<=M:=by
  obtain⟨Z,Q,D,I,S,U⟩:=h.h
  simp only[Value.slice.injEq,true_and]at D
  obtain⟨rfl,rfl⟩:=D
  exact I
 refine Spec.du (H':=[[]]) (by simp) ?_
 refine Spec.body func199 rfl results199 ntmps199 rfl ?_
 refine .sr ?_
 refine .cn (λH=>?_)
 refine .ag rfl<|.zs<|.sr<|.mo rfl<|.q (.eY rfl) ?_
 refine .q .cb<|.zn ?_
 refine .cond rfl (λA=>?_) λA=>?_
 have m:¬((b.length:Nat):Int)=64:=by simpa using A
 have F:b.length≠64:=by omega
 have k:dV b=none:=by unfold dV;rw[adb F]
 refine .sr ?_
 refine .q .cC ?_
 refine .bZ rfl rfl<|.az rfl ?_
 refine .ret (aR (aO _ (.two (.ej rfl rfl) (.tmp rfl)) (.one [1] _) ?_))
 ·first
   |exact⟨f,by simp[take],w,dB b,0,rfl,d,.inl ⟨rfl,k⟩⟩
   |exact⟨[],by simp[take],sZ,Pt.zero,4,rfl,mY,.inr ⟨rfl,k,rfl⟩⟩
 have m:((b.length:Nat):Int)=64:=by simpa using A
 have F:b.length=64:=by omega
 refine .kn<|.sr<|.mo rfl ?_
 refine .q (aI.dG 12 14 rfl ⟨_,rfl⟩ ⟨_,rfl⟩ (by omega) (by omega)) ?_
 refine .aH (iS _ _ _ (h.dG (lo:=12) (hi:=14) (by omega) (by omega)).rx (by simp;omega)) (λu a=>?_)
 subst a
 obtain⟨n,r⟩:∃n,n=gW b 12 14:=⟨_,rfl⟩
 rw[show eb ((b.drop 12).take (14-12))=n from r.symm]
 refine .ag rfl<|.zs<|.sr<|.mo rfl<|.q .gtr<|.zn ?_
 refine .cond rfl (λB=>?_) λB=>?_
 have k:dV b=none:=by unfold dV;rw[ac8 (by omega),adb (by have m:=bp B;omega)]
 refine .sr ?_
 refine .q .cC ?_
 refine .bZ rfl rfl<|.az rfl ?_
 refine .ret (aR (aO _ (.two (.ej rfl rfl) (.tmp rfl)) (.one [1] _) ?_))
 ·first
   |exact⟨f,by simp[take],w,dB b,0,rfl,d,.inl ⟨rfl,k⟩⟩
   |exact⟨[],by simp[take],sZ,Pt.zero,4,rfl,mY,.inr ⟨rfl,k,rfl⟩⟩
 have W:n<=38:=by have m:=ba B;omega
 refine .kn<|.seq ?_
 refine bF.oW [(0,_),(2,_)] kE.c.c (X:=Nat×Value×au) (λy=>fj (sg y.2.2) (y.2.1,dB b)) (λy E=>(5,.pointer (some ⟨y.1,0,none⟩))::E) (λy=>[[(y.1,.cells (df (y.2.1,dB b)).toArray 207 (0,0))],y.2.2,bl H [.int .i64 0,.int .i64 0,.int .i64 0,.int .i64 0,sZ] 207,[]]) ?_ ?_
 refine .cq [19] mixed ?_
 refine .tO 0 rfl .move ?_
 refine .tO 1 rfl (aI.dG 0 4 rfl rfl ⟨_,rfl⟩ (by omega) (by omega)) ?_
 refine .tO 3 rfl .move ?_
 refine .tO 4 rfl (aI.dG 4 8 rfl ⟨_,rfl⟩ ⟨_,rfl⟩ (by omega) (by omega)) ?_
 refine .tO 6 rfl .move ?_
 refine .tO 7 rfl (aI.dG 8 10 rfl ⟨_,rfl⟩ ⟨_,rfl⟩ (by omega) (by omega)) ?_
 refine .tO 9 rfl .move ?_
 refine .tO 10 rfl (aI.dG 10 12 rfl ⟨_,rfl⟩ ⟨_,rfl⟩ (by omega) (by omega)) ?_
 refine .tO 12 rfl .move<|.tO 13 rfl .move ?_
 refine .eF 14 rfl (.i64 ((18+n:Nat):Int) .add ⟨by omega,by omega,by omega⟩) (by kernel_rfl) ?_
 refine .tO 15 rfl (aI.dG 18 (18+n) rfl ⟨_,rfl⟩ ⟨_,rfl⟩ (by omega) (by omega)) ?_
 refine RA.lh 2 18 rfl rfl (by kernel_rfl) rfl ?_ ?_
 refine .aH (iS _ _ _ (h.dG (lo:=0) (hi:=4) (by omega) (by omega)).rx (by simp;omega)) (λu a=>?_)
 subst a
 refine .nil (Next.sub ?_)
 refine RA.lh 5 18 rfl rfl (by kernel_rfl) rfl ?_ ?_
 refine .aH (iS _ _ _ (h.dG (lo:=4) (hi:=8) (by omega) (by omega)).rx (by simp;omega)) (λu a=>?_)
 subst a
 refine .nil (Next.sub ?_)
 refine RA.lh 8 18 rfl rfl (by kernel_rfl) rfl ?_ ?_
 refine .aH (iS _ _ _ (h.dG (lo:=8) (hi:=10) (by omega) (by omega)).rx (by simp;omega)) (λu a=>?_)
 subst a
 refine .nil (Next.sub ?_)
 refine RA.lh 11 18 rfl rfl (by kernel_rfl) rfl ?_ ?_
 refine .aH (iS _ _ _ (h.dG (lo:=10) (hi:=12) (by omega) (by omega)).rx (by simp;omega)) (λu a=>?_)
 subst a
 refine .nil (Next.sub ?_)
 refine RA.lh 16 18 rfl rfl (by kernel_rfl) rfl ?_ ?_
 refine .bM (ku _ _ _ (h.dG (lo:=18) (hi:=18+n) (by omega) (by omega)).rx (by simp;omega)) (λw f g=>?_)
 have l:=g.ay
 rw[show 18+n-18=n by omega,r]at g
 have d:fj (sg f) (w,dB b):=g.sg
 have x:bI (df (w,dB b)):=⟨d.bU⟩
 refine .nil (Next.sub ?_)
 refine .eF 17 rfl (.cC (out:=df (w,dB b)) rfl (mL l.h)) (by kernel_rfl) ?_
 refine .sT 18 rfl ?_
 refine .cn (λi=>?_)
 refine .nil (Next.sub ?_)
 refine .sT 19 rfl ?_
 refine .bZ rfl rfl ?_
 refine .nil (Next.mod rfl ?_)
 refine RA.nil (by kernel_rfl) ?_
 ·first
   |exact aN (i,w,f) d kE.c.c.c rH
   |exact aN (i,w,f) d kE.c.c.c (bG [1,0,0,0])
 refine .cn (λi=>?_)
 refine .nil (Next.sub ?_)
 refine .sT 16 rfl ?_
 refine .bM (ku _ _ _ (h.dG (lo:=18) (hi:=18+n) (by omega) (by omega)).rx (by simp;omega)) (λw f g=>?_)
 have l:=g.ay
 rw[show 18+n-18=n by omega,r]at g
 have d:fj (sg f) (w,dB b):=g.sg
 have x:bI (df (w,dB b)):=⟨d.bU⟩
 refine .nil (Next.sub ?_)
 refine .eF 17 rfl (.cC (out:=df (w,dB b)) rfl (mL l.h)) (by kernel_rfl) ?_
 refine .sT 19 rfl ?_
 refine .bZ rfl rfl ?_
 refine .nil (Next.mod rfl ?_)
 refine RA.nil (by kernel_rfl) ?_
 ·first
   |exact aN (i,w,f) d kE.c.c.c rH
   |exact aN (i,w,f) d kE.c.c.c (bG [1,0,0,0])
 refine .cn (λi=>?_)
 refine .nil (Next.sub ?_)
 refine .sT 11 rfl ?_
 refine .aH (iS _ _ _ (h.dG (lo:=10) (hi:=12) (by omega) (by omega)).rx (by simp;omega)) (λu a=>?_)
 subst a
 refine .nil (Next.sub ?_)
 refine .sT 16 rfl ?_
 refine .bM (ku _ _ _ (h.dG (lo:=18) (hi:=18+n) (by omega) (by omega)).rx (by simp;omega)) (λw f g=>?_)
 have l:=g.ay
 rw[show 18+n-18=n by omega,r]at g
 have d:fj (sg f) (w,dB b):=g.sg
 have x:bI (df (w,dB b)):=⟨d.bU⟩
 refine .nil (Next.sub ?_)
 refine .eF 17 rfl (.cC (out:=df (w,dB b)) rfl (mL l.h)) (by kernel_rfl) ?_
 refine .sT 19 rfl ?_
 refine .bZ rfl rfl ?_
 refine .nil (Next.mod rfl ?_)
 refine RA.nil (by kernel_rfl) ?_
 ·first
   |exact aN (i,w,f) d kE.c.c.c rH
   |exact aN (i,w,f) d kE.c.c.c (bG [1,0,0,0])
 refine .cn (λi=>?_)
 refine .nil (Next.sub ?_)
 refine .sT 8 rfl ?_
 refine .aH (iS _ _ _ (h.dG (lo:=8) (hi:=10) (by omega) (by omega)).rx (by simp;omega)) (λu a=>?_)
 subst a
 refine .nil (Next.sub ?_)
 refine .sT 11 rfl ?_
 refine .aH (iS _ _ _ (h.dG (lo:=10) (hi:=12) (by omega) (by omega)).rx (by simp;omega)) (λu a=>?_)
 subst a
 refine .nil (Next.sub ?_)
 refine .sT 16 rfl ?_
 refine .bM (ku _ _ _ (h.dG (lo:=18) (hi:=18+n) (by omega) (by omega)).rx (by simp;omega)) (λw f g=>?_)
 have l:=g.ay
 rw[show 18+n-18=n by omega,r]at g
 have d:fj (sg f) (w,dB b):=g.sg
 have x:bI (df (w,dB b)):=⟨d.bU⟩
 refine .nil (Next.sub ?_)
 refine .eF 17 rfl (.cC (out:=df (w,dB b)) rfl (mL l.h)) (by kernel_rfl) ?_
 refine .sT 19 rfl ?_
 refine .bZ rfl rfl ?_
 refine .nil (Next.mod rfl ?_)
 refine RA.nil (by kernel_rfl) ?_
 ·first
   |exact aN (i,w,f) d kE.c.c.c rH
   |exact aN (i,w,f) d kE.c.c.c (bG [1,0,0,0])
 refine .cn (λi=>?_)
 refine .nil (Next.sub ?_)
 refine .sT 5 rfl ?_
 refine .aH (iS _ _ _ (h.dG (lo:=4) (hi:=8) (by omega) (by omega)).rx (by simp;omega)) (λu a=>?_)
 subst a
 refine .nil (Next.sub ?_)
 refine .sT 8 rfl ?_
 refine .aH (iS _ _ _ (h.dG (lo:=8) (hi:=10) (by omega) (by omega)).rx (by simp;omega)) (λu a=>?_)
 subst a
 refine .nil (Next.sub ?_)
 refine .sT 11 rfl ?_
 refine .aH (iS _ _ _ (h.dG (lo:=10) (hi:=12) (by omega) (by omega)).rx (by simp;omega)) (λu a=>?_)
 subst a
 refine .nil (Next.sub ?_)
 refine .sT 16 rfl ?_
 refine .bM (ku _ _ _ (h.dG (lo:=18) (hi:=18+n) (by omega) (by omega)).rx (by simp;omega)) (λw f g=>?_)
 have l:=g.ay
 rw[show 18+n-18=n by omega,r]at g
 have d:fj (sg f) (w,dB b):=g.sg
 have x:bI (df (w,dB b)):=⟨d.bU⟩
 refine .nil (Next.sub ?_)
 refine .eF 17 rfl (.cC (out:=df (w,dB b)) rfl (mL l.h)) (by kernel_rfl) ?_
 refine .sT 19 rfl ?_
 refine .bZ rfl rfl ?_
 refine .nil (Next.mod rfl ?_)
 refine RA.nil (by kernel_rfl) ?_
 ·first
   |exact aN (i,w,f) d kE.c.c.c rH
   |exact aN (i,w,f) d kE.c.c.c (bG [1,0,0,0])
 refine .cn (λi=>?_)
 refine .nil (Next.sub ?_)
 refine .sT 2 rfl ?_
 refine .aH (iS _ _ _ (h.dG (lo:=0) (hi:=4) (by omega) (by omega)).rx (by simp;omega)) (λu a=>?_)
 subst a
 refine .nil (Next.sub ?_)
 refine .sT 5 rfl ?_
 refine .aH (iS _ _ _ (h.dG (lo:=4) (hi:=8) (by omega) (by omega)).rx (by simp;omega)) (λu a=>?_)
 subst a
 refine .nil (Next.sub ?_)
 refine .sT 8 rfl ?_
 refine .aH (iS _ _ _ (h.dG (lo:=8) (hi:=10) (by omega) (by omega)).rx (by simp;omega)) (λu a=>?_)
 subst a
 refine .nil (Next.sub ?_)
 refine .sT 11 rfl ?_
 refine .aH (iS _ _ _ (h.dG (lo:=10) (hi:=12) (by omega) (by omega)).rx (by simp;omega)) (λu a=>?_)
 subst a
 refine .nil (Next.sub ?_)
 refine .sT 16 rfl ?_
 refine .bM (ku _ _ _ (h.dG (lo:=18) (hi:=18+n) (by omega) (by omega)).rx (by simp;omega)) (λw f g=>?_)
 have l:=g.ay
 rw[show 18+n-18=n by omega,r]at g
 have d:fj (sg f) (w,dB b):=g.sg
 have x:bI (df (w,dB b)):=⟨d.bU⟩
 refine .nil (Next.sub ?_)
 refine .eF 17 rfl (.cC (out:=df (w,dB b)) rfl (mL l.h)) (by kernel_rfl) ?_
 refine .sT 19 rfl ?_
 refine .bZ rfl rfl ?_
 refine .nil (Next.mod rfl ?_)
 refine RA.nil (by kernel_rfl) ?_
 ·first
   |exact aN (i,w,f) d kE.c.c.c rH
   |exact aN (i,w,f) d kE.c.c.c (bG [1,0,0,0])
 intro y L
 obtain⟨i,w,f⟩:=y
 have d:fj (sg f) (w,dB b):=L
 have x:bI (df (w,dB b)):=⟨d.bU⟩
 refine aG<|.seq<|.sr<|.q (.bj rfl) ?_
 refine .aH (sK w (dB b) _ (d.mono λb o z=>.inr (by have C:(b,o)∈f:=z;simp[C]))) (λu a=>?_)
 subst a
 refine .q .not<|.mo rfl ?_
 refine .split (t:=37) rfl (λj=>?_) (λj=>?_)
 have k:dV b=none:=by unfold dV;rw[ac8 (by omega),ac8 (by omega),ac8 (by intro m;rw[m.1]at j;cases j)]
 refine .gF j<|.gF j<|.gF j<|.gF j<|.gF j<|.q (.bA j) ?_
 refine .zn<|.cW ?_
 first
  |(have k:dV b=none:=by unfold dV;rw[ac8 (by omega),ac8 (by omega),ac8 (by intro m;rw[ade m.2]at s;cases s)])
  |skip
 refine .sr ?_
 refine .q .cC ?_
 refine .bZ rfl rfl<|.az rfl ?_
 refine .ret (aR (aO _ (.two (.ej rfl rfl) (.tmp rfl)) (.one [3] _) ?_))
 ·first
   |exact⟨f,by simp[take],w,dB b,0,rfl,d,.inl ⟨rfl,k⟩⟩
   |exact⟨[],by simp[take],sZ,Pt.zero,4,rfl,mY,.inr ⟨rfl,k,rfl⟩⟩
 have G:fL (dB b)=true:=by simpa using j
 refine .gT j<|.q (.bj rfl)<|.gT j ?_
 refine .bM (wW w (dB b) _ (d.mono λb o z=>.inr (by have C:(b,o)∈f:=z;simp[C])) G (K.mono λb o z=>.inl z)) (λu N a=>?_)
 obtain⟨O,rfl,J⟩:=a
 refine .gT j<|.mo rfl<|.gT j ?_
 refine .aH (sD _ _ (ff (dB b)) b _ (J.rs λp d=>.inr (by simp[d])) h.rx) (λu a=>?_)
 subst a
 refine .gT j<|.q .not<|.q (.bg j) ?_
 refine .zn ?_
 refine .cond rfl (λs=>?_) λs=>?_
 first
  |(have k:dV b=none:=by unfold dV;rw[ac8 (by omega),ac8 (by omega),ac8 (by intro m;rw[ade m.2]at s;cases s)])
  |skip
 refine .sr ?_
 refine .q .cC ?_
 refine .bZ rfl rfl<|.az rfl ?_
 refine .ret (aR (aO _ (.two (.ej rfl rfl) (.tmp rfl)) (.one [4] _) ?_))
 ·first
   |exact⟨f,by simp[take],w,dB b,0,rfl,d,.inl ⟨rfl,k⟩⟩
   |exact⟨[],by simp[take],sZ,Pt.zero,4,rfl,mY,.inr ⟨rfl,k,rfl⟩⟩
 have k:dV b=some (dB b):=by unfold dV;rw[ac8 (by omega),ac8 (by omega),adb ⟨G,by simpa using s⟩]
 refine .kn<|.sr<|.q (.bj rfl)<|.bZ rfl rfl<|.az rfl ?_
 refine .ret (aO _ (.two (.ej rfl rfl) (.tmp rfl)) (.one [2] _) ?_)
 ·first
   |exact⟨f,by simp[take],w,dB b,0,rfl,d,.inl ⟨rfl,k⟩⟩
   |exact⟨[],by simp[take],sZ,Pt.zero,4,rfl,mY,.inr ⟨rfl,k,rfl⟩⟩
def jL(n:Nat):Nat:=max ((n+38-1)/38) 1
def ke(ep sq:Nat)(b:List UInt8)(i:Nat):Pt:=⟨ep,sq+i,i,jL b.length,(b.drop (min (i*38) b.length)).take (min ((i+1)*38) b.length-min (i*38) b.length)⟩
def q9(ep sq:Nat)(b:List UInt8):List Pt:=(List.range (jL b.length)).map (ke ep sq b)
def oZ(p:Pt):Bool:=if(p.ix:Int)<(p.tt:Int)-1 then decide (p.d.length=38)else if 1<p.tt then decide (0<p.d.length)else true
def iV(n e0 s0 i:Nat)(p:Pt):Bool:=fL p&&(decide (p.tt=n)&&(decide (p.ix=i)&&(decide (p.ep=e0)&&(decide (p.sq=s0+i)&&oZ p))))
def oP(n e0 s0:Nat):Nat->List Pt->Bool
 |_,[]=>true
 |i,p::l=>iV n e0 s0 i p&&oP n e0 s0 (i+1) l
def kU(l:List Pt):Option (List UInt8):=match l with
 |[]=>none
 |p::l'=>if oP (l'.length+1) p.ep p.sq 0 (p::l')=true then some ((p::l').flatMap (·.d))else none
theorem rG{n b c:Nat}:∀{l:List Pt} {i:Nat},oP n b c i l=true↔∀k p,l[k]? =some p->iV n b c (i+k) p=true
 |[],i=>by simp[oP]
 |p::l,i=>by
  rw[oP,adC,rG]
  constructor
  ·rintro⟨d,e⟩ k q a
   cases k with
   |zero=>simp at a;subst a;exact d
   |succ k=>have:=e k q (by simpa using a);rwa [show i+(k+1)=i+1+k by omega]
  ·intro h
   exact⟨h 0 p rfl,λk q a=>by have:=h (k+1) q (by simpa using a);rwa [show i+(k+1)=i+1+k by omega]at this⟩
theorem MN(w:Value)(p:Pt)(R:ao)(h:fj R (w,p))(f:fL p=true):Spec prog 198 [.agg (df (w,p)).toArray] R [] λu H'=>u=.bool (oZ p)/\H'=[]:=by
  have k:bI (df (w,p)):=⟨h.bU⟩
  have b:RS R 1 bS w p.d:=h
  have l:=b.ay
  have j:=b.le
  obtain⟨m,n,o,r,s,t⟩:=gB.1 f
  refine Spec.body func198 rfl results198 ntmps198 rfl ?_
  refine .sr ?_
  refine .cc rfl (λi=>?_)
  refine .ag rfl<|.zs<|.block<|.sr<|.fa rfl<|.lo rfl<|.fa rfl<|.lo rfl ?_
  refine .q (.i64 ((p.tt:Int)-1) .sub ⟨rfl,by omega,by omega⟩) ?_
  refine .q .lss<|.az rfl ?_
  refine .cond rfl (λc=>?_) λc=>?_
  have a:(p.ix:Int)<(p.tt:Int)-1:=bp c
  refine .sr<|.fa rfl<|.lo rfl<|.q (.cv b) ?_
  refine .q .cG<|.az rfl ?_
  refine .ret (bi (aR (aO _ (.one (.tmp rfl)) (bG []) ?_)))
  ·unfold oZ
   first
     |(rw[adb a]
       exact⟨ada Value.bool (by rw[ac9];simp;omega),rfl⟩)
     |(rw[ac8 a,adb (by omega)]
       exact⟨ada Value.bool (by rw[ac9];simp),rfl⟩)
     |(rw[ac8 a,ac8 (by omega)]
       exact⟨rfl,rfl⟩)
  have a:¬(p.ix:Int)<(p.tt:Int)-1:=ba c
  refine .sr<|.fa rfl<|.lo rfl<|.q .gtr<|.az rfl ?_
  refine .cond rfl (λe=>?_) λe=>?_
  have g:(1:Int)<(p.tt:Int):=bp e
  refine .sr<|.fa rfl<|.lo rfl<|.q (.cv b) ?_
  refine .q .gtr<|.az rfl ?_
  refine .ret (bi (aR (aO _ (.one (.tmp rfl)) (bG []) ?_)))
  ·unfold oZ
   first
     |(rw[adb a]
       exact⟨ada Value.bool (by rw[ac9];simp;omega),rfl⟩)
     |(rw[ac8 a,adb (by omega)]
       exact⟨ada Value.bool (by rw[ac9];simp),rfl⟩)
     |(rw[ac8 a,ac8 (by omega)]
       exact⟨rfl,rfl⟩)
  have g:¬(1:Int)<(p.tt:Int):=ba e
  refine .skip<|bz<|aG<|.sr<|.az rfl ?_
  refine .ret (aO _ (.one (.tmp rfl)) (bG []) ?_)
  ·unfold oZ
   first
     |(rw[adb a]
       exact⟨ada Value.bool (by rw[ac9];simp;omega),rfl⟩)
     |(rw[ac8 a,adb (by omega)]
       exact⟨ada Value.bool (by rw[ac9];simp),rfl⟩)
     |(rw[ac8 a,ac8 (by omega)]
       exact⟨rfl,rfl⟩)
theorem sG(v:Value)(ps:List hK)(R:ao)(h:RS R 5 df v ps)(F:∀p∈ps,fj R p):Spec prog 108 [v] R [] λu H'=>∃T,H'=[T]/\∃(w:Value) (l:List UInt8) (e:Int),u=.tuple [w,.int .i64 e].toArray/\OS 5 1 bS w l T/\((e=0/\kU (ps.map (·.2))=some l)\/(e=4/\kU (ps.map (·.2))=none/\l=[])):=by
  have iv:=h.ay
  have c1:=h.le
  refine Spec.du (H':=[[]]) (by simp) ?_
  obtain⟨n,D⟩:∃n,n=ps.length:=⟨_,rfl⟩
  have N:(ps.map (·.2)).length=n:=by rw[List.length_map,D]
  refine Spec.body func108 rfl results108 ntmps108 rfl ?_
  refine .sr<|.ag rfl<|.ag rfl<|.z<|.ag rfl<|.zs<|.sr<|.mo rfl<|.q (.cv h) ?_
  refine .mo rfl<|.zn<|.block ?_
  refine .ik [(0,_),(7,_),(8,_)] (X:=Nat×Value×au) (λy=>y.1<=n/\OS 5 1 bS y.2.1 (((ps.map (·.2)).take y.1).flatMap (·.d)) y.2.2/\(((ps.map (·.2)).take y.1).flatMap (·.d)).length<=38*y.1/\(0<y.1->n<=65535)/\∀a,(ps.map (·.2))[0]? =some a->∀k p,k<y.1->(ps.map (·.2))[k]? =some p->iV n a.ep a.sq k p=true) (λy E=>(9,iN y.1)::(4,y.2.1)::E) (G:=[]) (λy G=>y.2.2::G) (λy=>n-y.1) (0,sZ,[]) ⟨adg _,OS.nil,by simp,by omega,λ_ _ k p U=>by omega⟩ kE.c.c.c.c.c rH ?_
  rintro⟨i,vo,To⟩ ⟨hi,x,a8,b4,B⟩
  simp only at hi x a8 b4 B⊢
  have c3:=x.ay
  refine .sr<|.q .lss<|.zs ?_
  refine .cond rfl (λh1=>?_) λh1=>?_
  have b3:i<ps.length:=by have h9:=bp h1;omega
  obtain⟨⟨w,p⟩,hz⟩:=dM b3
  have C:=F _ (bD hz)
  have O:bI (df (w,p)):=⟨C.bU⟩
  have J:RS R 1 bS w p.d:=C
  have a5:(ps.map (·.2))[i]? =some p:=by rw[adD,hz];rfl
  obtain⟨⟨w0,a⟩,L⟩:∃z,ps[0]? =some z:=⟨_,bd (by omega)⟩
  have K:=F _ (bD L)
  have Q:bI (df (w0,a)):=⟨K.bU⟩
  have S:PC R (eA v (0*5)) (df (w0,a)):=h.pc L
  have H:(ps.map (·.2))[0]? =some a:=by rw[adD,L];rfl
  refine .kn<|.seq<|.block<|.sr<|.mo rfl ?_
  refine .cB i h hz (λc4=>?_)
  refine .q (.bj rfl) ?_
  refine .cn (λb6=>?_)
  refine .ag rfl<|.bZ rfl rfl<|.zs<|.seq ?_
  refine bF.oW [(0,_),(4,_),(6,_),(7,_),(8,_),(9,_)] kE.c.c.c.c.c.c (X:=Unit) (λ_=>True) (λ_ E=>(54,.bool (!iV n a.ep a.sq i p))::E) (λ_=>[bl b6 (df (w,p)) 207,To]) ?_ ?_
  refine .cq [] mixed ?_
  refine .tO 0 rfl (.bj rfl) ?_
  refine .sT 1 rfl ?_
  refine .aH (sK w p _ (C.mono λb o hb=>.inl hb)) (λu hu=>?_)
  subst hu
  refine .nil (Next.sub ?_)
  refine .tO 2 rfl .not<|.tO 3 rfl .move ?_
  refine RA.split (t:=17) rfl (λj=>?_) (λj=>?_)
  refine .cV 4 rfl rfl j rfl (by kernel_rfl) ?_
  refine .cV 5 rfl rfl j rfl (by kernel_rfl) ?_
  refine .cV 6 rfl rfl j rfl (by kernel_rfl) ?_
  refine .cV 7 rfl rfl j rfl (by kernel_rfl) ?_
  refine .cV 8 rfl rfl j rfl (by kernel_rfl) ?_
  refine .tO 9 rfl (.bA j) ?_
  refine .tO 10 rfl .move ?_
  refine .cA 11 rfl rfl rfl (by kernel_rfl) ?_
  refine .cA 12 rfl rfl rfl (by kernel_rfl) ?_
  refine .cA 13 rfl rfl rfl (by kernel_rfl) ?_
  refine .cA 14 rfl rfl rfl (by kernel_rfl) ?_
  refine .tO 15 rfl .dh<|.tO 16 rfl .move ?_
  refine .cA 17 rfl rfl rfl (by kernel_rfl) ?_
  refine .cA 18 rfl rfl rfl (by kernel_rfl) ?_
  refine .cA 19 rfl rfl rfl (by kernel_rfl) ?_
  refine .cA 20 rfl rfl rfl (by kernel_rfl) ?_
  refine .cA 21 rfl rfl rfl (by kernel_rfl) ?_
  refine .cA 22 rfl rfl rfl (by kernel_rfl) ?_
  refine .cA 23 rfl rfl rfl (by kernel_rfl) ?_
  refine .tO 24 rfl .dh<|.tO 25 rfl .move ?_
  refine .cA 26 rfl rfl rfl (by kernel_rfl) ?_
  refine .cA 27 rfl rfl rfl (by kernel_rfl) ?_
  refine .cA 28 rfl rfl rfl (by kernel_rfl) ?_
  refine .cA 29 rfl rfl rfl (by kernel_rfl) ?_
  refine .cA 30 rfl rfl rfl (by kernel_rfl) ?_
  refine .cA 31 rfl rfl rfl (by kernel_rfl) ?_
  refine .cA 32 rfl rfl rfl (by kernel_rfl) ?_
  refine .cA 33 rfl rfl rfl (by kernel_rfl) ?_
  refine .cA 34 rfl rfl rfl (by kernel_rfl) ?_
  refine .tO 35 rfl .dh<|.tO 36 rfl .move ?_
  refine .cA 37 rfl rfl rfl (by kernel_rfl) ?_
  refine .sT 38 rfl ?_
  refine .gX ?_
  refine .nil (Next.sub ?_)
  refine .cA 39 rfl rfl rfl (by kernel_rfl) ?_
  refine .tO 40 rfl .dh ?_
  refine RA.nil (by kernel_rfl) ?_
  ·refine aN () adf (kE.c.c.c.c.c.c.iQ rfl ?_) rH
   unfold iV
   first
     |(rw[show fL p=false by simpa using j];rfl)
     |(rw[A,D,adn]
       clear h F x B C O J K Q S
       first
         |(have V:(p.tt:Int)=(ps.length:Nat):=by simpa using m
           have W:(p.ix:Int)=(i:Nat):=by simpa using g
           have Y:(p.ep:Int)=(a.ep:Nat):=by simpa using f
           have Z:(p.sq:Int)=(a.sq:Int)+(i:Int):=by simpa using s
           rw[ade (p:=p.tt=ps.length) (by omega),ade (p:=p.ix=i) (by omega),ade (p:=p.ep=a.ep) (by omega),ade (p:=p.sq=a.sq+i) (by omega)]
           rfl)
         |(rw[ac9]
           simp at *
           omega))
  have A:fL p=true:=by simpa using j
  have b7:fL a=true:=by
    by_cases h0:i=0
    ·subst h0
     rw[hz]at L
     cases L
     exact A
    ·have h9:=B a H 0 a (by omega) H
     unfold iV at h9
     rw[adC]at h9
     exact h9.1
  have b8:=(gB.1 A).2.1
  have b9:=(gB.1 b7).2.1
  have a9:=(gB.1 A).2.2.2.1
  refine .dd 4 rfl rfl j (.fieldAddr rfl) (by kernel_rfl) ?_
  refine .dd 5 rfl rfl j (.bo rfl) (by kernel_rfl) ?_
  refine .dd 6 rfl rfl j .move (by kernel_rfl) ?_
  refine .dd 7 rfl rfl j (.cv h) (by kernel_rfl) ?_
  refine .dd 8 rfl rfl j .cb (by kernel_rfl) ?_
  refine .tO 9 rfl (.bg j) ?_
  refine .tO 10 rfl .move ?_
  refine RA.split (t:=24) rfl (λm=>?_) (λm=>?_)
  refine .cV 11 rfl rfl m rfl (by kernel_rfl) ?_
  refine .cV 12 rfl rfl m rfl (by kernel_rfl) ?_
  refine .cV 13 rfl rfl m rfl (by kernel_rfl) ?_
  refine .cV 14 rfl rfl m rfl (by kernel_rfl) ?_
  refine .tO 15 rfl (.bA m) ?_
  refine .tO 16 rfl .move ?_
  refine .cA 17 rfl rfl rfl (by kernel_rfl) ?_
  refine .cA 18 rfl rfl rfl (by kernel_rfl) ?_
  refine .cA 19 rfl rfl rfl (by kernel_rfl) ?_
  refine .cA 20 rfl rfl rfl (by kernel_rfl) ?_
  refine .cA 21 rfl rfl rfl (by kernel_rfl) ?_
  refine .cA 22 rfl rfl rfl (by kernel_rfl) ?_
  refine .cA 23 rfl rfl rfl (by kernel_rfl) ?_
  refine .tO 24 rfl .dh<|.tO 25 rfl .move ?_
  refine .cA 26 rfl rfl rfl (by kernel_rfl) ?_
  refine .cA 27 rfl rfl rfl (by kernel_rfl) ?_
  refine .cA 28 rfl rfl rfl (by kernel_rfl) ?_
  refine .cA 29 rfl rfl rfl (by kernel_rfl) ?_
  refine .cA 30 rfl rfl rfl (by kernel_rfl) ?_
  refine .cA 31 rfl rfl rfl (by kernel_rfl) ?_
  refine .cA 32 rfl rfl rfl (by kernel_rfl) ?_
  refine .cA 33 rfl rfl rfl (by kernel_rfl) ?_
  refine .cA 34 rfl rfl rfl (by kernel_rfl) ?_
  refine .tO 35 rfl .dh<|.tO 36 rfl .move ?_
  refine .cA 37 rfl rfl rfl (by kernel_rfl) ?_
  refine .sT 38 rfl ?_
  refine .gX ?_
  refine .nil (Next.sub ?_)
  refine .cA 39 rfl rfl rfl (by kernel_rfl) ?_
  refine .tO 40 rfl .dh ?_
  refine RA.nil (by kernel_rfl) ?_
  ·refine aN () adf (kE.c.c.c.c.c.c.iQ rfl ?_) rH
   unfold iV
   first
     |(rw[show fL p=false by simpa using j];rfl)
     |(rw[A,D,adn]
       clear h F x B C O J K Q S
       first
         |(have V:(p.tt:Int)=(ps.length:Nat):=by simpa using m
           have W:(p.ix:Int)=(i:Nat):=by simpa using g
           have Y:(p.ep:Int)=(a.ep:Nat):=by simpa using f
           have Z:(p.sq:Int)=(a.sq:Int)+(i:Int):=by simpa using s
           rw[ade (p:=p.tt=ps.length) (by omega),ade (p:=p.ix=i) (by omega),ade (p:=p.ep=a.ep) (by omega),ade (p:=p.sq=a.sq+i) (by omega)]
           rfl)
         |(rw[ac9]
           simp at *
           omega))
  refine .dd 11 rfl rfl m (.fieldAddr rfl) (by kernel_rfl) ?_
  refine .dd 12 rfl rfl m (.bo rfl) (by kernel_rfl) ?_
  refine .dd 13 rfl rfl m .move (by kernel_rfl) ?_
  refine .dd 14 rfl rfl m .cb (by kernel_rfl) ?_
  refine .tO 15 rfl (.bg m) ?_
  refine .tO 16 rfl .move ?_
  refine RA.split (t:=30) rfl (λg=>?_) (λg=>?_)
  refine .cV 17 rfl rfl g rfl (by kernel_rfl) ?_
  refine .cV 18 rfl rfl g rfl (by kernel_rfl) ?_
  refine .cV 19 rfl rfl g rfl (by kernel_rfl) ?_
  refine .cV 20 rfl rfl g rfl (by kernel_rfl) ?_
  refine .cV 21 rfl rfl g rfl (by kernel_rfl) ?_
  refine .cV 22 rfl rfl g rfl (by kernel_rfl) ?_
  refine .cV 23 rfl rfl g rfl (by kernel_rfl) ?_
  refine .tO 24 rfl (.bA g) ?_
  refine .tO 25 rfl .move ?_
  refine .cA 26 rfl rfl rfl (by kernel_rfl) ?_
  refine .cA 27 rfl rfl rfl (by kernel_rfl) ?_
  refine .cA 28 rfl rfl rfl (by kernel_rfl) ?_
  refine .cA 29 rfl rfl rfl (by kernel_rfl) ?_
  refine .cA 30 rfl rfl rfl (by kernel_rfl) ?_
  refine .cA 31 rfl rfl rfl (by kernel_rfl) ?_
  refine .cA 32 rfl rfl rfl (by kernel_rfl) ?_
  refine .cA 33 rfl rfl rfl (by kernel_rfl) ?_
  refine .cA 34 rfl rfl rfl (by kernel_rfl) ?_
  refine .tO 35 rfl .dh<|.tO 36 rfl .move ?_
  refine .cA 37 rfl rfl rfl (by kernel_rfl) ?_
  refine .sT 38 rfl ?_
  refine .gX ?_
  refine .nil (Next.sub ?_)
  refine .cA 39 rfl rfl rfl (by kernel_rfl) ?_
  refine .tO 40 rfl .dh ?_
  refine RA.nil (by kernel_rfl) ?_
  ·refine aN () adf (kE.c.c.c.c.c.c.iQ rfl ?_) rH
   unfold iV
   first
     |(rw[show fL p=false by simpa using j];rfl)
     |(rw[A,D,adn]
       clear h F x B C O J K Q S
       first
         |(have V:(p.tt:Int)=(ps.length:Nat):=by simpa using m
           have W:(p.ix:Int)=(i:Nat):=by simpa using g
           have Y:(p.ep:Int)=(a.ep:Nat):=by simpa using f
           have Z:(p.sq:Int)=(a.sq:Int)+(i:Int):=by simpa using s
           rw[ade (p:=p.tt=ps.length) (by omega),ade (p:=p.ix=i) (by omega),ade (p:=p.ep=a.ep) (by omega),ade (p:=p.sq=a.sq+i) (by omega)]
           rfl)
         |(rw[ac9]
           simp at *
           omega))
  refine .dd 17 rfl rfl g (.fieldAddr rfl) (by kernel_rfl) ?_
  refine .dd 18 rfl rfl g (.bo rfl) (by kernel_rfl) ?_
  refine .dd 19 rfl rfl g .move (by kernel_rfl) ?_
  refine .dd 20 rfl rfl g (.cB 0 h L rfl rfl rfl) (by kernel_rfl) ?_
  refine .dd 21 rfl rfl g (.fieldAddr rfl) (by kernel_rfl) ?_
  refine .dd 22 rfl rfl g (.bo rfl) (by kernel_rfl) ?_
  refine .dd 23 rfl rfl g .cb (by kernel_rfl) ?_
  refine .tO 24 rfl (.bg g) ?_
  refine .tO 25 rfl .move ?_
  refine RA.split (t:=39) rfl (λf=>?_) (λf=>?_)
  refine .cV 26 rfl rfl f rfl (by kernel_rfl) ?_
  refine .cV 27 rfl rfl f rfl (by kernel_rfl) ?_
  refine .cV 28 rfl rfl f rfl (by kernel_rfl) ?_
  refine .cV 29 rfl rfl f rfl (by kernel_rfl) ?_
  refine .cV 30 rfl rfl f rfl (by kernel_rfl) ?_
  refine .cV 31 rfl rfl f rfl (by kernel_rfl) ?_
  refine .cV 32 rfl rfl f rfl (by kernel_rfl) ?_
  refine .cV 33 rfl rfl f rfl (by kernel_rfl) ?_
  refine .cV 34 rfl rfl f rfl (by kernel_rfl) ?_
  refine .tO 35 rfl (.bA f) ?_
  refine .tO 36 rfl .move ?_
  refine .cA 37 rfl rfl rfl (by kernel_rfl) ?_
  refine .sT 38 rfl ?_
  refine .gX ?_
  refine .nil (Next.sub ?_)
  refine .cA 39 rfl rfl rfl (by kernel_rfl) ?_
  refine .tO 40 rfl .dh ?_
  refine RA.nil (by kernel_rfl) ?_
  ·refine aN () adf (kE.c.c.c.c.c.c.iQ rfl ?_) rH
   unfold iV
   first
     |(rw[show fL p=false by simpa using j];rfl)
     |(rw[A,D,adn]
       clear h F x B C O J K Q S
       first
         |(have V:(p.tt:Int)=(ps.length:Nat):=by simpa using m
           have W:(p.ix:Int)=(i:Nat):=by simpa using g
           have Y:(p.ep:Int)=(a.ep:Nat):=by simpa using f
           have Z:(p.sq:Int)=(a.sq:Int)+(i:Int):=by simpa using s
           rw[ade (p:=p.tt=ps.length) (by omega),ade (p:=p.ix=i) (by omega),ade (p:=p.ep=a.ep) (by omega),ade (p:=p.sq=a.sq+i) (by omega)]
           rfl)
         |(rw[ac9]
           simp at *
           omega))
  refine .dd 26 rfl rfl f (.fieldAddr rfl) (by kernel_rfl) ?_
  refine .dd 27 rfl rfl f (.bo rfl) (by kernel_rfl) ?_
  refine .dd 28 rfl rfl f .move (by kernel_rfl) ?_
  refine .dd 29 rfl rfl f (.cB 0 h L rfl rfl rfl) (by kernel_rfl) ?_
  refine .dd 30 rfl rfl f (.fieldAddr rfl) (by kernel_rfl) ?_
  refine .dd 31 rfl rfl f (.bo rfl) (by kernel_rfl) ?_
  refine .dd 32 rfl rfl f .move (by kernel_rfl) ?_
  refine .dd 33 rfl rfl f (.i64 ((a.sq:Int)+(i:Int)) .add ⟨rfl,by omega,by omega⟩) (by kernel_rfl) ?_
  refine .dd 34 rfl rfl f .cb (by kernel_rfl) ?_
  refine .tO 35 rfl (.bg f) ?_
  refine .tO 36 rfl .move ?_
  refine RA.split (t:=50) rfl (λs=>?_) (λs=>?_)
  refine .cV 37 rfl rfl s rfl (by kernel_rfl) ?_
  refine .sT 38 rfl ?_
  refine .gF s ?_
  refine .nil (Next.sub ?_)
  refine .cV 39 rfl rfl s rfl (by kernel_rfl) ?_
  refine .tO 40 rfl (.bA s) ?_
  refine RA.nil (by kernel_rfl) ?_
  ·refine aN () adf (kE.c.c.c.c.c.c.iQ rfl ?_) rH
   unfold iV
   first
     |(rw[show fL p=false by simpa using j];rfl)
     |(rw[A,D,adn]
       clear h F x B C O J K Q S
       first
         |(have V:(p.tt:Int)=(ps.length:Nat):=by simpa using m
           have W:(p.ix:Int)=(i:Nat):=by simpa using g
           have Y:(p.ep:Int)=(a.ep:Nat):=by simpa using f
           have Z:(p.sq:Int)=(a.sq:Int)+(i:Int):=by simpa using s
           rw[ade (p:=p.tt=ps.length) (by omega),ade (p:=p.ix=i) (by omega),ade (p:=p.ep=a.ep) (by omega),ade (p:=p.sq=a.sq+i) (by omega)]
           rfl)
         |(rw[ac9]
           simp at *
           omega))
  refine .dd 37 rfl rfl s (.bj rfl) (by kernel_rfl) ?_
  refine .sT 38 rfl ?_
  refine .gT s ?_
  refine .aH (MN w p _ (C.mono λb o hb=>.inl hb) A) (λu hu=>?_)
  subst hu
  refine .nil (Next.sub ?_)
  refine .dd 39 rfl rfl s .not (by kernel_rfl) ?_
  refine .tO 40 rfl (.bg s) ?_
  refine RA.nil (by kernel_rfl) ?_
  ·refine aN () adf (kE.c.c.c.c.c.c.iQ rfl ?_) rH
   unfold iV
   first
     |(rw[show fL p=false by simpa using j];rfl)
     |(rw[A,D,adn]
       clear h F x B C O J K Q S
       first
         |(have V:(p.tt:Int)=(ps.length:Nat):=by simpa using m
           have W:(p.ix:Int)=(i:Nat):=by simpa using g
           have Y:(p.ep:Int)=(a.ep:Nat):=by simpa using f
           have Z:(p.sq:Int)=(a.sq:Int)+(i:Int):=by simpa using s
           rw[ade (p:=p.tt=ps.length) (by omega),ade (p:=p.ix=i) (by omega),ade (p:=p.ep=a.ep) (by omega),ade (p:=p.sq=a.sq+i) (by omega)]
           rfl)
         |(rw[ac9]
           simp at *
           omega))
  intro y hy
  refine aG ?_
  refine .cond rfl (λh2=>?_) λh2=>?_
  have a2:kU (ps.map (·.2))=none:=by
    have b0:iV n a.ep a.sq i p=false:=by simpa using h2
    obtain⟨q,M,a0⟩:∃q M,ps.map (·.2)=q::M:=by
      cases e:ps.map (·.2)with
      |nil=>rw[e]at H;cases H
      |cons q M=>exact⟨q,M,rfl⟩
    have hq:q=a:=by rw[a0]at H;simpa using H
    subst hq
    have a1:M.length+1=n:=by rw[a0]at N;exact N
    rw[a0]
    unfold kU
    simp only
    rw[ac8]
    intro h9
    rw[a1,rG]at h9
    have a3:=h9 i p (by rw[<-a0];exact a5)
    rw[Nat.zero_add,b0]at a3
    cases a3
  refine .sr<|.ag rfl<|.az rfl ?_
  refine .ret (aR (bi (aR (cK (bi (aR (aO _ (.two (.tmp rfl) (.tmp rfl)) ((bG []).trans (bu.cu (H':=[[]]) (by simp[take]))) ?_)))))))
  ·first
      |exact⟨To,rfl,vo,_,0,rfl,x,.inl ⟨rfl,a6⟩⟩
      |exact⟨[],rfl,sZ,[],4,rfl,OS.nil,.inr ⟨rfl,a2,rfl⟩⟩
  have I:iV n a.ep a.sq i p=true:=by simpa using h2
  have A:fL p=true:=by unfold iV at I;rw[adC]at I;exact I.1
  have c2:p.tt=n:=by unfold iV at I;simp only[adC,decide_eq_true_eq]at I;exact I.2.1
  have a9:=(gB.1 A).2.2.2.1
  have c0:=(gB.1 A).2.2.2.2.2
  have a7:((ps.map (·.2)).take (i+1)).flatMap (·.d)=((ps.map (·.2)).take i).flatMap (·.d)++p.d:=by
    rw[adA,a5,List.flatMap_append]
    simp
  refine .kn<|.region<|.mo rfl<|.fa rfl<|.lo rfl ?_
  refine .append x (RS.rx J) (by omega) (λv5 T5 a4=>?_)
  rw[<-a7]at a4
  have i5:=a4.ay
  refine .ag rfl<|.nil<|bz<|aG<|.region ?_
  refine .ia (i+1) .add ?_
  refine .mo rfl<|.nil ?_
  ·exact br (i+1,v5,T5) ⟨by simp only;omega,a4,by simp only;rw[a7,adj];omega,λ_=>by omega,λq hq k r U hr=>by
      simp only at U
      rw[H]at hq
      cases hq
      rcases Nat.lt_or_eq_of_le (show k<=i by omega)with h9|rfl
      ·exact B a H k r h9 hr
      ·rw[a5]at hr
       cases hr
       exact I⟩ (by simp only;omega) kE.c.c.c.c.c (bG [1])
  have b1:i=ps.length:=by have h9:=ba h1;omega
  rw[b1,adG (by simp)]at x
  refine .exit<|bk<|bw<|bq<|aG<|.seq<|.sr<|.mo rfl<|.q (.cv h) ?_
  refine .q .cG<|.zn ?_
  refine .cond rfl (λh3=>?_) λh3=>?_
  have h9:((ps.length:Nat):Int)=0:=by simpa using h3
  have b5:ps=[]:=List.length_eq_zero_iff.1 (by omega)
  have a2:kU (ps.map (·.2))=none:=by rw[b5];rfl
  refine .sr<|.ag rfl<|.az rfl ?_
  refine .ret (aR (aO _ (.two (.tmp rfl) (.tmp rfl)) ((bG []).trans (bu.cu (H':=[[]]) (by simp[take]))) ?_))
  ·first
      |exact⟨To,rfl,vo,_,0,rfl,x,.inl ⟨rfl,a6⟩⟩
      |exact⟨[],rfl,sZ,[],4,rfl,OS.nil,.inr ⟨rfl,a2,rfl⟩⟩
  have a6:kU (ps.map (·.2))=some ((ps.map (·.2)).flatMap (·.d)):=by
    cases e:ps.map (·.2)with
    |nil=>
     have h9:ps.length=0:=by rw[e]at N;rw[<-D, <-N];rfl
     exfalso
     have a3:¬((ps.length:Nat):Int)=0:=by simpa using h3
     omega
    |cons q M=>
     have a1:M.length+1=n:=by rw[e]at N;exact N
     unfold kU
     simp only
     rw[adb]
     rw[a1,rG]
     intro k r U
     have b2:k<i:=by
       have:=(adE.1 U).1
       rw[List.length_cons,a1]at this
       omega
     rw[Nat.zero_add]
     exact B q (by rw[e];rfl) k r b2 (by rw[e];exact U)
  refine .kn<|.sr<|.mo rfl<|.ag rfl<|.az rfl ?_
  refine .ret (aO _ (.two (.tmp rfl) (.tmp rfl)) rH ?_)
  ·first
      |exact⟨To,rfl,vo,_,0,rfl,x,.inl ⟨rfl,a6⟩⟩
      |exact⟨[],rfl,sZ,[],4,rfl,OS.nil,.inr ⟨rfl,a2,rfl⟩⟩
theorem aI.xk{P:Program}{R:ao}{env:Env}{H:aF}{x y:Operand}{t u ty:TypeId}{k h:IntKind}{m n:Int}(c:ev env x=some (.int k m):=by rfl)(f:ev env y=some (.int h n):=by rfl):aI P R env H (.call ⟨.builtin .min,#[x,y],#[t,u]⟩) ty (.int k (min m n)):=λa w d j i g b _ _=>by
 have e:(if n<m then n else m)=min m n:=by rw[Int.min_def];split<;>split<;>omega
 simp[execOp,resolve,b.eval c,b.eval f,invoke,builtin,Builtin.min_,Builtin.min2,e]
theorem Qb{n:Nat}(h:n<=65536):1<=jL n/\jL n<=1726:=by unfold jL;omega
theorem M7(f a:Nat)(v:Value)(b:List UInt8)(R:ao)(h:RS R 1 bS v b)(he:f<=4294967295)(hs:a<=4294967295)(n:b.length<=65536):
  Spec prog 102 [iN f,iN a,v] R [] λu H'=>∃To Ti,H'=[To,Ti]/\∃(w:Value) (ps:List hK) (e:Int),u=.tuple [w,.int .i64 e].toArray/\OS 207 5 df w ps To/\(∀p∈ps,fj (sg Ti) p)/\((e=8/\ps=[]/\4294967295<a+(jL b.length-1))\/(e=0/\ps.map (·.2)=q9 f a b/\a+(jL b.length-1)<=4294967295)):=by
 have iv:=h.ay
 obtain⟨pv,W,rfl⟩:=h.val
 have a2:b.length<=W:=by
  obtain⟨p',a1,F,S,g3,g4⟩:=h.h
  simp only[Value.slice.injEq,true_and]at F
  obtain⟨rfl,rfl⟩:=F
  exact S
 obtain⟨Y,Z⟩:=Qb n
 obtain⟨t,s⟩:∃t,t=jL b.length:=⟨_,rfl⟩
 rw[<-s]at Y Z⊢
 refine Spec.du (H':=[[],[]]) (by simp) ?_
 refine Spec.body func102 rfl results102 ntmps102 rfl ?_
 refine .sr<|.ag rfl<|.ag rfl<|.z<|.mo rfl<|.q (.eY rfl) ?_
 refine .ia (b.length+38) .add ?_
 refine .ia (b.length+38-1) .sub ?_
 refine .q (.i64 (((b.length+38-1)/38:Nat):Int) .quo ⟨rfl,by omega,by omega⟩) ?_
 refine .q (.cast (v':=iN t) .Nn (ada (Value.int .i64) (by rw[s];unfold jL;omega))) ?_
 refine .ag rfl<|.zs<|.block<|.sr<|.mo rfl<|.q .lss<|.mo rfl ?_
 refine .split (t:=21) rfl (λk=>?_) (λk=>?_)
 ·simp at k
  omega
 refine .gT k<|.mo rfl<|.gT k<|.q .gtr<|.q (.bg k) ?_
 refine .mo rfl ?_
 refine .split (t:=25) rfl (λl=>?_) (λl=>?_)
 ·simp at l
  omega
 refine .gT l<|.mo rfl<|.gT l<|.q .lss<|.q (.bg l) ?_
 refine .mo rfl ?_
 refine .split (t:=29) rfl (λj=>?_) (λj=>?_)
 ·simp at j
  omega
 refine .gT j<|.mo rfl<|.gT j<|.q .gtr<|.q (.bg j) ?_
 refine .az rfl ?_
 refine .cond rfl (λH=>?_) λH=>?_
 ·simp at H
  omega
 refine .sr<|.mo rfl<|.q (.eY rfl) ?_
 refine .q .gtr<|.az rfl ?_
 refine .cond rfl (λI=>?_) λI=>?_
 ·simp at I
  omega
 refine .sr<|.mo rfl<|.mo rfl ?_
 refine .ia (t-1) .sub ?_
 refine .q (.i64 (4294967295-((t-1:Nat):Int)) .sub ⟨rfl,by omega,by omega⟩) ?_
 refine .q .gtr<|.az rfl ?_
 refine .cond rfl (λx=>?_) λx=>?_
 have M:4294967295<a+(t-1):=by have B:=bp x;omega
 refine .sr<|.ag rfl<|.az rfl ?_
 refine .ret (bi (aR (aO _ (.two (.tmp rfl) (.tmp rfl)) rH ?_)))
 ·first
   |exact⟨[],[],rfl,sZ,[],8,rfl,OS.nil,λp g=>(by cases g),.inl ⟨rfl,rfl,M⟩⟩
   |exact⟨To,Ti,rfl,O,ps,0,rfl,m,g,.inr ⟨rfl,L,N⟩⟩
 have N:a+(t-1)<=4294967295:=by have B:=ba x;omega
 refine .skip<|bz<|aG<|.sr<|.ag rfl<|.zs<|.sr<|.mo rfl<|.mo rfl<|.zn<|.block ?_
 refine .ik [(0,_),(1,_),(2,_),(8,_),(43,_)] (X:=Nat×Value×List hK×au×au) (λy=>y.1<=t/\OS 207 5 df y.2.1 y.2.2.1 y.2.2.2.1/\(∀p∈y.2.2.1,fj (sg y.2.2.2.2) p)/\y.2.2.1.map (·.2)=(List.range y.1).map (ke f a b)) (λy E=>(44,iN y.1)::(9,y.2.1)::E) (G:=[]) (λy G=>y.2.2.2.1::y.2.2.2.2::G) (λy=>t-y.1) (0,sZ,[],[],[]) ⟨adg _,OS.nil,λp g=>(by simp at g),rfl⟩ kE.c.c.c.c.c.c.c rH ?_
 rintro⟨i,O,ps,To,Ti⟩ ⟨hi,m,g,r⟩
 simp only at hi m g r⊢
 have a5:=m.ay
 have a3:ps.length=i:=by have:=ada List.length r;simpa using this
 refine .sr<|.q .lss<|.zs ?_
 refine .cond rfl (λA=>?_) λA=>?_
 have U:i<t:=by have B:=bp A;omega
 refine .kn<|.seq<|.block<|.sr<|.mo rfl<|.ag rfl<|.z<|.mo rfl<|.mo rfl ?_
 refine .ia (i*38) .mul ?_
 refine .mo rfl<|.q (.eY rfl) ?_
 refine .q (.cast (v':=.int .i64 ((min (i*38) b.length:Nat):Int)) .xk (ada (Value.int .i64) (by omega))) ?_
 refine .mo rfl ?_
 refine .ia (i+1) .add ?_
 refine .ia ((i+1)*38) .mul ?_
 refine .mo rfl<|.q (.eY rfl) ?_
 refine .q (.cast (v':=.int .i64 ((min ((i+1)*38) b.length:Nat):Int)) .xk (ada (Value.int .i64) (by omega))) ?_
 refine .q (aI.dG (min (i*38) b.length) (min ((i+1)*38) b.length) rfl ⟨_,rfl⟩ ⟨_,rfl⟩ (by omega) (by omega)) ?_
 refine .az rfl<|.region<|.mo rfl<|.mo rfl<|.mo rfl<|.mo rfl ?_
 refine .ia (a+i) .add ?_
 refine .mo rfl<|.mo rfl<|.mo rfl ?_
 refine .bM (ku _ _ _ (h.dG (lo:=min (i*38) b.length) (hi:=min ((i+1)*38) b.length) (by omega) (by omega)).rx (by simp;omega)) (λw D J=>?_)
 have V:=J.ay
 have C:fj (sg D) (w,ke f a b i):=J.sg
 have a4:bI (df (w,ke f a b i)):=⟨C.bU⟩
 refine .q (.cC (out:=df (w,ke f a b i)) rfl (by rw[show ke f a b i=⟨f,a+i,i,t,(ke f a b i).d⟩ by rw[s];rfl];exact mL V.h)) ?_
 refine .hY (λa0=>?_)
 refine .append m (RS.lits (xs:=[((w,ke f a b i):hK)]) rfl (by simp[df]) (by have:=C.bU;simpa using this)) (by simp;omega) (λv6 Q K=>?_)
 have i6:=K.ay
 refine .ag rfl<|.nil<|bz<|aG<|.region ?_
 refine .ia (i+1) .add ?_
 refine .mo rfl<|.nil ?_
 ·exact br (i+1,v6,ps++[(w,ke f a b i)],Q,D++Ti) ⟨U,K,λp hq=>by
   rcases List.mem_append.1 hq with hq|hq
   ·exact(g p hq).mono λb o n=>lO n
   ·rw[ado]at hq;subst hq;exact C.mono λb o n=>og n,by simp only;rw[List.map_append,r,List.range_succ,List.map_append];rfl⟩ (by simp only;omega) kE.c.c.c.c.c.c.c ((bG [2,1,1]).trans (bu.cu (by simp[take,bf])))
 have T:i=t:=by have B:=ba A;omega
 have L:ps.map (·.2)=q9 f a b:=by rw[r,T,s];rfl
 refine .exit<|bk<|bw<|bq<|aG<|.sr<|.mo rfl<|.ag rfl<|.az rfl ?_
 refine .ret (aO _ (.two (.tmp rfl) (.tmp rfl)) rH ?_)
 ·first
   |exact⟨[],[],rfl,sZ,[],8,rfl,OS.nil,λp g=>(by cases g),.inl ⟨rfl,rfl,M⟩⟩
   |exact⟨To,Ti,rfl,O,ps,0,rfl,m,g,.inr ⟨rfl,L,N⟩⟩
instance Q1:eJ prog 3 (λs:Int=>.int .i64 s):=eJ.int sf vH
def fH(s:List UInt8):List Value:=s.map λc=>.int .u8 (c.toNat:Int)
theorem vl(s:List UInt8):(fH s).length=s.length:=List.length_map ..
theorem qd(s:List UInt8):∀u∈fH s,ay u=true:=λu a=>by
 obtain⟨c,_,rfl⟩:=List.mem_map.1 a
 rfl
instance QX{s:List UInt8}:bI (fH s):=⟨qd s⟩
abbrev SW:Type:=Int×List UInt8
def ky(x:SW):List Value:=.int .i64 x.1::fH x.2
structure Dk where
 fs:List (List UInt8)
 now:List SW
 ws:List SW
 fD:Int
 dead:Bool
abbrev q7(s:List UInt8):Value:=.agg (fH s).toArray
def DI(d:Nat)(D:Dk)(T:au):Prop:=∃vf vm vw Tf Tm Tw,T=(d,.cells [vf,vm,vw,.int .i64 D.fD,.bool D.dead].toArray 58 (0,0))::(Tf++(Tm++Tw))/\OS 190 64 fH vf D.fs Tf/\MS (λs:Int=>.int .i64 s) q7 vm D.now Tm/\OS 192 65 ky vw D.ws Tw
def Dk.blank(n:Nat):Dk:=⟨List.replicate n (eM 64),[],[],0,false⟩
theorem wY(n:Nat)(b:1<=n)(j:n<=65536)(R:ao):Spec prog 5 [iN n] R [] λu H'=>∃T,H'=[T]/\∃d,u=.tuple [pT d,.int .i64 0].toArray/\DI d (Dk.blank n) T:=by
 refine Spec.body func5 rfl results5 ntmps5 rfl ?_
 refine .sr<|.ag rfl<|.ag rfl<|.zs<|.sr<|.mo rfl<|.q .lss<|.mo rfl ?_
 refine .split (t:=6) rfl (λa=>?_) (λa=>?_)
 ·exfalso
  have h:=bp a
  omega
 refine .gT a<|.mo rfl<|.gT a<|.q .gtr<|.q (.bg a) ?_
 refine .zn ?_
 refine .cond rfl (λb=>?_) λb=>?_
 ·exfalso
  have h:=bp b
  omega
 refine .kn<|.sr<|.mo rfl ?_
 refine .makeSlice (enc:=fH) n (eM 64) (by kernel_rfl) rfl (by decide) (qd _) rfl rfl (by omega) (by omega) (λf e i=>?_)
 refine .makeMap (λc=>?_)
 refine .q .cC ?_
 refine .cc rfl (λg=>?_)
 refine .ag rfl<|.az rfl ?_
 refine .ret (aO _ (.two (.tmp rfl) (.tmp rfl)) (.one [0,1,0] _) ?_)
 ·exact⟨_,rfl,g,rfl,.slice (some ⟨f,0,none⟩) n n,.map (some c),sZ,e,[(c,.map #[] 0)],[],by simp[take,bf,bT,Dk.blank],i,MS.nil,OS.nil⟩
section
variable{d:Nat}{D:Dk}{T:au}
theorem DI.ps(h:DI d D T):∃vf vm vw Tf Tm Tw,T=(d,.cells [vf,vm,vw,.int .i64 D.fD,.bool D.dead].toArray 58 (0,0))::(Tf++(Tm++Tw))/\OS 190 64 fH vf D.fs Tf/\MS (λs:Int=>.int .i64 s) q7 vm D.now Tm/\OS 192 65 ky vw D.ws Tw:=h
theorem ma(h:DI d D T)(R:ao)(c:∀p∈T,R p.1 p.2):Spec prog 14 [pT d] R [] λu H'=>u=iN D.fs.length/\H'=[]:=by
 obtain⟨a,e,f,j,k,l,rfl,b,m,n⟩:=h
 have o:=b.ay
 have r:PC R (pT d) [a,e,f,.int .i64 D.fD,.bool D.dead]:=PC.of (E:=58) (fr:=(0,0)) (c (d,.cells [a,e,f,.int .i64 D.fD,.bool D.dead].toArray 58 (0,0)) (by simp))
 have i:RS R 64 fH a D.fs:=b.rs λp g=>c p (by simp[g])
 refine Spec.body func14 rfl results14 ntmps14 rfl ?_
 refine .sr<|.ag rfl<|.zs<|.sr<|.mo rfl<|.q (.nG rfl rfl) ?_
 refine .zn<|.bB<|.kn<|.sr<|.mo rfl<|.nc rfl<|.fa rfl<|.lo rfl<|.q (.cv i) ?_
 refine .az rfl ?_
 refine .ret (aW rfl ?_)
 ·exact⟨rfl,rfl⟩
theorem MO(R:ao):Spec prog 14 [.pointer none] R [] λu H'=>u=.int .i64 0/\H'=[]:=by
 refine Spec.body func14 rfl results14 ntmps14 rfl ?_
 refine .sr<|.ag rfl<|.zs<|.sr<|.mo rfl<|.q (.nG rfl rfl) ?_
 refine .zn<|.cW<|.sr<|.az rfl ?_
 refine .ret (aR (aW rfl ?_))
 ·exact⟨rfl,rfl⟩
theorem qo(h:DI d D T)(R:ao)(b:∀p∈T,R p.1 p.2):Spec prog 104 [pT d] R [] λu H'=>u=.bool (decide (0<D.fs.length))/\H'=[]:=by
 refine Spec.body func104 rfl results104 ntmps104 rfl ?_
 refine .sr<|.ag rfl<|.z<|.mo rfl ?_
 refine .aH (ma h _ λp a=>.inl (b p a)) (λu c=>?_)
 subst c
 refine .q .gtr<|.az rfl ?_
 refine .ret (aW rfl ?_)
 ·exact⟨ada Value.bool (by rw[ac9];simp),rfl⟩
theorem wz(s:List UInt8):s.flatMap bS=fH s:=by
 unfold fH
 induction s with
 |nil=>rfl
 |cons c s ih=>rw[List.flatMap_cons,ih];rfl
theorem OF{R:ao}{b off cap:Nat}{s:List UInt8}(h:PC R (.pointer (some ⟨b,off,none⟩)) (fH s))(j:s.length<=cap)(l:cap<=maxLen):RS R 1 bS (.slice (some ⟨b,off,none⟩) s.length cap) s:=by
 obtain⟨m,n,c,E,f,a,g,i⟩:=h.h
 simp only[Value.pointer.injEq,Option.some.injEq,Addr.mk.injEq,and_true]at a
 obtain⟨rfl,rfl⟩:=a
 exact⟨λ_ _=>rfl,λx _ u e=>by simp only[bS,ado]at e;subst e;rfl,_,cap,rfl,j,l,.inr ⟨b,off,c,E,f,rfl,g,by rw[wz];exact λk d=>(i k d).trans (bd d).symm⟩⟩
theorem sF(h:DI d D T)(M:D.now=[])(L:∀s∈D.fs,s.length=64)(i:Nat)(s:List UInt8)(hi:D.fs[i]? =some s)(R:ao)(m:∀p∈T,R p.1 p.2):Spec prog 38 [pT d,iN i] R [] λu H'=>∃T',H'=[T']/\∃v,u=.tuple [v,.int .i64 0].toArray/\OS 5 1 bS v s T':=by
 have K:=h
 obtain⟨o,A,H,V,W,X,rfl,y,F,hw⟩:=h
 have i1:=y.ay
 have i2:One A:=⟨by obtain⟨b,es,Z,j,_⟩:=F;subst j;rfl⟩
 have pd:PC R (pT d) [o,A,H,.int .i64 D.fD,.bool D.dead]:=PC.of (E:=58) (fr:=(0,0)) (m (d,.cells [o,A,H,.int .i64 D.fD,.bool D.dead].toArray 58 (0,0)) (by simp))
 have n:RS R 64 fH o D.fs:=y.rs λp k=>m p (by simp[k])
 have a0:=n.le
 have l:=(adE.1 hi).1
 have N:=L s (bD hi)
 refine Spec.body func38 rfl results38 ntmps38 rfl ?_
 refine .sr<|.ag rfl<|.ag rfl<|.zs<|.block<|.sr<|.mo rfl ?_
 refine .aH (qo K _ λp k=>.inl (m p k)) (λu O=>?_)
 subst O
 refine .q .not<|.az rfl ?_
 refine .cond rfl (λj=>?_) λj=>?_
 ·exfalso
  simp at j
  rw[j]at l
  simp at l
 refine .sr<|.mo rfl<|.q .lss<|.mo rfl ?_
 refine .split (t:=15) rfl (λa=>?_) (λa=>?_)
 ·exfalso
  have e:=bp a
  omega
 refine .gT a<|.mo rfl<|.gT a<|.mo rfl<|.gT a<|.nc rfl<|.gT a<|.fa rfl<|.gT a<|.lo rfl<|.gT a<|.q (.cv n) ?_
 refine .gT a<|.q .geq<|.q (.bg a) ?_
 refine .az rfl ?_
 refine .cond rfl (λB=>?_) λB=>?_
 ·exfalso
  have e:=bp B
  omega
 refine .skip<|bz<|aG<|.seq<|.sr<|.mo rfl<|.nc rfl<|.fa rfl<|.lo rfl<|.mo rfl ?_
 refine .q (.cast (v':=.tuple [q7 (eM 64),.bool false].toArray) (.sO (key:=((i:Nat):Int)) (F.rm λp k=>.inl (m p (by simp[k]))) rfl rfl) (by rw[M];rfl)) ?_
 refine .mo rfl<|.q .extract<|.q .extract ?_
 refine .cn (λY=>?_)
 refine .bZ rfl rfl<|.ag rfl<|.z<|.mo rfl<|.zn<|.bB<|.kn<|.sr<|.mo rfl<|.nc rfl<|.fa rfl<|.lo rfl<|.mo rfl ?_
 obtain⟨f,g,r,Q⟩:∃f g r,o=.slice (some ⟨f,g,none⟩) D.fs.length r:=by
  rcases y.h with⟨_,e,_⟩|⟨b,S,c,cap,e,_⟩
  ·rw[e]at l;simp at l
  ·exact⟨b,S,cap,e⟩
 subst Q
 refine .q (.cast (v':=.pointer (some ⟨f,g+i*64,none⟩)) (.cB i n hi rfl rfl rfl) (by by_cases x:i=0<;>simp[eA,Addr.add,x])) ?_
 have U:PC R (.pointer (some ⟨f,g+i*64,none⟩)) (fH s):=by
  have e:=n.pc hi
  have J:eA (.slice (some ⟨f,g,none⟩) D.fs.length r) (i*64)=.pointer (some ⟨f,g+i*64,none⟩):=by by_cases x:i=0<;>simp[eA,Addr.add,x]
  rw[J]at e
  exact e
 have G:=OF U (cap:=64) (by omega) (by decide)
 rw[N]at G
 refine .q (.cast (v':=.slice (some ⟨f,g+i*64,none⟩) 64 64) (.Pg 0 64 rfl rfl rfl (by omega) (by omega) (by omega)) rfl) ?_
 refine .bM (ku _ s _ G.rx (by omega)) (λw I C=>?_)
 have iw:=C.ay
 refine .ag rfl<|.az rfl ?_
 refine .ret (aO _ (.two (.tmp rfl) (.tmp rfl)) (.one [0] _) ?_)
 ·exact⟨I,by simp[take],w,rfl,C⟩
end
theorem aI.zm{P:Program}{R:ao}{env:Env}{H:aF}{ty t e:TypeId}{x:Operand}{n c cap:Nat}{b:Addr}(i:ev env x=some (.slice (some b) c cap)) [ut:bh P t (.array n e)](h:n<=c):
  aI P R env H (.sliceToArrayPointer t x) ty (.pointer (some b)):=λa w d k j g f _ _=>by
 simp[execOp,f.eval i,Instr.arrayAt,run_underlying ut.h,Nat.not_lt.2 h]
theorem aB.zX{P:Program}{N:Nat}{R:ao}{k:Array Oper}{l:List Oper}{env:Env}{H:aF}{K:Env->aF->Prop}{T:au}{e:au->aF}{ty:TypeId}{y:String}{m:Array Edge}{κ β:Type} [DecidableEq κ]{encK:κ->Value}{i:β->Value}{M:List (κ×β)}{d:Value}{t kt p:TypeId}{x:Operand}(h:MS encK i d M T) [A:dE H T e] [ut:bh P t (.map kt p)](v:ev env x=some d)
  (r:∀T',MS encK i d ([]:List (κ×β)) T'->aB false P N R k l env (e T') K):
  aB false P N R k (⟨none,.call ⟨.builtin .clear,#[x],#[t]⟩,ty,y,m,none⟩::l) env H K:=
 aB.mI λa w q s E=>by
  obtain⟨b,o,c,rfl,rfl,D⟩:=h
  obtain⟨B,C,n,g⟩:=A.h
  subst n
  have j:w.heap[b]? =some (.map o c):=s.2 (b,_) (by simp)
  obtain⟨f,z⟩:=kk (o':=.map #[] c) s
  have u:(Builtin.clear_ #[t] ty #[.map (some b)]).run P w=.ok (.tuple #[]) (dz w b (.map #[] c)):=by
   unfold Builtin.clear_
   simp only[List.getElem?_toArray,List.getElem?_cons_zero,Sem.run_bind,run_underlying ut.h,Result.andThen_ok,jc j,mn j,Sem.run_pure]
  refine⟨_,e [(b,.map #[] c)],.inr ⟨.tuple #[],?_⟩,by rw[g];exact f,by rw[g];exact z,r _ ⟨b,#[],c,rfl,rfl,?_⟩⟩
  ·simp[execOp,resolve,q.eval v,invoke,builtin,u]
  ·exact⟨by simp[iG],by simp,by simp,by simp⟩
section
variable{d:Nat}{D:Dk}{T:au}
theorem w6(h:DI d D T)(k:D.fD=0)(l:D.dead=false)(R:ao):Spec prog 297 [pT d] R [T] λu H'=>∃T',H'=[T']/\(T'=T/\u=.int .i64 0):=by
 obtain⟨g,a,i,c,e,f,rfl,m,n,o⟩:=h
 rw[k,l]
 have s:=m.ay
 have v:=o.ay
 have t:One a:=⟨by obtain⟨b,r,p,j,_⟩:=n;subst j;rfl⟩
 refine Spec.du (H':=[bl d [g,a,i,.int .i64 0,.bool false] 58,c++(e++f)]) (by simp) ?_
 refine Spec.body func297 rfl results297 ntmps297 rfl ?_
 refine .sr<|.ag rfl<|.zs<|.sr<|.mo rfl<|.nc rfl<|.fa rfl<|.lo rfl<|.q .gtr<|.zn ?_
 refine .bB<|.kn<|.seq<|.sr<|.mo rfl ?_
 refine .nc rfl<|.fa rfl<|.lo rfl<|.zn<|.bB<|.kn<|.sr<|.az rfl ?_
 refine .ret (aO _ (.one (.tmp rfl)) (rH.trans (bu.cu (H':=[(d,.cells [g,a,i,.int .i64 0,.bool false].toArray 58 (0,0))::(c++(e++f))]) (by simp))) ?_)
 ·exact⟨_,rfl,rfl,rfl⟩
end
section
theorem N8{R:ao}{v:Value}{s:List UInt8}(h:RS R 1 bS v s)(l:0<s.length):∃a cap,v=.slice (some a) s.length cap/\PC R (.pointer (some a)) (fH s):=by
 obtain⟨p,cap,i,n,o,k⟩:=h.h
 rcases k with rfl|⟨b,m,c,E,f,rfl,g,d⟩
 ·simp at l
 ·rw[wz]at d
  exact⟨_,_,i,⟨b,m,c,E,f,rfl,g,λj e=>(d j e).trans (bd e)⟩⟩
theorem LZ{i z:Int}{s:List UInt8}{zs:List Value}(c:s.length=64)(b:zs.length=64):eU [(0,1),(1,64)] (.int .i64 z::zs) [(0,.int .i64 i),(1,.agg (fH s).toArray)]=some (ky (i,s)):=by
 have a:(fH s).length=64:=by rw[vl];exact c
 rw[we rfl rfl (by simp),LX (by rw[a];rfl) (by rw[mv (by simp)];simp[a,b]),eU]
 simp[gC,ky,a,b]
theorem vp(x:SW):∀u∈ky x,ay u=true:=λu a=>by
 rcases List.mem_cons.1 a with rfl|h
 ·rfl
 ·exact qd _ u h
def Dk.wr(D:Dk)(i:Int)(s:List UInt8):Dk:={D with now:=dx i s D.now,ws:=D.ws++[(i,s)]}
variable{d:Nat}{D:Dk}{T:au}
theorem Na(h:DI d D T)(m:D.fD=0)(o:D.dead=false)(i:Nat)(hi:i<D.fs.length)(s:List UInt8)(w:s.length=64)(M:Value)(R:ao)(n:RS R 1 bS M s)(a1:D.ws.length<=1048576):Spec prog 194 [pT d,iN i,M] R [T] λu H'=>∃T',H'=[T']/\u=.int .i64 0/\DI d (D.wr i s) T':=by
 have C:=h
 have iw:=n.ay
 have c:(fH s).length=64:=by rw[vl];exact w
 obtain⟨g,j,K,k,N,O,l,r,I,J⟩:=h
 have i1:=r.ay
 have i3:=J.ay
 have i2:One j:=⟨by obtain⟨b,Z,Y,f,_⟩:=I;subst f;rfl⟩
 have ps:PS T (pT d) [g,j,K,.int .i64 D.fD,.bool D.dead]:=⟨PC.of (E:=58) (fr:=(0,0)) (by rw[l];simp[sg])⟩
 have H:RS (Rx R [T]) 64 fH g D.fs:=r.rs λp v=>.inr (by rw[l];simp[v])
 have a0:=H.le
 obtain⟨wa,wc,V,pw⟩:=N8 n (by omega)
 refine Spec.body func194 rfl results194 ntmps194 rfl ?_
 refine .sr<|.ag rfl<|.zs<|.block<|.sr<|.mo rfl ?_
 refine .aH (qo C _ λp v=>.inr (by simp[v])) (λu y=>?_)
 subst y
 refine .q .not<|.az rfl ?_
 refine .cond rfl (λf=>?_) λf=>?_
 ·exfalso
  simp at f
  rw[f]at hi
  simp at hi
 refine .sr<|.mo rfl<|.q .lss<|.mo rfl ?_
 refine .split (t:=16) rfl (λa=>?_) (λa=>?_)
 ·exfalso
  have S:=bp a
  omega
 refine .gT a<|.mo rfl<|.gT a<|.mo rfl<|.gT a<|.nc rfl<|.gT a<|.fa rfl<|.gT a<|.lo rfl<|.gT a<|.q (.cv H) ?_
 refine .gT a<|.q .geq<|.q (.bg a) ?_
 refine .mo rfl ?_
 refine .split (t:=25) rfl (λe=>?_) (λe=>?_)
 ·exfalso
  have S:=bp e
  omega
 refine .gT e<|.mo rfl<|.gT e<|.q (.cv n) ?_
 refine .gT e<|.q .cb<|.q (.bg e) ?_
 refine .az rfl ?_
 refine .cond rfl (λF=>?_) λF=>?_
 ·exfalso
  simp[w]at F
 refine .skip<|bz<|aG<|.seq<|.sr<|.mo rfl ?_
 refine .aT (w6 C m o R) (λu W y=>?_)
 obtain⟨rfl,rfl⟩:=y
 refine .ag rfl<|.z<|.mo rfl<|.q .cb<|.zn<|.bB<|.kn<|.sr<|.mo rfl ?_
 subst V
 refine .q (.zm rfl (by omega)) ?_
 have io:bI (fH s):=inferInstance
 refine .q (.bj rfl c) ?_
 refine .cn (λQ=>?_)
 refine .bZ rfl rfl ?_ c (by rw[c];exact Nat.le_of_ble_eq_true rfl)
 rw[q8 (by rw[c];rfl)]
 refine .sub (H':=[bl Q (fH s) 190,bl d [g,j,K,.int .i64 0,.bool false] 58,k,N,O]) (bu.cu (by rw[l,m,o];simp)) ?_
 refine .zs ?_
 refine .cM 6 mixed (by kernel_rfl) ?_
 conv=>arg 6;dsimp only[List.take]
 refine .mo rfl<|.nc rfl<|.fa rfl<|.lo rfl<|.mo rfl<|.q (.bj rfl c) ?_
 refine .nil ?_
 refine .update (key:=(i:Int)) (u:=s) I rfl rfl rfl (λA U _=>?_)
 refine .zs<|.cq [9,12] mixed ?_
 refine .tK 0 rfl .move<|.tO 1 rfl .move<|.tO 2 rfl (.nilCheck rfl)<|.tO 3 rfl (.fieldAddr rfl)<|.tO 4 rfl (.bo rfl)<|.tO 5 rfl .move ?_
 refine .tO 6 rfl (.bj rfl c) ?_
 refine .tO 7 rfl (.cC rfl (LZ w rfl)) ?_
 refine .sT 8 rfl ?_
 refine .hY (λX=>?_) rfl (by simp[ky,c])
 refine .nil (Next.sub ?_)
 refine .sT 9 rfl ?_
 refine .append J (RS.qu (x:=((i:Int),s)) rfl (by simp[ky,c]) (vp _)) (by simp;omega) (λL B G=>?_)
 have i4:=G.ay
 refine .nil (Next.mod rfl ?_)
 refine .tK 10 rfl (.pn rfl) ?_
 refine .tK 11 rfl (.dU rfl) ?_
 refine .sT 12 rfl ?_
 refine .ca rfl rfl ?_
 refine .nil (Next.mod rfl ?_)
 refine RA.nil (by kernel_rfl) ?_
 refine aG<|.sr<|.az rfl ?_
 refine .ret (aO _ (.one (.tmp rfl)) ((bu.drop [0,0] _).trans (bu.cu (H':=[(d,.cells [g,j,L,.int .i64 0,.bool false].toArray 58 (0,0))::(k++(A++B))]) (by simp[rest,bf,bT]))) ?_)
 ·exact⟨_,rfl,rfl,g,j,L,k,A,B,by rw[show(D.wr i s).fD=0 from m,show(D.wr i s).dead=false from o],r,U,G⟩
end
section
def Dk.settled(D:Dk):Dk:={D with now:=[],ws:=[]}
variable{d:Nat}{D:Dk}{T:au}
theorem w5(h:DI d D T)(R:ao):Spec prog 105 [pT d] R [T] λu H'=>∃T',H'=[T']/\u=.tuple #[]/\DI d D.settled T':=by
 obtain⟨e,a,o,c,f,i,rfl,j,k,n⟩:=h
 have r:=j.ay
 have t:=n.ay
 have s:One a:=⟨by obtain⟨b,q,p,l,_⟩:=k;subst l;rfl⟩
 refine Spec.du (H':=[bl d [e,a,o,.int .i64 D.fD,.bool D.dead] 58,c++(f++i)]) (by simp) ?_
 refine Spec.body func105 rfl results105 ntmps105 rfl ?_
 refine .sr<|.mo rfl<|.nc rfl<|.fa rfl<|.ca rfl rfl ?_
 refine .sub (H':=[bl d [e,a,sZ,.int .i64 D.fD,.bool D.dead] 58,c,f,i]) (bu.cu (by simp[bT])) ?_
 refine .zn<|.region<|.mo rfl<|.nc rfl<|.fa rfl<|.lo rfl ?_
 refine .zX k rfl (λg m=>?_)
 refine .nil ?_
 refine dc _ .none ((bu.drop [3] _).trans (bu.cu (H':=[(d,.cells [e,a,sZ,.int .i64 D.fD,.bool D.dead].toArray 58 (0,0))::(c++(g++[]))]) (by simp[rest,bf]))) ?_
 ·exact⟨_,rfl,rfl,e,a,sZ,c,g,[],rfl,j,m,OS.nil⟩
def lB(fs:List (List UInt8))(x:SW):List (List UInt8):=fs.set x.1.toNat x.2
theorem L5(a:List (List UInt8))(x:SW):(lB a x).length=a.length:=List.length_set ..
theorem L4(a:List SW):∀fs:List (List UInt8),(a.foldl lB fs).length=fs.length:=by
 induction a with
 |nil=>intro fs;rfl
 |cons x a ih=>intro fs;rw[List.foldl_cons,ih,L5]
def Dk.nJ(D:Dk):Dk:={D with fs:=D.ws.foldl lB D.fs,now:=[],ws:=[]}
theorem MM(h:DI d D T)(B:D.fD=0)(C:D.dead=false)(N:0<D.fs.length)(a2:∀x∈D.ws,∃i:Nat,x.1=i/\i<D.fs.length)(R:ao):Spec prog 196 [pT d] R [T] λu H'=>∃T',H'=[T']/\u=.int .i64 0/\DI d D.nJ T':=by
 have I:=h
 obtain⟨g,l,m,H,n,f,W,J,M,a⟩:=h
 have i1:=J.ay
 have i3:=a.ay
 have i2:One l:=⟨by obtain⟨b,es,a3,o,_⟩:=M;subst o;rfl⟩
 have a4:=a.le
 refine Spec.body func196 rfl results196 ntmps196 rfl ?_
 refine .sr<|.ag rfl<|.zs<|.sr<|.mo rfl ?_
 refine .aH (qo I _ λp hp=>.inr (by simp[hp])) (λu s=>?_)
 subst s
 refine .q .not<|.zn ?_
 refine .cond rfl (λo=>?_) λo=>?_
 ·exfalso
  simp at o
  rw[o]at N
  simp at N
 refine .kn<|.seq<|.sr<|.mo rfl ?_
 refine .aT (w6 I B C R) (λu T5 s=>?_)
 obtain⟨rfl,rfl⟩:=s
 refine .sub (H':=[bl d [g,l,m,.int .i64 0,.bool false] 58,H,n,f]) (bu.cu (by rw[W,B,C];simp)) ?_
 refine .ag rfl<|.z<|.mo rfl<|.q .cb<|.zn<|.bB<|.kn<|.seq<|.sr<|.mo rfl<|.nc rfl<|.fa rfl<|.lo rfl<|.q (.cv a.sg) ?_
 refine .mo rfl<|.zn<|.block ?_
 refine .ik [(0,_),(17,_),(18,_)] (X:=Nat×au) (λy=>y.1<=D.ws.length/\OS 190 64 fH g ((D.ws.take y.1).foldl lB D.fs) y.2) (λy E=>(19,iN y.1)::E) (G:=[bl d [g,l,m,.int .i64 0,.bool false] 58,n,f]) (λy G=>y.2::G) (λy=>D.ws.length-y.1) (0,H) ⟨adg _,J⟩ kE.c.c.c.c (bu.cu (by simp;exact List.perm_middle.symm)) ?_
 rintro⟨k,w⟩ ⟨hk,r⟩
 simp only at hk r⊢
 refine .sr<|.q .lss<|.zs ?_
 refine .cond rfl (λA=>?_) λA=>?_
 have L:k<D.ws.length:=by have Q:=bp A;omega
 obtain⟨x,t⟩:=dM L
 have a1:(D.ws.take (k+1)).foldl lB D.fs=lB ((D.ws.take k).foldl lB D.fs) x:=by
  rw[adA,t,adH];rfl
 obtain⟨j,K,Z⟩:=a2 x (bD t)
 have e:(ky x).length=65:=a.len x (bD t)
 have ix:bI (ky x):=⟨vp x⟩
 obtain⟨xi,F⟩:=x
 simp only at K
 subst K
 have pq:PS f (eA m (k*65)) (ky ((j:Int),F)):=⟨a.sg.pc t⟩
 have a0:j<((D.ws.take k).foldl lB D.fs).length:=by rw[L4];exact Z
 obtain⟨z,O⟩:=dM a0
 refine .kn<|.seq<|.block<|.sr<|.q (.cB k a.sg t rfl rfl rfl) ?_
 refine .q (.bj rfl e) ?_
 refine .cn (λb5=>?_)
 refine .bZ rfl rfl ?_ e (by rw[e];exact Nat.le_of_ble_eq_true rfl)
 rw[q8 (by rw[e];rfl)]
 refine .zn ?_
 refine .cM 9 mixed (by kernel_rfl) ?_
 conv=>arg 6;dsimp only[List.take]
 refine .mo rfl<|.nc rfl<|.fa rfl<|.lo rfl<|.fa rfl<|.lo rfl<|.fa rfl ?_
 refine .q (.cast (v':=q7 F) (.bj rfl (by simp[e])) rfl) ?_
 refine .q (.cB j r.sg O rfl rfl rfl) ?_
 refine .nil ?_
 refine .ee j r O F (λv V=>?_) (qd _) (by simp[ky]at e;simpa using e)
 refine .nil<|bz<|aG<|.region ?_
 refine .ia (k+1) .add ?_
 refine .mo rfl<|.nil ?_
 ·exact br (k+1,v) ⟨L,by rw[a1];exact V⟩ (by simp only;omega) kE.c.c.c.c ((bu.drop [0] _).trans (bu.cu (by simp[rest,bf])))
 have Y:k=D.ws.length:=by have Q:=ba A;omega
 rw[Y,adI]at r
 refine .exit<|bk<|bw<|bq<|aG<|.sr ?_
 refine .sub (H':=[(d,.cells [g,l,m,.int .i64 0,.bool false].toArray 58 (0,0))::(w++(n++f))]) (bu.cu (by simp)) ?_
 have U:DI d {D with fs:=D.ws.foldl lB D.fs} ((d,.cells [g,l,m,.int .i64 0,.bool false].toArray 58 (0,0))::(w++(n++f))):=⟨g,l,m,w,n,f,by simp only[B,C],r,M,a⟩
 refine .mo rfl ?_
 refine .aT (w5 U R) (λu v s=>?_)
 obtain⟨_,S⟩:=s
 refine .z<|.az rfl ?_
 refine .ret (aO _ (.one (.tmp rfl)) rH ?_)
 ·exact⟨v,rfl,rfl,S⟩
end
section
variable{d:Nat}{D:Dk}{T:au}
def Dk.Ab(D:Dk):Dk:={D with now:=[],ws:=[],fD:=0,dead:=false}
theorem MJ(h:DI d D T)(F:D.ws=[])(s:0<D.fs.length)(R:ao):Spec prog 34 [pT d,sZ] R [T] λu H'=>∃T',H'=[T']/\u=.tuple #[]/\DI d D.Ab T':=by
 have m:=h
 obtain⟨L,w,M,O,Q,S,z,B,C,t⟩:=h
 have I:=B.ay
 have K:=t.ay
 have J:One w:=⟨by obtain⟨b,y,x,a,_⟩:=C;subst a;rfl⟩
 have W:PS T (pT d) [L,w,M,.int .i64 D.fD,.bool D.dead]:=⟨PC.of (E:=58) (fr:=(0,0)) (by rw[z];simp[sg])⟩
 have V:D.ws.length=0:=by rw[F];rfl
 refine Spec.body func34 rfl results34 ntmps34 rfl ?_
 refine .seq<|.sr<|.mo rfl ?_
 refine .aH (qo m _ λp H=>.inr (by simp[H])) (λu j=>?_)
 subst j
 refine .q .not<|.zn ?_
 refine .cond rfl (λa=>?_) λa=>?_
 ·exfalso
  simp at a
  rw[a]at s
  simp at s
 refine .kn<|.seq<|.sr<|.mo rfl<|.nc rfl<|.fa rfl<|.lo rfl<|.q (.cv t.sg) ?_
 refine .mo rfl<|.zn<|.block ?_
 refine .ik [(0,_),(1,_),(12,_),(13,_)] (X:=Unit) (λ_=>True) (λ_ E=>(14,iN 0)::E) (λ_ G=>G) (λ_=>0) () adf kE.c.c.c.c.c rH ?_
 rintro⟨⟩ _
 refine .sr<|.q .lss<|.zs ?_
 refine .cond rfl (λn=>?_) λn=>?_
 ·exfalso
  have U:=bp n
  omega
 refine .exit<|bk<|bw<|bq<|aG<|.sr<|.mo rfl ?_
 refine .aT (w5 m R) (λu N j=>?_)
 obtain⟨_,k,e,l,f,g,i,A,o,r,v⟩:=j
 have I:=o.ay
 have K:=v.ay
 have J:One e:=⟨by obtain⟨b,y,x,a,_⟩:=r;subst a;rfl⟩
 refine .sub (H':=[bl d [k,e,l,.int .i64 D.settled.fD,.bool D.settled.dead] 58,f++(g++i)]) (bu.cu (by rw[A];simp)) ?_
 refine .zn<|.region<|.mo rfl<|.mo rfl<|.nc rfl<|.fa rfl<|.ca rfl rfl<|.nc rfl<|.fa rfl<|.ca rfl rfl<|.nil ?_
 refine dc _ .none (rH.trans (bu.cu (H':=[(d,.cells [k,e,l,.int .i64 0,.bool false].toArray 58 (0,0))::(f++(g++i))]) (by simp[bT]))) ?_
 ·exact⟨_,rfl,rfl,k,e,l,f,g,i,rfl,o,r,v⟩
end
section
theorem aI.Nm{P:Program}{R:ao}{env:Env}{H:aF}{x y z:Operand}{t u o ty:TypeId}{k j p:IntKind}{l m n:Int}(f:ev env x=some (.int k l):=by rfl)(h:ev env y=some (.int j m):=by rfl)(i:ev env z=some (.int p n):=by rfl):aI P R env H (.call ⟨.builtin .max,#[x,y,z],#[t,u,o]⟩) ty (.int k (max (max l m) n)):=λa w d r q g b _ _=>by
 have e:(if m>l then m else l)=max l m:=by rw[Int.max_def];split<;>split<;>omega
 have c:(if n>max l m then n else max l m)=max (max l m) n:=by rw[Int.max_def (max l m)];split<;>split<;>omega
 simp[execOp,resolve,b.eval f,b.eval h,b.eval i,invoke,builtin,Builtin.max_,Builtin.max2,e,c]
theorem tH{c k:Nat}(f:c<256)(b:k<=24):IntKind.i64.wrap ((c:Int)*2^min ((k:Int)).toNat IntKind.i64.bits)=((c*2^k:Nat):Int):=by
 have a:IntKind.i64.bits=64:=rfl
 rw[a,Int.toNat_natCast,Nat.min_eq_left (by omega)]
 have d:c*2^k<=255*2^24:=adt (by omega) (ads (by decide) b)
 have e:(c:Int)*2^k=((c*2^k:Nat):Int):=by simp
 rw[e,lj (by omega) (by omega)]
theorem sW{x k c:Nat}(f:x*2^k+c<2^50)(e:c<2^k):IntKind.i64.wrap (((BitVec.ofInt IntKind.i64.bits ((x*2^k:Nat):Int)|||BitVec.ofInt IntKind.i64.bits (c:Int)).toNat:Nat):Int)=((x*2^k+c:Nat):Int):=by
 have d:(BitVec.ofInt IntKind.i64.bits ((x*2^k:Nat):Int)|||BitVec.ofInt IntKind.i64.bits (c:Int)).toNat=x*2^k+c:=by
  rw[ady,ady,BitVec.toNat_or,adz,adz]
  have a:IntKind.i64.bits=64:=rfl
  rw[a,adr (by omega),adr (by omega)]
  have:=adJ (i:=k) (b:=c) e x
  rw[Nat.shiftLeft_eq]at this
  exact this.symm
 rw[d,lj (by omega) (by omega)]
theorem Nz{a b c e:Nat}(d:a<256)(f:b<256)(g:c<256)(m:e<256):IntKind.i64.wrap (((BitVec.ofInt IntKind.i64.bits (IntKind.i64.wrap (((BitVec.ofInt IntKind.i64.bits (IntKind.i64.wrap (((BitVec.ofInt IntKind.i64.bits (IntKind.i64.wrap (IntKind.i64.wrap (a:Int)*2^min (Int.toNat 24) IntKind.i64.bits))|||BitVec.ofInt IntKind.i64.bits (IntKind.i64.wrap (IntKind.i64.wrap (b:Int)*2^min (Int.toNat 16) IntKind.i64.bits))).toNat:Nat):Int))|||BitVec.ofInt IntKind.i64.bits (IntKind.i64.wrap (IntKind.i64.wrap (c:Int)*2^min (Int.toNat 8) IntKind.i64.bits))).toNat:Nat):Int))|||BitVec.ofInt IntKind.i64.bits (IntKind.i64.wrap (e:Int))).toNat:Nat):Int)=((a*2^24+b*2^16+c*2^8+e:Nat):Int):=by
 have w:∀x:Nat,x<256->IntKind.i64.wrap (x:Int)=x:=λx r=>lj (by omega) (by omega)
 have o:IntKind.i64.wrap ((a:Int)*2^min (Int.toNat 24) IntKind.i64.bits)=((a*2^24:Nat):Int):=tH (k:=24) d (by omega)
 have p:IntKind.i64.wrap ((b:Int)*2^min (Int.toNat 16) IntKind.i64.bits)=((b*2^16:Nat):Int):=tH (k:=16) f (by omega)
 have q:IntKind.i64.wrap ((c:Int)*2^min (Int.toNat 8) IntKind.i64.bits)=((c*2^8:Nat):Int):=tH (k:=8) g (by omega)
 have n:=sW (x:=a) (k:=24) (c:=b*2^16) (by omega) (by omega)
 have h:=sW (x:=a*2^8+b) (k:=16) (c:=c*2^8) (by omega) (by omega)
 have i:=sW (x:=a*2^16+b*2^8+c) (k:=8) (c:=e) (by omega) (by omega)
 have j:(a*2^8+b)*2^16=a*2^24+b*2^16:=by omega
 have l:(a*2^16+b*2^8+c)*2^8=a*2^24+b*2^16+c*2^8:=by omega
 rw[j]at h
 rw[l]at i
 rw[w a d,w b f,w c g,w e m,o,p,q,n,h,i]
theorem wZ(v:Value)(l:List UInt8)(R:ao)(h:RS R 1 bS v l)(j:4<=l.length):Spec prog 39 [v] R [] λu H'=>u=.int .i64 (gW l 0 4:Nat)/\H'=[]:=by
 have m:=h.ay
 obtain⟨a,b,c,e,r,rfl⟩:∃a b c e r,l=a::b::c::e::r:=by
  match l,j with
  |a::b::c::e::r,_=>exact⟨a,b,c,e,r,rfl⟩
 have d:=a.toNat_lt
 have f:=b.toNat_lt
 have g:=c.toNat_lt
 have i:=e.toNat_lt
 have k:gW (a::b::c::e::r) 0 4=a.toNat*2^24+b.toNat*2^16+c.toNat*2^8+e.toNat:=by
  simp[gW,eb];omega
 refine Spec.body func39 rfl results39 ntmps39 rfl ?_
 refine .sr<|.ag rfl<|.zs ?_
 refine .kG mixed (by kernel_rfl) ?_
 refine .mo rfl ?_
 refine .cB 0 h rfl (λp=>?_)
 refine .lo rfl<|.q .fv<|.q .lP<|.mo rfl ?_
 refine .cB 1 h rfl (λs=>?_)
 refine .lo rfl<|.q .fv<|.q .lP<|.q .et<|.mo rfl ?_
 refine .cB 2 h rfl (λn=>?_)
 refine .lo rfl<|.q .fv<|.q .lP<|.q .et<|.mo rfl ?_
 refine .cB 3 h rfl (λo=>?_)
 refine .lo rfl<|.q .fv<|.q .et<|.az rfl ?_
 refine .ret (aW rfl ?_)
 ·exact⟨by rw[k];exact ada (Value.int .i64) (Nz d f g i),rfl⟩
variable{d:Nat}{D:Dk}{T:au}
theorem w7(h:DI d D T)(i:0<D.fs.length)(lo hi:Int)(R:ao)(j:∀p∈T,R p.1 p.2):Spec prog 37 [pT d,.int .i64 lo,.int .i64 hi] R [] λu H'=>u=.int .i64 (if lo<0\/hi<=lo\/(D.fs.length:Int)<hi then 2 else 0)/\H'=[]:=by
 refine Spec.body func37 rfl results37 ntmps37 rfl ?_
 refine .sr<|.ag rfl<|.zs<|.block<|.sr<|.mo rfl ?_
 refine .aH (ma h _ λp f=>.inl (j p f)) (λu g=>?_)
 subst g
 refine .q .cG<|.az rfl ?_
 refine .cond rfl (λc=>?_) λc=>?_
 ·exfalso
  simp at c
  rw[c]at i
  simp at i
 refine .sr<|.mo rfl<|.q .lss<|.mo rfl ?_
 refine .split (t:=14) rfl (λb=>?_) (λb=>?_)
 refine .gF b<|.gF b<|.gF b<|.q (.bA b) ?_
 refine .mo rfl<|.gX<|.gX<|.gX<|.gX<|.q .dh<|.az rfl<|.cW<|.sr<|.az rfl ?_
 refine .ret (bi (aR (aW rfl ?_)))
 ·exact⟨ada (Value.int .i64) (adb (.inl (bp b))).symm,rfl⟩
 refine .gT b<|.mo rfl<|.gT b<|.mo rfl<|.gT b<|.q .geq<|.q (.bg b) ?_
 refine .mo rfl ?_
 refine .split (t:=19) rfl (λa=>?_) (λa=>?_)
 refine .gF a<|.gF a<|.gF a<|.gF a<|.q (.bA a) ?_
 refine .az rfl<|.cW<|.sr<|.az rfl ?_
 refine .ret (bi (aR (aW rfl ?_)))
 ·exact⟨ada (Value.int .i64) (adb (.inr (.inl (bp a)))).symm,rfl⟩
 refine .gT a<|.mo rfl<|.gT a<|.mo rfl<|.gT a ?_
 refine .aH (ma h _ λp f=>.inl (j p f)) (λu g=>?_)
 subst g
 refine .gT a<|.q .gtr<|.q (.bg a) ?_
 refine .az rfl ?_
 refine .cond rfl (λe=>?_) λe=>?_
 refine .sr<|.az rfl ?_
 refine .ret (bi (aR (aW rfl ?_)))
 ·exact⟨ada (Value.int .i64) (adb (.inr (.inr (bp e)))).symm,rfl⟩
 refine .skip<|bz<|aG<|.sr<|.az rfl ?_
 refine .ret (aW rfl ?_)
 ·exact⟨ada (Value.int .i64) (ac8 (not_or.2 ⟨ba b,not_or.2 ⟨ba a,ba e⟩⟩)).symm,rfl⟩
def qD(s:List UInt8):Nat:=max (gW s 0 4) (gW s 56 60)
def fh(fs:List (List UInt8)):Nat:=fs.foldl (λn s=>max n (qD s)) 0
theorem MQ(h:DI d D T)(F:D.now=[])(l:∀s∈D.fs,s.length=64)(H:0<D.fs.length)(N:D.fs.length<2^60)(R:ao)(n:∀p∈T,R p.1 p.2):Spec prog 15 [pT d,.int .i64 0,iN D.fs.length] R [] λu H'=>u=.tuple [.int .i64 (fh D.fs:Nat),.int .i64 0].toArray/\H'=[]:=by
 refine Spec.body func15 rfl results15 ntmps15 rfl ?_
 refine .sr<|.ag rfl<|.ag rfl<|.zs<|.sr<|.mo rfl<|.mo rfl<|.mo rfl ?_
 refine .aH (w7 h H _ _ _ λp g=>.inl (n p g)) (λu a=>?_)
 rw[ac8 (by omega)]at a
 subst a
 refine .ag rfl<|.z<|.mo rfl<|.q .cb<|.zn<|.bB<|.kn<|.sr<|.ag rfl<|.zs<|.sr<|.mo rfl<|.az rfl<|.block ?_
 refine .ik [(0,_),(2,_)] (X:=Nat) (λi=>i<=D.fs.length) (λi E=>(10,iN i)::(9,.int .i64 (fh (D.fs.take i):Nat))::E) (λ_ G=>G) (λi=>D.fs.length-i) 0 (adg _) kE.c.c.c.c rH ?_
 intro i hi
 refine .seq<|.sr<|.mo rfl<|.mo rfl<|.q .lss<|.zn ?_
 refine .cond rfl (λf=>?_) λf=>?_
 have m:i<D.fs.length:=by have x:=bp f;omega
 obtain⟨s,j⟩:=dM m
 have J:fh (D.fs.take (i+1))=max (fh (D.fs.take i)) (qD s):=by
  unfold fh;rw[adA,j,adH];rfl
 have I:=l s (bD j)
 have v:gW ((s.drop 56).take (64-56)) 0 4=gW s 56 60:=by unfold gW;rw[List.drop_zero,List.take_take];rfl
 have C:max (max ((fh (D.fs.take i):Nat):Int) ((gW s 0 4:Nat):Int)) ((gW ((s.drop 56).take (64-56)) 0 4:Nat):Int)=((fh (D.fs.take (i+1)):Nat):Int):=by rw[J,v];unfold qD;omega
 refine .kn<|.seq<|.block<|.sr<|.mo rfl<|.mo rfl ?_
 refine .bM (sF h F l i s j _ λp g=>.inl (n p g)) (λu r a=>?_)
 obtain⟨V,rfl,e⟩:=a
 have Q:=e.ay
 obtain⟨U,t,rfl⟩:=e.sg.val
 have O:s.length<=t:=by
  obtain⟨S,K,k,w,L,M⟩:=e.sg.h
  simp only[Value.slice.injEq,true_and]at k
  obtain⟨rfl,rfl⟩:=k
  exact w
 refine .mo rfl<|.q .extract<|.q .extract<|.ag rfl<|.ag rfl<|.zs<|.sr<|.mo rfl<|.q .cb<|.zn<|.bB<|.kn<|.cq [2,5] mixed ?_
 refine .tK 0 rfl .move<|.tO 1 rfl .move<|.tK 3 rfl .move ?_
 refine .tK 4 rfl (aI.dG 56 64 rfl ⟨_,rfl⟩ I.symm (by omega) (by omega)) ?_
 refine .sT 2 rfl ?_
 refine .aH (wZ _ s _ e.rx (by omega)) (λu a=>?_)
 subst a
 refine .nil (Next.mod rfl ?_)
 refine .sT 5 rfl ?_
 refine .aH (wZ _ _ _ ((e.sg.dG (lo:=56) (hi:=64) (by omega) (by omega)).mono λb o y=>.inr (by have A:(b,o)∈r:=y;simp[A])) (by simp;omega)) (λu a=>?_)
 subst a
 refine .nil (Next.mod rfl ?_)
 refine .take 6 rfl (.cast (v':=.int .i64 (fh (D.fs.take (i+1)):Nat)) .Nm (ada (Value.int .i64) C)) (by kernel_rfl) ?_
 refine .tK 7 rfl .assign ?_
 refine RA.nil (by kernel_rfl) ?_
 refine bz<|aG<|.region<|.mo rfl ?_
 refine .ia (i+1) .add ?_
 refine .ag rfl<|.nil ?_
 ·exact br (i+1) m (by omega) kE.c.c.c.c (bu.drop [0] _)
 have B:i=D.fs.length:=by have x:=ba f;omega
 rw[B,adI]
 refine .exit<|bk<|bw<|bq<|aG<|.sr<|.mo rfl<|.ag rfl<|.az rfl ?_
 refine .ret (aO _ (.two (.tmp rfl) (.tmp rfl)) (.none _) ?_)
 ·exact⟨rfl,rfl⟩
end
section
structure Lg where
 lo:Nat
 hi:Nat
 at_:Nat
 ep:Nat
 nx:Nat
def gh(d:Nat)(L:Lg):List Value:=[pT d,iN L.lo,iN L.hi,iN L.at_,iN L.ep,iN L.nx,.int .i64 0]
def iX(fs:List (List UInt8))(hi i ix sq:Nat):Option Pt:=
 if hi<=i then none else(fs[i]?.bind dV).bind λp=>if p.ix=ix/\p.sq=sq then some p else none
variable{d:Nat}{D:Dk}{T:au}
theorem yU(h:DI d D T)(I:D.now=[])(E:∀s∈D.fs,s.length=64)(l:Nat)(L:Lg)(Q:L.hi<=D.fs.length)(i v x:Nat)(R:ao)(J:∀p∈T,R p.1 p.2)(W:PC R (pT l) (gh d L))(H:PC R (pT 1) (wv eW)):
  Spec prog 117 [pT l,iN i,iN v,iN x] R [] λu H'=>∃T',H'=[T']/\∃(w:Value) (p:Pt) (ok:Bool),u=.tuple [.agg (df (w,p)).toArray,.bool ok].toArray/\fj (sg T') (w,p)/\iX D.fs L.hi i v x=if ok then some p else none:=by
 refine Spec.du (H':=[[]]) (by simp) ?_
 refine Spec.body func117 rfl results117 ntmps117 rfl ?_
 refine .sr ?_
 refine .cn (λO=>?_)
 refine .ag rfl<|.zs<|.sr<|.mo rfl<|.mo rfl<|.nc rfl<|.fa rfl<|.lo rfl<|.q .geq<|.zn ?_
 refine .cond rfl (λy=>?_) λy=>?_
 have m:iX D.fs L.hi i v x=none:=by have c:=bp y;unfold iX;rw[adb (by omega)]
 refine .sr ?_
 refine .q .cC ?_
 refine .bZ rfl rfl<|.az rfl ?_
 refine .ret (aR (aO _ (.two (.ej rfl rfl) (.tmp rfl)) (.one [1] _) ?_))
 ·exact⟨[],rfl,sZ,Pt.zero,false,rfl,mY,m⟩
 have S:i<L.hi:=by have c:=ba y;omega
 obtain⟨s,C⟩:∃s,D.fs[i]? =some s:=⟨_,bd (by omega)⟩
 have m:iX D.fs L.hi i v x=(dV s).bind λp=>if p.ix=v/\p.sq=x then some p else none:=by unfold iX;rw[ac8 (by omega),C];rfl
 refine .kn<|.sr<|.mo rfl<|.nc rfl<|.fa rfl<|.lo rfl<|.mo rfl ?_
 refine .bM (sF h I E i s C _ λp k=>.inl (J p k)) (λu M z=>?_)
 obtain⟨K,rfl,A⟩:=z
 have U:=A.ay
 refine .mo rfl<|.q .extract<|.q .extract<|.ag rfl<|.ag rfl<|.zs<|.sr<|.mo rfl<|.q .cb<|.zn<|.bB<|.kn<|.sr<|.mo rfl ?_
 refine .bM (w4 K s _ A.rx (H.mono λb o F=>.inl F)) (λu r z=>?_)
 obtain⟨w,p,e,rfl,k,B⟩:=z
 have V:bI (df (w,p)):=⟨k.bU⟩
 refine .mo rfl<|.q .extract<|.q .extract ?_
 refine .cn (λN=>?_)
 refine .bZ rfl rfl<|.ag rfl<|.zs<|.cq [15] mixed ?_
 refine .tO 0 rfl (.bj rfl)<|.tO 1 rfl .move<|.tO 2 rfl .cG<|.tO 3 rfl .move ?_
 refine RA.split (t:=40) rfl (λg=>?_) (λg=>?_)
 have G:e=0:=by simpa using g
 have n:dV s=some p:=by rcases B with⟨_,c⟩|⟨c,_⟩;exact c;omega
 refine .dd 4 rfl rfl g (.fieldAddr rfl) (by kernel_rfl) ?_
 refine .dd 5 rfl rfl g (.bo rfl) (by kernel_rfl) ?_
 refine .dd 6 rfl rfl g .move (by kernel_rfl) ?_
 refine .dd 7 rfl rfl g .cG (by kernel_rfl) ?_
 refine .tO 8 rfl (.bA g) ?_
 refine .tO 9 rfl .move ?_
 refine RA.split (t:=46) rfl (λf=>?_) (λf=>?_)
 refine .rf 10 rfl rfl f (.dU rfl) (by kernel_rfl) ?_
 refine .rf 12 rfl rfl f .move (by kernel_rfl) ?_
 refine RA.lh 11 15 rfl rfl (by kernel_rfl) rfl ?_ ?_
 refine .gT f<|.lo rfl ?_
 refine .nil (Next.sub ?_)
 refine .rf 13 rfl rfl f .cG (by kernel_rfl) ?_
 refine .tK 14 rfl (.bA f) ?_
 refine .sT 15 rfl ?_
 refine .bZ rfl rfl ?_
 refine .nil (Next.mod rfl ?_)
 refine .tK 16 rfl .assign ?_
 refine RA.nil (by kernel_rfl) ?_
 refine aG ?_
 refine .ret (aO _ (.two (.ej rfl rfl) (.tmp rfl)) (.one [1] _) ?_)
 ·refine⟨r,by simp[take,bf],w,p,_,rfl,k,?_⟩
  rw[m,n]
  have j:∀a b:Nat,((a:Int)==(b:Int))=decide (a=b):=λa b=>by rw[ac9];simp[adp]
  simp only[j,adh,adq]at *
  first
   |rfl
   |(have c:=ba f;simp[c];done)
   |(have c:=bp f;simp[c];done)
 refine .bZ rfl rfl ?_
 refine .nil (Next.mod rfl ?_)
 refine .sT 11 rfl ?_
 refine .gT f<|.lo rfl ?_
 refine .nil (Next.mod rfl ?_)
 refine .rf 13 rfl rfl f .cG (by kernel_rfl) ?_
 refine .tK 14 rfl (.bA f) ?_
 refine .tK 16 rfl .assign ?_
 refine RA.nil (by kernel_rfl) ?_
 refine aG ?_
 refine .ret (aO _ (.two (.ej rfl rfl) (.tmp rfl)) (.one [1] _) ?_)
 ·refine⟨r,by simp[take,bf],w,p,_,rfl,k,?_⟩
  rw[m,n]
  have j:∀a b:Nat,((a:Int)==(b:Int))=decide (a=b):=λa b=>by rw[ac9];simp[adp]
  simp only[j,adh,adq]at *
  first
   |rfl
   |(have c:=ba f;simp[c];done)
   |(have c:=bp f;simp[c];done)
 refine .cV 10 rfl rfl f rfl (by kernel_rfl) ?_
 refine .cV 12 rfl rfl f rfl (by kernel_rfl) ?_
 refine RA.lh 11 15 rfl rfl (by kernel_rfl) rfl ?_ ?_
 refine .gF f ?_
 refine .nil (Next.sub ?_)
 refine .cV 13 rfl rfl f rfl (by kernel_rfl) ?_
 refine .tK 14 rfl (.bg f) ?_
 refine .sT 15 rfl ?_
 refine .bZ rfl rfl ?_
 refine .nil (Next.mod rfl ?_)
 refine .tK 16 rfl .assign ?_
 refine RA.nil (by kernel_rfl) ?_
 refine aG ?_
 refine .ret (aO _ (.two (.ej rfl rfl) (.tmp rfl)) (.one [1] _) ?_)
 ·refine⟨r,by simp[take,bf],w,p,_,rfl,k,?_⟩
  rw[m,n]
  have j:∀a b:Nat,((a:Int)==(b:Int))=decide (a=b):=λa b=>by rw[ac9];simp[adp]
  simp only[j,adh,adq]at *
  first
   |rfl
   |(have c:=ba f;simp[c];done)
   |(have c:=bp f;simp[c];done)
 refine .bZ rfl rfl ?_
 refine .nil (Next.mod rfl ?_)
 refine .sT 11 rfl ?_
 refine .gF f ?_
 refine .nil (Next.mod rfl ?_)
 refine .cV 13 rfl rfl f rfl (by kernel_rfl) ?_
 refine .tK 14 rfl (.bg f) ?_
 refine .tK 16 rfl .assign ?_
 refine RA.nil (by kernel_rfl) ?_
 refine aG ?_
 refine .ret (aO _ (.two (.ej rfl rfl) (.tmp rfl)) (.one [1] _) ?_)
 ·refine⟨r,by simp[take,bf],w,p,_,rfl,k,?_⟩
  rw[m,n]
  have j:∀a b:Nat,((a:Int)==(b:Int))=decide (a=b):=λa b=>by rw[ac9];simp[adp]
  simp only[j,adh,adq]at *
  first
   |rfl
   |(have c:=ba f;simp[c];done)
   |(have c:=bp f;simp[c];done)
 have G:e≠0:=by simpa using g
 have n:dV s=none:=by rcases B with⟨c,_⟩|⟨_,c,_⟩;omega;exact c
 refine .cV 4 rfl rfl g rfl (by kernel_rfl) ?_
 refine .cV 5 rfl rfl g rfl (by kernel_rfl) ?_
 refine .cV 6 rfl rfl g rfl (by kernel_rfl) ?_
 refine .cV 7 rfl rfl g rfl (by kernel_rfl) ?_
 refine .tO 8 rfl (.bg g) ?_
 refine .tO 9 rfl .move ?_
 refine .cA 10 rfl rfl rfl (by kernel_rfl) ?_
 refine .cA 12 rfl rfl rfl (by kernel_rfl) ?_
 refine RA.lh 11 15 rfl rfl (by kernel_rfl) rfl ?_ ?_
 refine .gX ?_
 refine .nil (Next.sub ?_)
 refine .cA 13 rfl rfl rfl (by kernel_rfl) ?_
 refine .tK 14 rfl .cd ?_
 refine .sT 15 rfl ?_
 refine .bZ rfl rfl ?_
 refine .nil (Next.mod rfl ?_)
 refine .tK 16 rfl .assign ?_
 refine RA.nil (by kernel_rfl) ?_
 refine aG ?_
 refine .ret (aO _ (.two (.ej rfl rfl) (.tmp rfl)) (.one [1] _) ?_)
 ·refine⟨r,by simp[take,bf],w,p,_,rfl,k,?_⟩
  rw[m,n]
  have j:∀a b:Nat,((a:Int)==(b:Int))=decide (a=b):=λa b=>by rw[ac9];simp[adp]
  simp only[j,adh,adq]at *
  first
   |rfl
   |(have c:=ba f;simp[c];done)
   |(have c:=bp f;simp[c];done)
 refine .bZ rfl rfl ?_
 refine .nil (Next.mod rfl ?_)
 refine .sT 11 rfl ?_
 refine .gX ?_
 refine .nil (Next.mod rfl ?_)
 refine .cA 13 rfl rfl rfl (by kernel_rfl) ?_
 refine .tK 14 rfl .cd<|.tK 16 rfl .assign ?_
 refine RA.nil (by kernel_rfl) ?_
 refine aG ?_
 refine .ret (aO _ (.two (.ej rfl rfl) (.tmp rfl)) (.one [1] _) ?_)
 ·refine⟨r,by simp[take,bf],w,p,_,rfl,k,?_⟩
  rw[m,n]
  have j:∀a b:Nat,((a:Int)==(b:Int))=decide (a=b):=λa b=>by rw[ac9];simp[adp]
  simp only[j,adh,adq]at *
  first
   |rfl
   |(have c:=ba f;simp[c];done)
   |(have c:=bp f;simp[c];done)
end
section
variable{d:Nat}{D:Dk}{T:au}
def ng(fs:List (List UInt8))(hi i sq:Nat):Prop:=∀p,iX fs hi i 0 sq=some p->p.tt=1/\∃l,kU [p]=some l
def recAt(fs:List (List UInt8))(hi i sq:Nat):Option (List UInt8):=(iX fs hi i 0 sq).bind λp=>kU [p]
theorem QJ(h:DI d D T)(Z:D.now=[])(V:∀s∈D.fs,s.length=64)(l:Nat)(L:Lg)(W:L.hi<=D.fs.length)(U:ng D.fs L.hi L.at_ L.nx)(R:ao)(hr:∀p∈T,R p.1 p.2)(pl:PC R (pT l) (gh d L))(Y:PC R (pT 1) (wv eW)):
  Spec prog 48 [pT l] R [] λu H'=>∃T',H'=[T']/\∃(v:Value) (b:List UInt8) (n:Nat),u=.tuple [v,iN n].toArray/\OS 5 1 bS v b T'/\((n=0/\recAt D.fs L.hi L.at_ L.nx=none)\/(n=1/\recAt D.fs L.hi L.at_ L.nx=some b)):=by
 refine Spec.du (H':=[[]]) (by simp) ?_
 refine Spec.body func48 rfl results48 ntmps48 rfl ?_
 refine .sr<|.ag rfl<|.ag rfl<|.zs<|.cq [9,14] mixed ?_
 refine .tO 0 rfl .move<|.tO 1 rfl .move<|.tO 2 rfl (.nilCheck rfl)<|.tO 3 rfl (.fieldAddr rfl)<|.tO 4 rfl (.bo rfl)<|.tO 5 rfl .move<|.tO 6 rfl (.nilCheck rfl)<|.tO 7 rfl (.fieldAddr rfl)<|.tO 8 rfl (.bo rfl) ?_
 refine RA.lh 9 13 rfl rfl (by kernel_rfl) rfl ?_ ?_
 refine .bM (yU h Z V l L W L.at_ 0 L.nx _ (λp f=>.inl (hr p f)) (pl.mono λb o a=>.inl a) (Y.mono λb o a=>.inl a)) (λu M t=>?_)
 obtain⟨w,p,J,rfl,f,C⟩:=t
 have ip:bI (df (w,p)):=⟨f.bU⟩
 refine .nil (Next.mod rfl ?_)
 refine .tK 10 rfl .move<|.tK 11 rfl .extract<|.tK 12 rfl .extract ?_
 refine .sT 13 rfl ?_
 refine .cn (λb4=>?_)
 refine .nil (Next.mod rfl ?_)
 refine .sT 14 rfl ?_
 refine .bZ rfl rfl ?_
 refine .nil (Next.mod rfl ?_)
 refine .tK 15 rfl .assign ?_
 refine RA.nil (by kernel_rfl) ?_
 refine aG<|.seq<|.sr<|.mo rfl<|.q .not<|.zn ?_
 refine .cond rfl (λi=>?_) λi=>?_
 have m:J=false:=by simpa using i
 subst m
 have r:recAt D.fs L.hi L.at_ L.nx=none:=by unfold recAt;rw[C];rfl
 refine .sr<|.ag rfl<|.az rfl ?_
 refine .ret (aR (aO _ (.two (.tmp rfl) (.tmp rfl)) (.one [2] _) ?_))
 ·exact⟨[],by simp[take,bf],sZ,[],0,rfl,OS.nil,.inl ⟨rfl,r⟩⟩
 have m:J=true:=by simpa using i
 subst m
 have F:iX D.fs L.hi L.at_ 0 L.nx=some p:=C
 obtain⟨H,y,k⟩:=U p F
 have r:recAt D.fs L.hi L.at_ L.nx=some y:=by unfold recAt;rw[F];exact k
 refine .kn<|.sr<|.q (.bj rfl) ?_
 refine .hY (λa0=>?_) rfl
 refine .ag rfl<|.zs<|.sr<|.az rfl<|.block ?_
 refine .ik [(0,_),(4,_),(6,_)] (X:=Unit) (λ_=>True) (λ_ E=>(7,iN 1)::E) (λ_ G=>G) (λ_=>0) () adf kE.c.c.c.c rH ?_
 rintro⟨⟩ _
 refine .seq<|.sr<|.mo rfl<|.fa rfl<|.lo rfl<|.q .lss<|.zn ?_
 refine .cond rfl (λz=>?_) λz=>?_
 ·exfalso
  have j:=bp z
  simp only[H]at j
  omega
 refine .exit<|bk<|bw<|bq<|aG<|.sr<|.mo rfl ?_
 refine .bM (sG _ [((w,p):hK)] _ (RS.qu (x:=((w,p):hK)) rfl rfl f.bU) (λp' B=>by rw[ado]at B;subst B;exact f.mono λb o a=>.inr (by have N:(b,o)∈M:=a;simp[N]))) (λu K t=>?_)
 obtain⟨S,I,e,rfl,A,O⟩:=t
 have a1:=A.ay
 have Q:e=0/\I=y:=by
  rcases O with⟨j,g⟩|⟨_,g,_⟩
  ·exact⟨j,Option.some.inj (g.symm.trans k)⟩
  ·rw[show [((w,p):hK)].map (·.2)=[p]from rfl,k]at g;cases g
 obtain⟨rfl,rfl⟩:=Q
 refine .mo rfl<|.q .extract<|.q .extract<|.ag rfl<|.ag rfl<|.zs<|.sr<|.mo rfl<|.q .cb<|.zn<|.bB<|.kn<|.seq ?_
 refine .kG mixed (by kernel_rfl) ?_
 refine .mo rfl<|.fa rfl<|.lo rfl<|.ag rfl<|.az rfl ?_
 refine .ret (aO _ (.two (.tmp rfl) (.tmp rfl)) (.one [0] _) ?_)
 ·exact⟨K,by simp[take,bf],S,I,1,by rw[show(w,p).2.tt=1 from H],A,.inr ⟨rfl,r⟩⟩
 refine .cn (λb4=>?_)
 refine .nil (Next.sub ?_)
 refine .sT 9 rfl ?_
 refine .bM (yU h Z V l L W L.at_ 0 L.nx _ (λp f=>.inl (hr p f)) (pl.mono λb o a=>.inl a) (Y.mono λb o a=>.inl a)) (λu M t=>?_)
 obtain⟨w,p,J,rfl,f,C⟩:=t
 have ip:bI (df (w,p)):=⟨f.bU⟩
 refine .nil (Next.mod rfl ?_)
 refine .tK 10 rfl .move<|.tK 11 rfl .extract<|.tK 12 rfl .extract ?_
 refine .sT 14 rfl ?_
 refine .bZ rfl rfl ?_
 refine .nil (Next.mod rfl ?_)
 refine .tK 15 rfl .assign ?_
 refine RA.nil (by kernel_rfl) ?_
 refine aG<|.seq<|.sr<|.mo rfl<|.q .not<|.zn ?_
 refine .cond rfl (λi=>?_) λi=>?_
 have m:J=false:=by simpa using i
 subst m
 have r:recAt D.fs L.hi L.at_ L.nx=none:=by unfold recAt;rw[C];rfl
 refine .sr<|.ag rfl<|.az rfl ?_
 refine .ret (aR (aO _ (.two (.tmp rfl) (.tmp rfl)) (.one [2] _) ?_))
 ·exact⟨[],by simp[take,bf],sZ,[],0,rfl,OS.nil,.inl ⟨rfl,r⟩⟩
 have m:J=true:=by simpa using i
 subst m
 have F:iX D.fs L.hi L.at_ 0 L.nx=some p:=C
 obtain⟨H,y,k⟩:=U p F
 have r:recAt D.fs L.hi L.at_ L.nx=some y:=by unfold recAt;rw[F];exact k
 refine .kn<|.sr<|.q (.bj rfl) ?_
 refine .hY (λa0=>?_) rfl
 refine .ag rfl<|.zs<|.sr<|.az rfl<|.block ?_
 refine .ik [(0,_),(4,_),(6,_)] (X:=Unit) (λ_=>True) (λ_ E=>(7,iN 1)::E) (λ_ G=>G) (λ_=>0) () adf kE.c.c.c.c rH ?_
 rintro⟨⟩ _
 refine .seq<|.sr<|.mo rfl<|.fa rfl<|.lo rfl<|.q .lss<|.zn ?_
 refine .cond rfl (λz=>?_) λz=>?_
 ·exfalso
  have j:=bp z
  simp only[H]at j
  omega
 refine .exit<|bk<|bw<|bq<|aG<|.sr<|.mo rfl ?_
 refine .bM (sG _ [((w,p):hK)] _ (RS.qu (x:=((w,p):hK)) rfl rfl f.bU) (λp' B=>by rw[ado]at B;subst B;exact f.mono λb o a=>.inr (by have N:(b,o)∈M:=a;simp[N]))) (λu K t=>?_)
 obtain⟨S,I,e,rfl,A,O⟩:=t
 have a1:=A.ay
 have Q:e=0/\I=y:=by
  rcases O with⟨j,g⟩|⟨_,g,_⟩
  ·exact⟨j,Option.some.inj (g.symm.trans k)⟩
  ·rw[show [((w,p):hK)].map (·.2)=[p]from rfl,k]at g;cases g
 obtain⟨rfl,rfl⟩:=Q
 refine .mo rfl<|.q .extract<|.q .extract<|.ag rfl<|.ag rfl<|.zs<|.sr<|.mo rfl<|.q .cb<|.zn<|.bB<|.kn<|.seq ?_
 refine .kG mixed (by kernel_rfl) ?_
 refine .mo rfl<|.fa rfl<|.lo rfl<|.ag rfl<|.az rfl ?_
 refine .ret (aO _ (.two (.tmp rfl) (.tmp rfl)) (.one [0] _) ?_)
 ·exact⟨K,by simp[take,bf],S,I,1,by rw[show(w,p).2.tt=1 from H],A,.inr ⟨rfl,r⟩⟩
end
section
abbrev mC:Type:=Value×List UInt8
def rX(x:mC):List Value:=[x.1]
def ry(R:ao)(x:mC):Prop:=RS R 1 bS x.1 x.2
def fI(fs:List (List UInt8))(hi:Nat):Nat->Nat->Nat->List (List UInt8)
 |0,_,_=>[]
 |k+1,i,sq=>match recAt fs hi i sq with
  |none=>[]
  |some b=>b::fI fs hi k (i+1) (sq+1)
theorem Ot{a:List (List UInt8)}{hi i d:Nat}{b:List UInt8}(h:recAt a hi i d=some b):i<hi:=by
 apply Nat.lt_of_not_le
 intro c
 unfold recAt iX at h
 rw[adb c]at h
 cases h
theorem qv{a:List (List UInt8)}{hi i b k:Nat}(h:recAt a hi i b=none):fI a hi k i b=[]:=by
 cases k with
 |zero=>rfl
 |succ k=>simp[fI,h]
variable{d:Nat}{D:Dk}{T:au}
theorem QA(h:DI d D T)(hn:D.now=[])(W:∀s∈D.fs,s.length=64)(lo hi i a:Nat)(a6:lo<hi)(Y:hi<=D.fs.length)(a5:D.fs.length<2^40)(he:i<=4294967295)(hs:a<=4294967295)(V:∀j,ng D.fs hi (lo+j) (a+j))(R:ao)(Q:∀p∈T,R p.1 p.2)(hg:PC R (pT 1) (wv eW)):
  Spec prog 18 [pT d,iN lo,iN hi,iN i,iN a] R [] λu H'=>∃l To Ti vo bs,H'=[bl l (gh d ⟨lo,hi,lo+bs.length,i,a+bs.length⟩) 94,To,Ti]/\u=.tuple [pT l,vo,.int .i64 0].toArray/\OS 25 1 rX vo bs To/\(∀x∈bs,ry (sg Ti) x)/\bs.map (·.2)=fI D.fs hi (hi-lo) lo a:=by
 refine Spec.body func18 rfl results18 ntmps18 rfl ?_
 refine .sr<|.ag rfl<|.ag rfl<|.ag rfl<|.zs<|.sr<|.mo rfl<|.mo rfl<|.mo rfl ?_
 refine .aH (w7 h (by omega) _ _ _ λp f=>.inl (Q p f)) (λu F=>?_)
 rw[ac8 (by omega)]at F
 subst F
 refine .ag rfl<|.z<|.mo rfl<|.q .cb<|.zn<|.bB<|.kn<|.seq<|.sr<|.mo rfl<|.q .lss<|.mo rfl ?_
 refine .split (t:=27) rfl (λr=>?_) (λr=>?_)
 ·exfalso
  have e:=bp r
  omega
 refine .gT r<|.mo rfl<|.gT r<|.q .gtr<|.q (.bg r) ?_
 refine .mo rfl ?_
 refine .split (t:=31) rfl (λv=>?_) (λv=>?_)
 ·exfalso
  have e:=bp v
  omega
 refine .gT v<|.mo rfl<|.gT v<|.q .lss<|.q (.bg v) ?_
 refine .mo rfl ?_
 refine .split (t:=35) rfl (λm=>?_) (λm=>?_)
 ·exfalso
  have e:=bp m
  omega
 refine .gT m<|.mo rfl<|.gT m<|.q .gtr<|.q (.bg m) ?_
 refine .zn ?_
 refine .cond rfl (λM=>?_) λM=>?_
 ·exfalso
  have e:=bp M
  omega
 refine .kn<|.sr<|.mo rfl<|.mo rfl<|.mo rfl<|.mo rfl<|.mo rfl<|.mo rfl ?_
 refine .q .cC ?_
 refine .cc rfl (λH=>?_)
 refine .ag rfl<|.z<|.az rfl<|.block ?_
 refine .ik [(14,_)] (X:=Nat×Value×List mC×au×au) (λy=>lo+y.1<=hi/\OS 25 1 rX y.2.1 y.2.2.1 y.2.2.2.1/\(∀x∈y.2.2.1,ry (sg y.2.2.2.2) x)/\y.2.2.1.length=y.1/\fI D.fs hi (hi-lo) lo a=y.2.2.1.map (·.2)++fI D.fs hi (hi-lo-y.1) (lo+y.1) (a+y.1)) (λy E=>(15,y.2.1)::E) (G:=[]) (λy G=>bl H (gh d ⟨lo,hi,lo+y.1,i,a+y.1⟩) 94::y.2.2.2.1::y.2.2.2.2::G) (λy=>hi-lo-y.1) (0,sZ,[],[],[]) ⟨by omega,OS.nil,λp f=>(by simp at f),rfl,rfl⟩ kE.c.c (bu.cu (by simp[bT,gh])) ?_
 rintro⟨j,vo,bs,To,Ti⟩ ⟨hj,B,f,J,K⟩
 simp only at hj B f J K⊢
 have b0:=B.ay
 refine .block<|.sr<|.mo rfl ?_
 refine .bM (QJ h hn W H ⟨lo,hi,lo+j,i,a+j⟩ Y (V j) _ (λp f=>.inl (Q p f)) (PC.of (E:=94) (fr:=(0,0)) (.inr (by simp))) (hg.mono λb o w=>.inl w)) (λu U F=>?_)
 obtain⟨L,A,n,rfl,O,g⟩:=F
 have i8:=O.ay
 refine .mo rfl<|.q .extract<|.q .extract<|.ag rfl<|.ag rfl<|.zs<|.sr<|.mo rfl<|.q .cG<|.zn ?_
 refine .cond rfl (λI=>?_) λI=>?_
 have a8:n=0:=by have e:((n:Nat):Int)=0:=(by simpa using I);omega
 have C:recAt D.fs hi (lo+j) (a+j)=none:=by rcases g with⟨_,e⟩|⟨e,_⟩<;>first|exact e|omega
 have Z:bs.map (·.2)=fI D.fs hi (hi-lo) lo a:=by rw[K,qv C,List.append_nil]
 refine .sr<|.mo rfl<|.mo rfl<|.ag rfl<|.ag rfl<|.az rfl ?_
 refine .ret (aR (bi (cK (bi (aO _ (.three (.tmp rfl) (.tmp rfl) (.tmp rfl)) (bu.drop [0] _) ?_)))))
 ·exact⟨H,To,Ti,vo,bs,by rw[J];rfl,rfl,B,f,Z⟩
 have a2:n=1:=by rcases g with⟨e,_⟩|⟨e,_⟩<;>first|exact e|(subst e;simp at I)
 subst a2
 have C:recAt D.fs hi (lo+j) (a+j)=some A:=by rcases g with⟨e,_⟩|⟨_,e⟩;cases e;exact e
 have a7:=Ot C
 obtain⟨k,hk⟩:∃k,hi-lo-j=k+1:=⟨hi-lo-j-1,by omega⟩
 have a0:hi-lo-(j+1)=k:=by omega
 have a1:fI D.fs hi (hi-lo) lo a=(bs++[((L,A):mC)]).map (·.2)++fI D.fs hi (hi-lo-(j+1)) (lo+(j+1)) (a+(j+1)):=by
  rw[K,hk,a0];simp only[fI,C];simp[Nat.add_assoc]
 refine .kn<|.sr<|.mo rfl<|.mo rfl ?_
 refine .lq (λa4=>?_)
 refine .append B (RS.qu (x:=((L,A):mC)) rfl rfl (λc g=>by rw[ado]at g;subst g;exact i8.h)) (by simp;omega) (λa3 S N=>?_)
 have a9:=N.ay
 refine .ag rfl<|.z<|.mo rfl<|.nc rfl<|.fa rfl<|.lo rfl<|.mo rfl ?_
 refine .q (.i64 ((lo+(j+1):Nat):Int) .add ⟨by show((lo+j:Nat):Int)+1=((lo+(j+1):Nat):Int);omega,by omega,by omega⟩) ?_
 refine .nc rfl<|.fa rfl<|.ca rfl rfl<|.zn<|.region<|.mo rfl<|.nc rfl<|.fa rfl<|.lo rfl<|.mo rfl ?_
 refine .q (.i64 ((a+(j+1):Nat):Int) .add ⟨by show((a+j:Nat):Int)+1=((a+(j+1):Nat):Int);omega,by omega,by omega⟩) ?_
 refine .nc rfl<|.fa rfl<|.ca rfl rfl<|.nil<|bz ?_
 ·exact br (j+1,a3,bs++[((L,A):mC)],S,U++Ti) ⟨by omega,N,λp hq=>by
   rcases List.mem_append.1 hq with hq|hq
   ·exact(f p hq).mono λb o w=>lO w
   ·rw[ado]at hq;subst hq;exact O.sg.mono λb o w=>og w,by simp[J],a1⟩ (by simp only;omega) kE.c.c ((bG [2,2,1,1]).trans (bu.cu (by simp[take,bf,bT,gh,iN])))
end
section
variable{d:Nat}{D:Dk}{T:au}
theorem yT(l:Nat)(L:Lg)(R:ao)(a:PC R (pT l) (gh d L)):Spec prog 50 [pT l] R [] λu H'=>u=.bool true/\H'=[]:=by
 refine Spec.body func50 rfl results50 ntmps50 rfl ?_
 refine .sr<|.ag rfl<|.z<|.mo rfl<|.q (.jX rfl rfl) ?_
 refine .mo rfl<|.gt rfl ?_
 refine .mo rfl<|.gt rfl ?_
 refine .nc rfl<|.gt rfl ?_
 refine .fa rfl<|.gt rfl ?_
 refine .lo rfl<|.gt rfl ?_
 refine .q (.jm rfl rfl) ?_
 refine .q .dh<|.az rfl ?_
 refine .ret (aW rfl ?_)
 ·first
   |exact⟨rfl,rfl⟩
   |cases g1_2
theorem yY(l:Nat)(L:Lg)(f:L.at_<=L.hi)(a:L.hi<2^40)(R:ao)(e:PC R (pT l) (gh d L)):Spec prog 21 [pT l] R [] λu H'=>u=.int .i64 ((L.hi-L.at_:Nat):Int)/\H'=[]:=by
 refine Spec.body func21 rfl results21 ntmps21 rfl ?_
 refine .sr<|.ag rfl<|.zs<|.sr<|.mo rfl ?_
 refine .aH (yT (d:=d) l L _ (e.mono λb o a=>.inl a)) (λu c=>?_)
 subst c
 refine .q .not<|.zn<|.bB<|.kn<|.seq ?_
 refine .kG mixed (by kernel_rfl) ?_
 refine .mo rfl<|.nc rfl<|.fa rfl<|.lo rfl<|.mo rfl ?_
 refine .nc rfl<|.fa rfl<|.lo rfl ?_
 refine .ia (L.hi-L.at_) .sub ?_
 refine .az rfl ?_
 refine .ret (aW rfl ?_)
 ·exact⟨rfl,rfl⟩
theorem Qy(h:DI d D T)(i:D.fD=0)(m:D.dead=false)(C:D.ws=[])(l:Nat)(L:Lg)(t:L.at_<D.fs.length)(a0:D.fs.length<2^40)(v w:Value)(p:Pt)(B:fL p=true)(R:ao)(pl:PC R (pT l) (gh d L))(n:RS R 5 df v [((w,p):hK)])(A:fj R (w,p))(K:PC R (pT 1) (wv eW)):
  Spec prog 188 [pT l,v] R [T] λu H'=>∃T',H'=[T']/\u=.int .i64 0/\DI d (D.wr (L.at_:Nat) (ff p)).nJ T':=by
 have iv:=n.ay
 have ip:bI (df (w,p)):=⟨A.bU⟩
 have Q:(ff p).length=64:=sL (gB.1 B).2.2.2.2.2
 have a1:∀k:Nat,(if k=0 then D else D.wr (L.at_:Nat) (ff p)).fD=0/\(if k=0 then D else D.wr (L.at_:Nat) (ff p)).dead=false:=λk=>by split<;>exact⟨i,m⟩
 refine Spec.body func188 rfl results188 ntmps188 rfl ?_
 refine .sr<|.ag rfl<|.zs<|.sr<|.mo rfl<|.q (.cv n) ?_
 refine .mo rfl<|.zn<|.block ?_
 refine .ik [(0,_),(10,_),(11,_)] (X:=Nat×au) (λy=>y.1<=1/\DI d (if y.1=0 then D else D.wr (L.at_:Nat) (ff p)) y.2) (λy E=>(12,iN y.1)::E) (G:=[]) (λy G=>y.2::G) (λy=>1-y.1) (0,T) ⟨by omega,h⟩ kE.c.c.c.c rH ?_
 rintro⟨k,W⟩ ⟨M,a⟩
 simp only at M a⊢
 refine .sr<|.q .lss<|.zs ?_
 refine .cond rfl (λf=>?_) λf=>?_
 have N:k=0:=by have g:=bp f;simp at g;omega
 subst N
 rw[adb rfl]at a
 refine .kn<|.seq<|.block<|.sr<|.mo rfl ?_
 refine .cB 0 n rfl (λa2=>?_)
 refine .q (.bj rfl) ?_
 refine .cn (λb6=>?_)
 refine .ag rfl<|.bZ rfl rfl<|.z<|.q (.bj rfl) ?_
 refine .bM (MI w p _ (A.mono λb o j=>.inl j) B (K.mono λb o j=>.inl j)) (λu Y e=>?_)
 obtain⟨Z,rfl,s⟩:=e
 have i4:=s.ay
 refine .mo rfl<|.q .extract<|.q .extract<|.ag rfl<|.ag rfl<|.zs<|.sr<|.mo rfl<|.q .cb<|.zn<|.bB<|.kn<|.seq ?_
 refine .cM 11 mixed (by kernel_rfl) ?_
 conv=>arg 6;dsimp only[List.take]
 refine .mo rfl<|.nc rfl<|.fa rfl<|.lo rfl<|.mo rfl ?_
 refine .nc rfl<|.fa rfl<|.lo rfl<|.mo rfl ?_
 refine .ia (L.at_+0) .add ?_
 refine .mo rfl<|.nil ?_
 refine .call [2] (Na a i m L.at_ t (ff p) Q _ _ (s.rs λq S=>.inr (by simp[rest,bf,S])) (by rw[C];simp)) (λu V e=>?_)
 obtain⟨H,rfl,rfl,J⟩:=e
 refine .ag rfl<|.z<|.mo rfl<|.q .cb<|.zn<|.bB<|.skip<|bz<|aG<|.region<|.q .add<|.mo rfl<|.nil ?_
 ·exact br (1,H) ⟨by omega,by rw[ac8 (by omega)];exact J⟩ (by simp only;omega) kE.c.c.c.c (bu.drop [1,1] _)
 have O:k=1:=by have g:=ba f;simp at g;omega
 rw[O,ac8 (by omega)]at a
 refine .exit<|bk<|bw<|bq<|aG<|.sr<|.mo rfl<|.nc rfl<|.fa rfl<|.lo rfl ?_
 refine .aT (MM a i m (by show 0<D.fs.length;omega) (λx U=>by
  have r:x∈D.ws++([(((L.at_:Nat):Int),ff p)]:List SW):=U
  rw[C]at r
  simp at r
  subst r
  exact⟨L.at_,rfl,t⟩) R) (λu F e=>?_)
 obtain⟨rfl,I⟩:=e
 refine .az rfl ?_
 refine .ret (aO _ (.one (.tmp rfl)) rH ?_)
 ·exact⟨F,rfl,rfl,I⟩
end
section
variable{d:Nat}{D:Dk}{T:au}
theorem yo{a c:Nat}{b:List UInt8}(h:b.length<=38):q9 a c b=[ke a c b 0]/\ke a c b 0=⟨a,c,0,1,b⟩:=by
 have d:jL b.length=1:=by unfold jL;omega
 have e:(0+1)*38=38:=rfl
 refine⟨by unfold q9;rw[d];rfl,?_⟩
 unfold ke
 rw[d]
 simp[Nat.min_eq_right h]
theorem Ox{a c:Nat}{b:List UInt8}(h:b.length<=38)(d:a<=4294967295)(e:c<=4294967295):fL ⟨a,c,0,1,b⟩=true:=gB.2 ⟨d,e,Nat.le_refl 1,(by decide:(1:Nat)<=65535),(by decide:(0:Nat)<1),h⟩
theorem Qt(h:DI d D T)(C:D.fD=0)(I:D.dead=false)(Q:D.ws=[])(l:Nat)(L:Lg)(X:L.at_<L.hi)(W:L.hi<=D.fs.length)(G:D.fs.length<2^40)(x:L.ep<=4294967295)(y:L.nx<=4294967295)(v:Value)(b:List UInt8)(c:b.length<=38)(R:ao)(j:RS R 1 bS v b)(J:PC R (pT 1) (wv eW)):
  Spec prog 96 [pT l,v] R [bl l (gh d L) 94,T] λu H'=>∃T',H'=[bl l (gh d {L with at_:=L.at_+1,nx:=L.nx+1}) 94,T']/\u=.int .i64 0/\DI d (D.wr (L.at_:Nat) (ff ⟨L.ep,L.nx,0,1,b⟩)).nJ T':=by
 have iv:=j.ay
 refine Spec.body func96 rfl results96 ntmps96 rfl ?_
 refine .sr<|.ag rfl<|.zs<|.block<|.sr<|.mo rfl ?_
 refine .aH (yT (d:=d) l L _ (PC.of (E:=94) (fr:=(0,0)) (.inr (by simp)))) (λu f=>?_)
 subst f
 refine .q .not<|.az rfl<|.bB<|.sr<|.mo rfl<|.nc rfl<|.fa rfl<|.lo rfl<|.q .cb<|.az rfl ?_
 refine .bB<|.sr<|.mo rfl<|.q (.cv j) ?_
 refine .q .gtr<|.az rfl ?_
 refine .cond rfl (λr=>?_) λr=>?_
 ·exfalso
  have a:=bp r
  omega
 refine .sr<|.mo rfl<|.nc rfl<|.fa rfl<|.lo rfl<|.q .gtr<|.az rfl ?_
 refine .cond rfl (λs=>?_) λs=>?_
 ·exfalso
  have a:=bp s
  omega
 refine .skip<|bz<|aG<|.seq<|.cq [9] mixed ?_
 refine .tO 0 rfl .move<|.tO 1 rfl (.nilCheck rfl)<|.tO 2 rfl (.fieldAddr rfl)<|.tO 3 rfl (.bo rfl)<|.tO 4 rfl .move<|.tO 5 rfl (.nilCheck rfl)<|.tO 6 rfl (.fieldAddr rfl)<|.tO 7 rfl (.bo rfl)<|.tO 8 rfl .move ?_
 refine .sT 9 rfl ?_
 refine .call [] (M7 L.ep L.nx v b _ j.rx x y (by omega)) (λu V f=>?_)
 obtain⟨n,i,rfl,S,k,e,rfl,g,N,H⟩:=f
 have Z:=g.ay
 have Y:jL b.length=1:=by unfold jL;omega
 have K:e=0/\k.map (·.2)=[⟨L.ep,L.nx,0,1,b⟩]:=by
  rcases H with⟨_,_,a⟩|⟨a,A,_⟩
  ·omega
  ·exact⟨a,A.trans ((yo c).1.trans (by rw[(yo c).2]))⟩
 obtain⟨rfl,M⟩:=K
 obtain⟨w,rfl⟩:∃w,k=[((w,⟨L.ep,L.nx,0,1,b⟩):hK)]:=by
  match k,M with
  |[(w,p)],a=>simp only[List.map_cons,List.map_nil,List.cons.injEq,and_true]at a;subst a;exact⟨w,rfl⟩
 refine .sub (H':=[n,i,bl l (gh d L) 94,T]) rH ?_
 refine .nil (Next.mod rfl ?_)
 refine .tK 10 rfl .move<|.tK 11 rfl .extract<|.tK 12 rfl .extract<|.tK 13 rfl .assign<|.tK 14 rfl .assign ?_
 refine RA.nil (by kernel_rfl) ?_
 refine aG<|.seq<|.sr<|.mo rfl<|.q .cb<|.zn<|.bB<|.kn<|.seq<|.sr<|.mo rfl<|.q (.cv g.sg) ?_
 refine .mo rfl ?_
 refine .aH (yY (d:=d) l L (by omega) (by omega) _ (PC.of (E:=94) (fr:=(0,0)) (.inr (by simp)))) (λu f=>?_)
 subst f
 refine .q .gtr<|.zn ?_
 refine .cond rfl (λt=>?_) λt=>?_
 ·exfalso
  have a:=bp t
  simp at a
  omega
 refine .kn<|.seq<|.sr<|.mo rfl<|.mo rfl<|.mo rfl ?_
 refine .call [3] (Qy h C I Q l L (by omega) G S w ⟨L.ep,L.nx,0,1,b⟩ (Ox c x y) _ (PC.of (E:=94) (fr:=(0,0)) (.inr (by simp[rest,bf]))) (g.rs λq O=>.inr (by simp[rest,bf,O])) ((N _ (by simp)).mono λb o c=>.inr (by have F:(b,o)∈i:=c;simp[rest,bf,F])) (J.mono λb o c=>.inl c)) (λu U f=>?_)
 obtain⟨m,rfl,rfl,B⟩:=f
 refine .sub (H':=[m,n,i,bl l (gh d L) 94]) rH ?_
 refine .nc rfl<|.fa rfl<|.ca rfl rfl<|.z<|.mo rfl<|.nc rfl<|.fa rfl<|.lo rfl<|.q .cb<|.zn ?_
 refine .bB<|.kn<|.sr<|.mo rfl ?_
 refine .nc rfl<|.fa rfl<|.lo rfl<|.mo rfl<|.q (.cv g.sg) ?_
 refine .q (.i64 ((L.at_+1:Nat):Int) .add ⟨by show((L.at_:Nat):Int)+((1:Nat):Int)=((L.at_+1:Nat):Int);omega,by omega,by omega⟩) ?_
 refine .nc rfl<|.fa rfl<|.ca rfl rfl<|.z<|.mo rfl<|.nc rfl<|.fa rfl<|.lo rfl<|.mo rfl<|.q (.cv g.sg) ?_
 refine .q (.i64 ((L.nx+1:Nat):Int) .add ⟨by show((L.nx:Nat):Int)+((1:Nat):Int)=((L.nx+1:Nat):Int);omega,by omega,by omega⟩) ?_
 refine .nc rfl<|.fa rfl<|.ca rfl rfl<|.z<|.az rfl ?_
 refine .ret (aO _ (.one (.tmp rfl)) (bG [3,0]) ?_)
 ·exact⟨m,rfl,rfl,B⟩
end
section
def la(d sz ep:Nat):List Value:=[pT d,iN 0,iN sz,iN ep,.int .i64 0,.int .i64 0,.int .i64 1,.int .i64 0]
variable{d:Nat}{D:Dk}{T:au}
theorem Po(h:DI d D T)(sz:Nat)(l:1<=sz)(m:2*sz<=D.fs.length)(n:D.fs.length<2^40)(R:ao)(i:∀p∈T,R p.1 p.2):Spec prog 40 [pT d,iN 0,iN sz] R [] λu H'=>u=.int .i64 0/\H'=[]:=by
 refine Spec.body func40 rfl results40 ntmps40 rfl ?_
 refine .sr<|.ag rfl<|.zs<|.block<|.sr<|.mo rfl ?_
 refine .aH (ma h _ λp e=>.inl (i p e)) (λu f=>?_)
 subst f
 refine .q .cG<|.az rfl ?_
 refine .cond rfl (λj=>?_) λj=>?_
 ·exfalso
  have g:=eq_of_beq j
  omega
 refine .sr<|.mo rfl<|.q .lss<|.mo rfl ?_
 refine .split (t:=14) rfl (λc=>?_) (λc=>?_)
 ·exfalso
  have g:=bp c
  omega
 refine .gT c<|.mo rfl<|.gT c<|.q .lss<|.q (.bg c) ?_
 refine .mo rfl ?_
 refine .split (t:=18) rfl (λb=>?_) (λb=>?_)
 ·exfalso
  have g:=bp b
  omega
 refine .gT b<|.mo rfl<|.gT b<|.mo rfl<|.gT b ?_
 refine .aH (ma h _ λp e=>.inl (i p e)) (λu f=>?_)
 subst f
 refine .gT b<|.q .gtr<|.q (.bg b) ?_
 refine .mo rfl ?_
 refine .split (t:=24) rfl (λa=>?_) (λa=>?_)
 ·exfalso
  have g:=bp a
  omega
 refine .gT a<|.mo rfl<|.gT a<|.mo rfl<|.gT a ?_
 refine .aH (ma h _ λp e=>.inl (i p e)) (λu f=>?_)
 subst f
 refine .gT a<|.mo rfl<|.gT a ?_
 refine .ia (2*sz) .mul ?_
 refine .gT a ?_
 refine .ia (D.fs.length-2*sz) .sub ?_
 refine .gT a<|.q .gtr<|.q (.bg a) ?_
 refine .az rfl ?_
 refine .cond rfl (λk=>?_) λk=>?_
 ·exfalso
  have g:=bp k
  omega
 refine .skip<|bz<|aG<|.sr<|.az rfl ?_
 refine .ret (aW rfl ?_)
 ·exact⟨rfl,rfl⟩
theorem Pf(s sz a i:Nat)(hi:i<=1)(e:sz<2^40)(R:ao)(ps:PC R (pT s) (la d sz a)):Spec prog 195 [pT s,iN i] R [] λu H'=>u=.int .i64 ((i*sz:Nat):Int)/\H'=[]:=by
 have b:i*sz<=1*sz:=adu _ hi
 have c:(i:Int)*(sz:Int)=((i*sz:Nat):Int):=by simp
 refine Spec.body func195 rfl results195 ntmps195 rfl ?_
 refine .sr<|.ag rfl<|.zs ?_
 refine .kG mixed (by kernel_rfl) ?_
 refine .mo rfl<|.nc rfl<|.fa rfl<|.lo rfl<|.mo rfl<|.mo rfl ?_
 refine .nc rfl<|.fa rfl<|.lo rfl ?_
 refine .q (.i64 ((i*sz:Nat):Int) .mul ⟨by simp,by omega,by omega⟩) ?_
 refine .ia (i*sz) .add ?_
 refine .az rfl ?_
 refine .ret (aW rfl ?_)
 ·exact⟨rfl,rfl⟩
theorem Pn(h:DI d D T)(A:D.now=[])(r:∀s∈D.fs,s.length=64)(s sz k i:Nat)(hi:i<=1)(J:1<=sz)(K:2*sz<=D.fs.length)(M:D.fs.length<2^40)(f:∀x,D.fs[i*sz]? =some x->dV x=none)(R:ao)(B:∀p∈T,R p.1 p.2)(ps:PC R (pT s) (la d sz k))(y:PC R (pT 1) (wv eW)):
  Spec prog 109 [pT s,iN i] R [] λu H'=>u=sZ/\H'=[]:=by
 have N:i*sz<=1*sz:=adu _ hi
 obtain⟨x,n⟩:∃x,D.fs[i*sz]? =some x:=⟨_,bd (by omega)⟩
 have C:=f x n
 refine Spec.body func109 rfl results109 ntmps109 rfl ?_
 refine .sr<|.ag rfl<|.z<|.ag rfl<|.zs<|.sr<|.mo rfl<|.nc rfl<|.fa rfl<|.lo rfl<|.mo rfl<|.zn<|.block ?_
 refine .ik [(0,_),(1,_),(5,_),(13,_)] (X:=Unit) (λ_=>True) (λ_ E=>(14,iN 0)::E) (λ_ G=>G) (λ_=>0) () adf kE.c.c.c.c.c rH ?_
 rintro⟨⟩ _
 refine .sr<|.q .lss<|.zs ?_
 refine .cond rfl (λl=>?_) λl=>?_
 refine .kn<|.seq<|.block<|.sr<|.mo rfl<|.ag rfl<|.zs<|.cq [6,9] mixed ?_
 refine .tK 0 rfl .move ?_
 refine .tK 1 rfl (.pn rfl) ?_
 refine .tK 2 rfl (.dU rfl) ?_
 refine .tK 3 rfl (.bo rfl)<|.tO 4 rfl .move<|.tO 5 rfl .move<|.tK 7 rfl .move ?_
 refine .sT 6 rfl ?_
 refine .aH (Pf (d:=d) s sz k i hi (by omega) _ (ps.mono λb o f=>.inl f)) (λu g=>?_)
 subst g
 refine .nil (Next.mod rfl ?_)
 refine .take 8 rfl (.i64 ((i*sz+0:Nat):Int) .add ⟨by omega,by omega,by omega⟩) (by kernel_rfl) ?_
 refine .sT 9 rfl ?_
 refine .bM (sF h A r (i*sz) x n _ λp j=>.inl (B p j)) (λu H g=>?_)
 obtain⟨F,rfl,m⟩:=g
 have O:=m.ay
 refine .nil (Next.mod rfl ?_)
 refine .tK 10 rfl .move<|.tK 11 rfl .extract<|.tK 12 rfl .extract<|.tK 13 rfl .assign<|.tK 14 rfl .assign ?_
 refine RA.nil (by kernel_rfl) ?_
 refine aG<|.seq<|.sr<|.mo rfl<|.q .cb<|.zn<|.bB<|.kn<|.sr<|.mo rfl ?_
 refine .bM (w4 F x _ m.rx (y.mono λb o f=>.inl f)) (λu I g=>?_)
 obtain⟨w,p,e,rfl,j,t⟩:=g
 have Q:bI (df (w,p)):=⟨j.bU⟩
 have v:e=4:=by
  rcases t with⟨_,a⟩|⟨a,_⟩
  ·rw[C]at a;cases a
  ·exact a
 subst v
 refine .mo rfl<|.q .extract<|.q .extract ?_
 refine .cn (λL=>?_)
 refine .bZ rfl rfl<|.ag rfl<|.zs<|.seq ?_
 refine .kG mixed (by kernel_rfl) ?_
 refine .mo rfl<|.q .cb<|.mo rfl<|.gX<|.gX<|.gX<|.bN rfl ?_
 refine .bN rfl ?_
 refine .bN rfl ?_
 refine .bN rfl ?_
 refine .bN rfl ?_
 refine .bN rfl ?_
 refine .bN rfl ?_
 refine .gX<|.q .dh<|.zn<|.cW<|.sr<|.az rfl ?_
 refine .ret (aR (bi (aR (cK (bi (aR (aW rfl ?_)))))))
 ·exact⟨rfl,rfl⟩
 ·exfalso
  have a:=ba l
  simp at a
  omega
theorem Pp(h:DI d D T)(B:D.now=[])(n:∀s∈D.fs,s.length=64)(s sz j i:Nat)(hi:i<=1)(k:1<=sz)(m:2*sz<=D.fs.length)(t:D.fs.length<2^40)(a:∀x,D.fs[i*sz]? =some x->dV x=none)(R:ao)(C:∀p∈T,R p.1 p.2)(ps:PC R (pT s) (la d sz j))(A:PC R (pT 1) (wv eW)):
  Spec prog 41 [pT s,iN i] R [] λu H'=>u=.tuple [.int .i64 0,sZ].toArray/\H'=[]:=by
 refine Spec.body func41 rfl results41 ntmps41 rfl ?_
 refine .sr<|.ag rfl<|.ag rfl<|.z<|.mo rfl<|.mo rfl ?_
 refine .aH (Pn h B n s sz j i hi k m t a _ (λp f=>.inl (C p f)) (ps.mono λb o a=>.inl a) (A.mono λb o a=>.inl a)) (λu g=>?_)
 subst g
 refine .bM (sG (sZ) [] _ mY (λp f=>by cases f)) (λu E g=>?_)
 obtain⟨w,l,e,rfl,r,v⟩:=g
 have F:=r.ay
 have y:e=4:=by
  rcases v with⟨_,c⟩|⟨c,_⟩
  ·cases c
  ·exact c
 subst y
 refine .mo rfl<|.q .extract<|.q .extract<|.ag rfl<|.ag rfl<|.zs<|.sr<|.mo rfl<|.q .cb<|.zn<|.cW<|.sr<|.ag rfl<|.az rfl ?_
 refine .ret (aR (aO _ (.two (.tmp rfl) (.tmp rfl)) (.none _) ?_))
 ·exact⟨rfl,rfl⟩
theorem Pm(h:DI d D T)(F:D.now=[])(B:∀s∈D.fs,s.length=64)(sz e:Nat)(k:1<=sz)(l:2*sz<=D.fs.length)(w:D.fs.length<2^40)(H:e<=4294967295)(f:∀i,i<=1->∀x,D.fs[i*sz]? =some x->dV x=none)(R:ao)(A:∀p∈T,R p.1 p.2)(C:PC R (pT 1) (wv eW)):
  Spec prog 16 [pT d,iN 0,iN sz,iN e] R [] λu H'=>∃s,H'=[bl s (la d sz e) 85]/\u=.tuple [pT s,sZ,.int .i64 0].toArray:=by
 refine Spec.body func16 rfl results16 ntmps16 rfl ?_
 refine .sr<|.ag rfl<|.ag rfl<|.ag rfl<|.zs<|.sr<|.mo rfl<|.mo rfl<|.mo rfl ?_
 refine .aH (Po h sz k l w _ λp g=>.inl (A p g)) (λu j=>?_)
 subst j
 refine .ag rfl<|.z<|.mo rfl<|.q .cb<|.zn<|.bB<|.kn<|.seq<|.sr<|.mo rfl<|.q .lss<|.mo rfl ?_
 refine .split (t:=26) rfl (λa=>?_) (λa=>?_)
 ·exfalso
  have v:=bp a
  omega
 refine .gT a<|.mo rfl<|.gT a<|.q .gtr<|.q (.bg a) ?_
 refine .zn ?_
 refine .cond rfl (λn=>?_) λn=>?_
 ·exfalso
  have v:=bp n
  omega
 refine .kn<|.sr<|.mo rfl<|.mo rfl<|.mo rfl<|.mo rfl ?_
 refine .q .cC ?_
 refine .cc rfl (λm=>?_)
 refine .ag rfl<|.z<|.ag rfl<|.zs<|.sr<|.mo rfl<|.zn<|.block ?_
 refine .ik [(12,_),(13,_)] (X:=Nat) (λi=>i<=2) (λi E=>(36,iN i)::E) (λ_ G=>G) (λi=>2-i) 0 (by omega) kE.c.c.c rH ?_
 intro i I
 refine .sr<|.q .lss<|.zs ?_
 refine .cond rfl (λr=>?_) λr=>?_
 have y:i<=1:=by have v:=bp r;omega
 refine .kn<|.seq<|.block<|.sr<|.mo rfl<|.ag rfl<|.z<|.mo rfl<|.mo rfl ?_
 refine .aH (Pp h F B m sz e i y k l w (f i y) _ (λp g=>.inl (A p g)) (PC.of (E:=85) (fr:=(0,0)) (.inr (by simp[bT,la]))) (C.mono λb o f=>.inl f)) (λu j=>?_)
 subst j
 refine .mo rfl<|.q .extract<|.q .extract<|.ag rfl<|.ag rfl<|.z<|.mo rfl<|.mo rfl<|.nc rfl<|.fa rfl<|.lo rfl<|.q .gtr<|.zn ?_
 refine .bB<|.skip<|bz<|aG<|.region ?_
 refine .ia (i+1) .add ?_
 refine .mo rfl<|.nil ?_
 ·exact br (i+1) (by omega) (by omega) kE.c.c.c rH
 refine .exit<|bk<|bw<|bq<|aG<|.sr<|.mo rfl<|.mo rfl<|.ag rfl<|.ag rfl<|.az rfl ?_
 refine .ret (aO _ (.three (.tmp rfl) (.tmp rfl) (.tmp rfl)) rH ?_)
 ·exact⟨m,rfl,rfl⟩
end
end Go.Proofs.YtocjmmbldeljnaaGreatDoor
