/- What the law 'LookupFinds' uses. No condition. -/
import Derived.Test.YtdljmchhecoakaaGreatKLookupFindsA
import Derived.Test.YtdljmchhecoakaaGreatKLookupFindsB
import Derived.Test.YtdljmchhecoakaaGreatKLookupFindsE
import Derived.Test.YtdljmchhecoakaaGreatKLookupFindsG
import Derived.Test.YtdljmchhecoakaaGreatKLookupFindsH
namespace Go.Proofs.YtdljmchhecoakaaGreat
set_option linter.defProp false
def aen:=@congrArg
def aeo:=@List.getD_cons_zero
def aep:=@List.getD_cons_succ
open Tryz
set_option linter.unusedVariables false
set_option linter.unusedSimpArgs false
set_option maxRecDepth 4000
theorem uR{s:ByteArray}{n:Nat}(h:n<s.size):s[n]=fh s n:=by
 unfold fh
 have a:n<s.data.size:=h
 rw[Array.getD_eq_getD_getElem?,Array.getElem?_eq_getElem a]
 rfl
theorem AB(c:UInt8)(R:ay):Spec prog 198 [.int .u8 (c.toNat:Int)] R [] λu H'=>u=.bool (kj c)/\H'=[]:=by
 have d:kj c=((decide (97<=c.toNat)&&decide (c.toNat<=122))||(decide (65<=c.toNat)&&decide (c.toNat<=90))||(decide (48<=c.toNat)&&decide (c.toNat<=57))||decide (c.toNat=95)):=rfl
 generalize kj c=r at *
 generalize c.toNat=n at *
 refine Spec.body func198 rfl results198 ntmps198 rfl<|.sr<|.ag rfl<|.z<|.mo rfl<|.q .geq<|.mo rfl<|.split (t:=5) rfl (λh=>?_) (λh=>?_)
 refine .gT h<|.mo rfl<|.gT h<|.q .leq<|.q (.aT h)<|.mo rfl<|.split (t:=9) rfl (λg=>?_) (λg=>?_)
 refine .gF g<|.gF g<|.gF g<|.dg rfl<|.dg rfl<|.gF g<|.q (.aT g)<|.mo rfl<|.gX<|.gX<|.gX<|.dg rfl<|.dg rfl<|.gX<|.q .db<|.mo rfl<|.gX<|.gX<|.q .db<|.az rfl<|.ret (aP rfl ?_)
 ·refine⟨aen _ ?_,rfl⟩
  rw[d]
  clear d
  grind
 refine .gT g<|.mo rfl<|.gT g<|.q .geq<|.gT g<|.mo rfl<|.split (t:=12) rfl (λf=>?_) (λf=>?_)
 refine .gT f<|.mo rfl<|.gT f<|.q .leq<|.gT g<|.q (.aT f)<|.q (.aQ g)<|.mo rfl<|.split (t:=17) rfl (λe=>?_) (λe=>?_)
 refine .gF e<|.gF e<|.gF e<|.dg rfl<|.dg rfl<|.gF e<|.q (.aT e)<|.mo rfl<|.gX<|.gX<|.q .db<|.az rfl<|.ret (aP rfl ?_)
 ·refine⟨aen _ ?_,rfl⟩
  rw[d]
  clear d
  grind
 refine .gT e<|.mo rfl<|.gT e<|.q .geq<|.gT e<|.mo rfl<|.split (t:=20) rfl (λa=>?_) (λa=>?_)
 refine .gT a<|.mo rfl<|.gT a<|.q .leq<|.gT e<|.q (.aT a)<|.q (.aQ e)<|.mo rfl<|.split (t:=25) rfl (λb=>?_) (λb=>?_)
 refine .gF b<|.gF b<|.q (.aT b)<|.az rfl<|.ret (aP rfl ?_)
 ·refine⟨aen _ ?_,rfl⟩
  rw[d]
  clear d
  grind
 refine .gT b<|.mo rfl<|.gT b<|.q .bU<|.q (.aQ b)<|.az rfl<|.ret (aP rfl ?_)
 ·refine⟨aen _ ?_,rfl⟩
  rw[d]
  clear d
  grind
 refine .gF a<|.gF a<|.gT e<|.q (.aQ a)<|.q (.aQ e)<|.mo rfl<|.gt rfl<|.mo rfl<|.gt rfl<|.q .bU<|.q .cR<|.az rfl<|.ret (aP rfl ?_)
 ·refine⟨aen _ ?_,rfl⟩
  rw[d]
  clear d
  grind
 refine .gF f<|.gF f<|.gT g<|.q (.aQ f)<|.q (.aQ g)<|.mo rfl<|.gt rfl<|.mo rfl<|.gt rfl<|.q .geq<|.gt rfl<|.mo rfl<|.split (t:=20) rfl (λa=>?_) (λa=>?_)
 refine .gT a<|.mo rfl<|.gT a<|.q .leq<|.gt rfl<|.q (.aT a)<|.q .cR<|.mo rfl<|.split (t:=25) rfl (λb=>?_) (λb=>?_)
 refine .gF b<|.gF b<|.q (.aT b)<|.az rfl<|.ret (aP rfl ?_)
 ·refine⟨aen _ ?_,rfl⟩
  rw[d]
  clear d
  grind
 refine .gT b<|.mo rfl<|.gT b<|.q .bU<|.q (.aQ b)<|.az rfl<|.ret (aP rfl ?_)
 ·refine⟨aen _ ?_,rfl⟩
  rw[d]
  clear d
  grind
 refine .gF a<|.gF a<|.gt rfl<|.q (.aQ a)<|.q .cR<|.mo rfl<|.gt rfl<|.mo rfl<|.gt rfl<|.q .bU<|.q .cR<|.az rfl<|.ret (aP rfl ?_)
 ·refine⟨aen _ ?_,rfl⟩
  rw[d]
  clear d
  grind
 refine .gF h<|.gF h<|.q (.aQ h)<|.mo rfl<|.gt rfl<|.mo rfl<|.gt rfl<|.q .geq<|.gt rfl<|.mo rfl<|.split (t:=12) rfl (λf=>?_) (λf=>?_)
 refine .gT f<|.mo rfl<|.gT f<|.q .leq<|.gt rfl<|.q (.aT f)<|.q .cR<|.mo rfl<|.split (t:=17) rfl (λe=>?_) (λe=>?_)
 refine .gF e<|.gF e<|.gF e<|.dg rfl<|.dg rfl<|.gF e<|.q (.aT e)<|.mo rfl<|.gX<|.gX<|.q .db<|.az rfl<|.ret (aP rfl ?_)
 ·refine⟨aen _ ?_,rfl⟩
  rw[d]
  clear d
  grind
 refine .gT e<|.mo rfl<|.gT e<|.q .geq<|.gT e<|.mo rfl<|.split (t:=20) rfl (λa=>?_) (λa=>?_)
 refine .gT a<|.mo rfl<|.gT a<|.q .leq<|.gT e<|.q (.aT a)<|.q (.aQ e)<|.mo rfl<|.split (t:=25) rfl (λb=>?_) (λb=>?_)
 refine .gF b<|.gF b<|.q (.aT b)<|.az rfl<|.ret (aP rfl ?_)
 ·refine⟨aen _ ?_,rfl⟩
  rw[d]
  clear d
  grind
 refine .gT b<|.mo rfl<|.gT b<|.q .bU<|.q (.aQ b)<|.az rfl<|.ret (aP rfl ?_)
 ·refine⟨aen _ ?_,rfl⟩
  rw[d]
  clear d
  grind
 refine .gF a<|.gF a<|.gT e<|.q (.aQ a)<|.q (.aQ e)<|.mo rfl<|.gt rfl<|.mo rfl<|.gt rfl<|.q .bU<|.q .cR<|.az rfl<|.ret (aP rfl ?_)
 ·refine⟨aen _ ?_,rfl⟩
  rw[d]
  clear d
  grind
 refine .gF f<|.gF f<|.gt rfl<|.q (.aQ f)<|.q .cR<|.mo rfl<|.gt rfl<|.mo rfl<|.gt rfl<|.q .geq<|.gt rfl<|.mo rfl<|.split (t:=20) rfl (λa=>?_) (λa=>?_)
 refine .gT a<|.mo rfl<|.gT a<|.q .leq<|.gt rfl<|.q (.aT a)<|.q .cR<|.mo rfl<|.split (t:=25) rfl (λb=>?_) (λb=>?_)
 refine .gF b<|.gF b<|.q (.aT b)<|.az rfl<|.ret (aP rfl ?_)
 ·refine⟨aen _ ?_,rfl⟩
  rw[d]
  clear d
  grind
 refine .gT b<|.mo rfl<|.gT b<|.q .bU<|.q (.aQ b)<|.az rfl<|.ret (aP rfl ?_)
 ·refine⟨aen _ ?_,rfl⟩
  rw[d]
  clear d
  grind
 refine .gF a<|.gF a<|.gt rfl<|.q (.aQ a)<|.q .cR<|.mo rfl<|.gt rfl<|.mo rfl<|.gt rfl<|.q .bU<|.q .cR<|.az rfl<|.ret (aP rfl ?_)
 ·refine⟨aen _ ?_,rfl⟩
  rw[d]
  clear d
  grind
theorem DE(c:UInt8)(R:ay):Spec prog 195 [.int .u8 (c.toNat:Int)] R [] λu H'=>u=.bool (im c)/\H'=[]:=by
 have a:im c=(decide (c.toNat=32)||decide (c.toNat=9)||decide (c.toNat=10)||decide (c.toNat=13)):=rfl
 generalize im c=r at *
 generalize c.toNat=n at *
 refine Spec.body func195 rfl results195 ntmps195 rfl<|.sr<|.ag rfl<|.z<|.mo rfl<|.q .bU<|.mo rfl<|.split (t:=5) rfl (λd=>?_) (λd=>?_)
 refine .gF d<|.gF d<|.q (.aT d)<|.mo rfl<|.gX<|.gX<|.q .db<|.mo rfl<|.gX<|.gX<|.q .db<|.az rfl<|.ret (aP rfl ?_)
 ·refine⟨aen _ ?_,rfl⟩
  rw[a]
  clear a
  grind
 refine .gT d<|.mo rfl<|.gT d<|.q .bU<|.q (.aQ d)<|.mo rfl<|.split (t:=9) rfl (λe=>?_) (λe=>?_)
 refine .gF e<|.gF e<|.q (.aT e)<|.mo rfl<|.gX<|.gX<|.q .db<|.az rfl<|.ret (aP rfl ?_)
 ·refine⟨aen _ ?_,rfl⟩
  rw[a]
  clear a
  grind
 refine .gT e<|.mo rfl<|.gT e<|.q .bU<|.q (.aQ e)<|.mo rfl<|.split (t:=13) rfl (λb=>?_) (λb=>?_)
 refine .gF b<|.gF b<|.q (.aT b)<|.az rfl<|.ret (aP rfl ?_)
 ·refine⟨aen _ ?_,rfl⟩
  rw[a]
  clear a
  grind
 refine .gT b<|.mo rfl<|.gT b<|.q .bU<|.q (.aQ b)<|.az rfl<|.ret (aP rfl ?_)
 ·refine⟨aen _ ?_,rfl⟩
  rw[a]
  clear a
  grind
abbrev np(xb:Nat)(s:ByteArray)(i:Nat):aw:=(bl xb [.string s,iN i] 289)
theorem B4(f:FuncId) [e:aU prog f](p:UInt8->Bool)(A:∀(c:UInt8) (R:ay),Spec prog f [.int .u8 (c.toNat:Int)] R [] λu H'=>u=.bool (p c)/\H'=[])(xb:Nat)(s:ByteArray)(i:Nat)(B:i<=s.size)(H:s.size<=1000000)(R:ay):
  Spec prog 194 [pT xb,.func (.func f) #[] #[]] R [np xb s i] λu H'=>∃T',H'=[T']/\u=.string (s.extract i (run s p i))/\T'=np xb s (run s p i):=by
 have v:=λj (h:me s p i j)=>h.run
 refine Spec.body func194 rfl results194 ntmps194 rfl<|.sr<|.ag rfl<|.z<|.mo rfl<|.nc rfl<|.fa rfl<|.lo rfl<|.ag rfl<|.zs<|.block<|.cy [(0,_),(1,_),(5,_)] (X:=Nat) (λj=>i<=j/\j<=s.size/\∀k,i<=k->k<j->p (fh s k)=true) (λj E=>E) (G:=[]) (λj G=>np xb s j::G) (λj=>s.size-j) i ⟨Nat.le_refl _,B,λk d w=>absurd w (by omega)⟩ kE.c.c.c rH ?_
 rintro j ⟨l,b,o⟩
 refine .seq<|.seq<|.dm 21 mixed (by kernel_rfl) ?_
 conv=>arg 6;dsimp only[List.take]
 refine .mo rfl<|.nc rfl<|.fa rfl<|.lo rfl<|.mo rfl<|.nc rfl<|.fa rfl<|.lo rfl<|.q .kH<|.q .lss<|.mo rfl<|.split (t:=20) rfl (λa=>?_) (λa=>?_)
 have m:j<s.size:=by have:=bT a;omega
 have y:=uR m
 refine .gT a<|.mo rfl<|.gT a<|.mo rfl<|.gT a<|.nc rfl<|.gT a<|.fa rfl<|.gT a<|.lo rfl<|.gT a<|.mo rfl<|.gT a<|.nc rfl<|.gT a<|.fa rfl<|.gT a<|.lo rfl<|.gT a<|.q (.nK j m)<|.nil<|.gT a<|.gv (first:=[]) (captured:=[]) (vs:=[.int .u8 ((s[j]'m).toNat:Int)]) (A _ _) (λu D=>?_)
 subst D
 rw[y]
 refine .q (.aT a)<|.zn<|.cond rfl (λd=>?_) λd=>?_
 have C:p (fh s j)=true:=d
 refine .kn<|.block<|.region<|.mo rfl<|.nc rfl<|.fa rfl<|.lo rfl ?_
 refine .ia (j+1) .add ?_
 refine .nc rfl<|.fa rfl<|.dt rfl rfl<|.nil<|aS ?_
 ·exact bd (j+1) ⟨by omega,m,λk x F=>by
   rcases Nat.lt_or_ge k j with h7|h7
   ·exact o k x h7
   ·obtain rfl:k=j:=by omega
    exact C⟩ (by omega) kE.c.c.c rH
 have n:me s p i j:=⟨l,b,o,by
  first
   |exact .inl (Nat.le_antisymm b r)
   |exact .inr d⟩
 have g:=v j n
 refine .exit<|bo<|bq<|bp<|au<|.seq<|.fS mixed (by kernel_rfl)<|.mo rfl<|.nc rfl<|.fa rfl<|.lo rfl<|.mo rfl<|.mo rfl<|.nc rfl<|.fa rfl<|.lo rfl<|.q (.qw i j ⟨_,rfl⟩ ⟨_,rfl⟩ l b)<|.az rfl<|.ret (aY _ (.one (.tmp rfl)) rH ?_)
 ·exact⟨_,rfl,by rw[<-g],by rw[<-g]⟩
 have r:s.size<=j:=by have:=bA a;omega
 refine .gF a<|.gF a<|.gF a<|.gF a<|.gF a<|.gF a<|.gF a<|.gF a<|.gF a<|.gF a<|.nil<|.gF a<|.q (.aQ a)<|.zn<|.cU ?_
 have n:me s p i j:=⟨l,b,o,by
  first
   |exact .inl (Nat.le_antisymm b r)
   |exact .inr d⟩
 have g:=v j n
 refine .exit<|bo<|bq<|bp<|au<|.seq<|.fS mixed (by kernel_rfl)<|.mo rfl<|.nc rfl<|.fa rfl<|.lo rfl<|.mo rfl<|.mo rfl<|.nc rfl<|.fa rfl<|.lo rfl<|.q (.qw i j ⟨_,rfl⟩ ⟨_,rfl⟩ l b)<|.az rfl<|.ret (aY _ (.one (.tmp rfl)) rH ?_)
 ·exact⟨_,rfl,by rw[<-g],by rw[<-g]⟩
def Pl(s:ByteArray):Prop:=∀k,k<s.size->fh s k≠34/\fh s k≠47/\fh s k≠45
theorem zQ{s:ByteArray}{j:Nat}{c:UInt8}{l:List UInt8}(h:Lib.hasPrefix (s.extract j s.size).data.toList (c::l)=true):j<s.size/\fh s j=c:=by
 have e:(s.extract j s.size).data.toList=s.data.toList.drop j:=by
  simp[ByteArray.data_extract]
  rw[List.take_of_length_le]
  simp
 rw[e]at h
 unfold Lib.hasPrefix at h
 cases hd:s.data.toList.drop j with
 |nil=>rw[hd]at h;simp at h
 |cons b r=>
  rw[hd]at h
  have f:j<s.data.toList.length:=by
   rcases Nat.lt_or_ge j s.data.toList.length with h1|h1
   ·exact h1
   ·rw[List.drop_eq_nil_of_le h1]at hd;cases hd
  have a:s.data.toList[j]=b:=by
   rw[List.drop_eq_getElem_cons f]at hd
   injection hd
  have g:s.data.toList.length=s.size:=by simp
  refine⟨by omega,?_⟩
  have d:b=c:=by simp at h;exact h.1.symm
  rw[<-uR (by omega), <-d, <-a]
  rfl
theorem Ab(s p:ByteArray)(R:ay):Spec prog 196 [.string s,.string p] R [] λv H'=>v=.bool (Lib.hasPrefix s.data.toList p.data.toList)/\H'=[]:=
 Spec.tE (Tz s p) R
theorem SL(xb:Nat)(s:ByteArray)(i:Nat)(d:i<=s.size)(m:s.size<=1000000)(k:Pl s)(R:ay):Spec prog 154 [pT xb] R [np xb s i] λ_ H'=>∃T',H'=[T']/\T'=np xb s (run s im i):=by
 obtain⟨n,f⟩:=qv d
 have g:Lib.hasPrefix (s.extract (run s im i) s.size).data.toList [47,47]=false:=by
  cases h:Lib.hasPrefix (s.extract (run s im i) s.size).data.toList [47,47]with
  |false=>rfl
  |true=>
   obtain⟨a,e⟩:=zQ h
   exact absurd e (k _ a).2.1
 have l:=B4 195 im DE xb s i d m R
 generalize run s im i=j at *
 refine Spec.body func154 rfl results154 ntmps154 rfl<|.block<|.cy [(0,_)] (X:=Unit) (λ_=>True) (λ_ E=>E) (G:=[np xb s i]) (λ_ G=>G) (λ_=>0) () trivial kE.c rH ?_
 rintro _ _
 refine .block<|.sr<|.mo rfl<|.cA (R:=R) l (λu T' b=>?_)
 obtain⟨rfl,rfl⟩:=b
 refine .zs<|.seq<|.dm 9 mixed (by kernel_rfl) ?_
 conv=>arg 6;dsimp only[List.take]
 refine .mo rfl<|.nc rfl<|.fa rfl<|.lo rfl<|.mo rfl<|.nc rfl<|.fa rfl<|.lo rfl<|.q (.qw j s.size ⟨_,rfl⟩ rfl f (Nat.le_refl _))<|.nil<|.aX (Ab _ _ _) (λu b=>?_)
 subst b
 refine .q .not<|.zn<|.cond rfl (λa=>?_) λa=>?_
 refine .ret (aJ (bw (cG (bw (aY _ .none rH ?_)))))
 ·exact⟨_,rfl,rfl⟩
 ·exact absurd a (by rw[show(⟨#[47,47]⟩:ByteArray).data.toList=[47,47]from rfl,g];simp)
theorem SJ(c:UInt8):decide (0<=Lib.indexByte [123,125,59,58,61,124,38,45,40,41,35,44] c)=qu.contains c:=by
 have e:∀k:Fin 256,decide (0<=Lib.indexByte [123,125,59,58,61,124,38,45,40,41,35,44] (UInt8.ofNat k.val))=qu.contains (UInt8.ofNat k.val):=by decide+kernel
 have h:=e ⟨c.toNat,c.toNat_lt⟩
 simpa using h
theorem Uy(s:ByteArray)(c:Int)(R:ay):Spec prog 200 [.string s,.int .u8 c] R [] λv H'=>v=.int .i64 (Lib.indexByte s.data.toList c.toNat.toUInt8)/\H'=[]:=by
 refine Spec.body func200 rfl results200 ntmps200 rfl<|.sr<|.ag rfl<|.z<|.mo rfl<|.mo rfl<|.aX (Spec.tE (TA s c) _) (λv a=>?_)
 subst a
 refine .az rfl<|.ret (aP rfl ?_)
 ·exact⟨rfl,rfl⟩
def eY.enc(t:eY):List Value:=[.int .i64 t.kind,.string t.text,iN t.pos]
instance eY.one(t:eY):cB t.enc:=⟨by simp[eY.enc,aE]⟩
theorem PK(xb:Nat)(s:ByteArray)(i j:Nat)(t:eY)(e:i<s.size)(B:s.size<=1000000)(y:Pl s)(a:nZ s i=some (t,j))(R:ay):Spec prog 155 [pT xb] R [np xb s i] λu H'=>∃T',H'=[T']/\u=.tuple [.agg t.enc.toArray,.bool true].toArray/\T'=np xb s j:=by
 have o:=B4 198 kj AB xb s i (Nat.le_of_lt e) B R
 obtain⟨A,G,n⟩:=y i e
 have x:Lib.hasPrefix (s.extract i s.size).data.toList [45,62]=false:=by
  cases h:Lib.hasPrefix (s.extract i s.size).data.toList [45,62]with
  |false=>rfl
  |true=>
   obtain⟨c,d⟩:=zQ h
   exact absurd d n
 have v:=uR e
 have D:two s i 45 62=false:=by
  unfold two
  simp[n]
 have r:(fh s i).toNat≠34:=λh=>A (by
  have:fh s i=UInt8.ofNat 34:=by rw[<-h];simp
  exact this)
 have C:nZ s i=if kj (fh s i)=true then some (⟨1,s.extract i (run s kj i),i⟩,run s kj i)else if qu.contains (fh s i)=true then some (⟨3,s.extract i (i+1),i⟩,i+1)else none:=by
  simp only[nZ,if_neg r,D,Bool.false_eq_true,if_false]
 rw[C]at a
 have p:=SJ (fh s i)
 have m:((fh s i).toNat:Int).toNat.toUInt8=fh s i:=by simp
 obtain⟨k,w⟩:∃k,k=run s kj i:=⟨_,rfl⟩
 rw[<-w]at o a
 refine Spec.body func155 rfl results155 ntmps155 rfl<|.sr ?_
 refine .bX (λE=>?_)
 refine .ag rfl<|.z<|.mo rfl<|.nc rfl<|.fa rfl<|.lo rfl ?_
 refine .q .cL ?_
 refine .bX (λF=>?_)
 refine .bN rfl rfl<|.zs<|.fS mixed (by kernel_rfl)<|.mo rfl<|.nc rfl<|.fa rfl<|.lo rfl<|.mo rfl<|.nc rfl<|.fa rfl<|.lo rfl<|.q (.cast (.nK i e) (by rw[v]))<|.ag rfl<|.zs<|.block<|.sr<|.mo rfl<|.aX (AB _ _) (λu b=>?_)
 subst b
 refine .az rfl<|.cond rfl (λc=>?_) λc=>?_
 rw[if_pos c]at a
 cases a
 refine .region<|.mo rfl<|.cA (R:=R) o (λu T' b=>?_)
 obtain⟨rfl,rfl⟩:=b
 refine .fa rfl<|.dt rfl rfl<|.fa rfl<|.dt rfl rfl<|.nil<|aS<|au<|.sr<|.q (.aM rfl)<|.bN rfl rfl<|.az rfl ?_
 refine .ret (aY _ (.two (.eQ rfl rfl) (.tmp rfl)) (aN [2]) ?_)
 ·exact⟨_,rfl,rfl,rfl⟩
 rw[if_neg (by rw[c];simp)]at a
 refine .sr<|.mo rfl<|.q .bU<|.az rfl<|.cond rfl (λd=>?_) λd=>?_
 ·exact absurd d (by simp;omega)
 refine .seq<|.dm 9 mixed (by kernel_rfl) ?_
 conv=>arg 6;dsimp only[List.take]
 refine .mo rfl<|.nc rfl<|.fa rfl<|.lo rfl<|.mo rfl<|.nc rfl<|.fa rfl<|.lo rfl<|.q (.qw i s.size ⟨_,rfl⟩ rfl (by omega) (Nat.le_refl _))<|.nil<|.aX (Ab _ _ _) (λu b=>?_)
 subst b
 refine .az rfl<|.cond rfl (λl=>?_) λl=>?_
 ·exact absurd l (by rw[show(⟨#[45,62]⟩:ByteArray).data.toList=[45,62]from rfl,x];simp)
 refine .sr<|.mo rfl<|.aX (Uy _ _ _) (λu b=>?_)
 subst b
 refine .q .geq<|.az rfl<|.cond rfl (λf=>?_) λf=>?_
 have g:qu.contains (fh s i)=true:=by
  rw[<-p, <-m];exact f
 rw[if_pos g]at a
 cases a
 refine .seq<|.rU [0] [15,17] mixed ?_
 conv=>arg 3;simp only[take,rest,bJ,aeo,aep]
 conv=>arg 5;simp only[take,rest,bJ,aeo,aep]
 conv=>arg 9;simp only[take,rest,bJ,aeo,aep]
 refine .tK 0 rfl .move<|.tK 1 rfl (.mR rfl)<|.tK 2 rfl (.fe rfl)<|.tK 3 rfl (.ca rfl)<|.tK 4 rfl .move<|.tK 5 rfl (.mR rfl)<|.tK 6 rfl (.fe rfl)<|.tK 7 rfl (.ca rfl)<|.tK 8 rfl .move<|.tK 9 rfl (.mR rfl)<|.tK 10 rfl (.fe rfl)<|.tK 11 rfl (.ca rfl)<|.take 12 rfl (.i64 ((i+1:Nat):Int) .add ⟨by omega,by omega,by omega⟩) (by kernel_rfl)<|.tK 13 rfl (.qw (s:=s) i (i+1) ⟨_,rfl⟩ ⟨_,rfl⟩ (by omega) (by omega))<|.tO 14 rfl (.fieldAddr rfl)<|.sT 15 rfl<|.dt rfl rfl<|.nil<|Next.mod rfl<|.tK 16 rfl (.fe rfl)<|.sT 17 rfl<|.dt rfl rfl<|.nil<|Next.mod rfl<|RA.nil (by kernel_rfl)<|au<|.region ?_
 conv=>arg 8;simp only[rest,bJ,List.cons_append,List.nil_append]
 refine .mo rfl<|.nc rfl<|.fa rfl<|.lo rfl ?_
 refine .ia (i+1) .add ?_
 refine .nc rfl<|.fa rfl<|.dt rfl rfl<|.nil<|aS<|au<|.sr<|.q (.aM rfl)<|.bN rfl rfl<|.az rfl ?_
 refine .ret (aY _ (.two (.eQ rfl rfl) (.tmp rfl)) (aN [2]) ?_)
 ·exact⟨_,rfl,rfl,rfl⟩
 ·have g:qu.contains (fh s i)=false:=by
   rw[<-p, <-m];exact f
  rw[if_neg (by rw[g];simp)]at a
  cases a
theorem Pl.skip{s:ByteArray}(b:Pl s){i:Nat}(a:i<=s.size):oZ s i=run s im i:=by
 rw[SM a,if_neg]
 intro h
 unfold two at h
 simp only[Bool.and_eq_true,decide_eq_true_eq]at h
 exact(b _ (by omega)).2.1 h.1.2
theorem Pw(s:ByteArray)(W:s.size<=16384)(n:Pl s)(L:List eY)(D:rA s=some L)(R:ay):Spec prog 97 [.string s] R [] λu H'=>∃T,H'=[T]/\∃v,u=.tuple [v,.int .i64 0].toArray/\OS 291 3 eY.enc v L T:=by
 have F:oE s (s.size+1) 0 []=some L:=D
 refine Spec.gQ (H':=[[]]) (by simp)<|Spec.body func97 rfl results97 ntmps97 rfl<|.sr<|.ag rfl<|.ag rfl<|.zs<|.sr<|.mo rfl<|.q .kH<|.q .gtr<|.zn<|.cond rfl (λp=>?_) λp=>?_
 ·exact absurd p (by simp;omega)
 refine .kn<|.sr<|.mo rfl<|.q .cL ?_
 refine .cb rfl (λg=>?_)
 refine .ag rfl<|.z<|.az rfl<|.block<|.cy [(0,_),(4,_)] (X:=Nat×Nat×List eY×Value×aw) (λy=>y.2.1<=s.size/\y.2.2.1.length<=y.2.1/\oE s y.1 y.2.1 y.2.2.1=some L/\OS 291 3 eY.enc y.2.2.2.1 y.2.2.1 y.2.2.2.2) (λy E=>(5,y.2.2.2.1)::E) (G:=[]) (λy G=>np g s y.2.1::y.2.2.2.2::G) (λy=>y.1) (s.size+1,0,[],sZ,[]) ⟨Nat.zero_le _,Nat.le_refl _,F,OS.nil⟩ kE.c.c.c rH ?_
 rintro⟨f,i,l,v,T⟩ ⟨e,K,a,h⟩
 simp only at e K a h⊢
 obtain⟨H,I⟩:=qv e
 have N:=n.skip e
 obtain⟨b,rfl⟩:∃b,f=b+1:=by
  cases f with
  |zero=>rw[oE]at a;cases a
  |succ f=>exact⟨f,rfl⟩
 rw[oE,N]at a
 refine .block<|.sr<|.mo rfl<|.cA (R:=R) (SL g s i e (by omega) n R) (λu w o=>?_)
 subst o
 obtain⟨k,J⟩:∃k,k=run s im i:=⟨_,rfl⟩
 rw[<-J]at a H I⊢
 refine .zs<|.sr<|.mo rfl<|.nc rfl<|.fa rfl<|.lo rfl<|.mo rfl<|.q .kH<|.q .bU<|.zn<|.cond rfl (λd=>?_) λd=>?_
 have V:(k:Int)=s.size:=by simpa using d
 have m:k=s.size:=by omega
 rw[if_pos m]at a
 cases a
 refine .sr<|.mo rfl<|.ag rfl<|.az rfl<|.ret (aJ (bw (cG (bw (aY _ (.two (.tmp rfl) (.tmp rfl)) (aN [1]) ?_)))))
 ·exact⟨T,rfl,v,rfl,h⟩
 have m:¬k=s.size:=by
  intro B
  rw[B]at d
  simp at d
 rw[if_neg m]at a
 obtain⟨t,j,r,C⟩:∃t j,nZ s k=some (t,j)/\oE s b j (l++[t])=some L:=by
  cases hh:nZ s k with
  |none=>rw[hh]at a;cases a
  |some x=>obtain⟨t,j⟩:=x;rw[hh]at a;exact⟨t,j,rfl,a⟩
 have M:=Ud (by omega) r
 refine .kn<|.sr<|.mo rfl<|.cA (R:=R) (PK g s k j t (by omega) (by omega) n r R) (λu w o=>?_)
 obtain⟨rfl,rfl⟩:=o
 refine .mo rfl<|.q .extract<|.q .extract ?_
 refine .bX (λU=>?_)
 refine .bN rfl rfl<|.ag rfl<|.zs<|.sr<|.mo rfl<|.q .not<|.zn<|.cU<|.kn<|.region<|.mo rfl<|.q (.aM rfl) ?_
 refine .dN (λS=>?_)
 refine .append h (RS.lits (xs:=[t]) rfl (by simp[eY.enc]) (by simp[eY.enc,aE])) (by simp only[List.length_singleton];omega) (λQ A O=>?_)
 refine .ag rfl<|.nil<|aS ?_
 ·exact bd (b,j,l++[t],Q,A) ⟨M.2,by simp only[List.length_append,List.length_singleton];omega,C,O⟩ (by simp only;omega) kE.c.c.c (aN [2,2])
end Go.Proofs.YtdljmchhecoakaaGreat
