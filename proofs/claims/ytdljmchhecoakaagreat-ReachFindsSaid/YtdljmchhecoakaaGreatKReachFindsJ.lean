/- What the law 'ReachFinds' uses. No condition. -/
import Derived.Test.YtdljmchhecoakaaGreatKReachFindsA
import Derived.Test.YtdljmchhecoakaaGreatKReachFindsB
import Derived.Test.YtdljmchhecoakaaGreatKReachFindsE
import Derived.Test.YtdljmchhecoakaaGreatKReachFindsG
import Derived.Test.YtdljmchhecoakaaGreatKReachFindsH
namespace Go.Proofs.YtdljmchhecoakaaGreat
open Tryz (prog)
set_option linter.unusedVariables false
set_option linter.unusedSimpArgs false
set_option maxRecDepth 4000
theorem sy{s:ByteArray}{n:Nat}(h:n<s.size):s[n]=eD s n:=by
 unfold eD
 have a:n<s.data.size:=h
 rw[Array.getD_eq_getD_getElem?,Array.getElem?_eq_getElem a]
 rfl
theorem xN(c:UInt8)(R:aB):Spec prog 198 [.int .u8 (c.toNat:Int)] R [] λu H'=>u=.bool (iZ c)/\H'=[]:=by
 have d:iZ c=((decide (97<=c.toNat)&&decide (c.toNat<=122))||(decide (65<=c.toNat)&&decide (c.toNat<=90))||(decide (48<=c.toNat)&&decide (c.toNat<=57))||decide (c.toNat=95)):=rfl
 generalize iZ c=r at *
 generalize c.toNat=n at *
 refine Spec.body Tryz.func198 rfl Tryz.results198 Tryz.ntmps198 rfl ?_
 refine .sr<|.ag rfl<|.z<|.mo rfl<|.q .geq<|.mo rfl ?_
 refine .split (t:=5) rfl (λh=>?_) (λh=>?_)
 refine .gT h<|.mo rfl<|.gT h<|.q .leq<|.q (.aO h) ?_
 refine .mo rfl ?_
 refine .split (t:=9) rfl (λg=>?_) (λg=>?_)
 refine .gF g<|.gF g<|.gF g<|.cN rfl ?_
 refine .cN rfl ?_
 refine .gF g<|.q (.aO g) ?_
 refine .mo rfl<|.gX<|.gX<|.gX<|.cN rfl ?_
 refine .cN rfl ?_
 refine .gX<|.q .cD<|.mo rfl<|.gX<|.gX<|.q .cD<|.az rfl ?_
 refine .ret (aH rfl ?_)
 ·refine⟨congrArg _ ?_,rfl⟩
  rw[d]
  clear d
  grind
 refine .gT g<|.mo rfl<|.gT g<|.q .geq<|.gT g<|.mo rfl ?_
 refine .split (t:=12) rfl (λf=>?_) (λf=>?_)
 refine .gT f<|.mo rfl<|.gT f<|.q .leq<|.gT g<|.q (.aO f) ?_
 refine .q (.aK g) ?_
 refine .mo rfl ?_
 refine .split (t:=17) rfl (λe=>?_) (λe=>?_)
 refine .gF e<|.gF e<|.gF e<|.cN rfl ?_
 refine .cN rfl ?_
 refine .gF e<|.q (.aO e) ?_
 refine .mo rfl<|.gX<|.gX<|.q .cD<|.az rfl ?_
 refine .ret (aH rfl ?_)
 ·refine⟨congrArg _ ?_,rfl⟩
  rw[d]
  clear d
  grind
 refine .gT e<|.mo rfl<|.gT e<|.q .geq<|.gT e<|.mo rfl ?_
 refine .split (t:=20) rfl (λa=>?_) (λa=>?_)
 refine .gT a<|.mo rfl<|.gT a<|.q .leq<|.gT e<|.q (.aO a) ?_
 refine .q (.aK e) ?_
 refine .mo rfl ?_
 refine .split (t:=25) rfl (λb=>?_) (λb=>?_)
 refine .gF b<|.gF b<|.q (.aO b) ?_
 refine .az rfl ?_
 refine .ret (aH rfl ?_)
 ·refine⟨congrArg _ ?_,rfl⟩
  rw[d]
  clear d
  grind
 refine .gT b<|.mo rfl<|.gT b<|.q .bO<|.q (.aK b) ?_
 refine .az rfl ?_
 refine .ret (aH rfl ?_)
 ·refine⟨congrArg _ ?_,rfl⟩
  rw[d]
  clear d
  grind
 refine .gF a<|.gF a<|.gT e<|.q (.aK a) ?_
 refine .q (.aK e) ?_
 refine .mo rfl<|.gt rfl ?_
 refine .mo rfl<|.gt rfl ?_
 refine .q .bO<|.q .cK<|.az rfl ?_
 refine .ret (aH rfl ?_)
 ·refine⟨congrArg _ ?_,rfl⟩
  rw[d]
  clear d
  grind
 refine .gF f<|.gF f<|.gT g<|.q (.aK f) ?_
 refine .q (.aK g) ?_
 refine .mo rfl<|.gt rfl ?_
 refine .mo rfl<|.gt rfl ?_
 refine .q .geq<|.gt rfl ?_
 refine .mo rfl ?_
 refine .split (t:=20) rfl (λa=>?_) (λa=>?_)
 refine .gT a<|.mo rfl<|.gT a<|.q .leq<|.gt rfl ?_
 refine .q (.aO a) ?_
 refine .q .cK<|.mo rfl ?_
 refine .split (t:=25) rfl (λb=>?_) (λb=>?_)
 refine .gF b<|.gF b<|.q (.aO b) ?_
 refine .az rfl ?_
 refine .ret (aH rfl ?_)
 ·refine⟨congrArg _ ?_,rfl⟩
  rw[d]
  clear d
  grind
 refine .gT b<|.mo rfl<|.gT b<|.q .bO<|.q (.aK b) ?_
 refine .az rfl ?_
 refine .ret (aH rfl ?_)
 ·refine⟨congrArg _ ?_,rfl⟩
  rw[d]
  clear d
  grind
 refine .gF a<|.gF a<|.gt rfl ?_
 refine .q (.aK a) ?_
 refine .q .cK<|.mo rfl<|.gt rfl ?_
 refine .mo rfl<|.gt rfl ?_
 refine .q .bO<|.q .cK<|.az rfl ?_
 refine .ret (aH rfl ?_)
 ·refine⟨congrArg _ ?_,rfl⟩
  rw[d]
  clear d
  grind
 refine .gF h<|.gF h<|.q (.aK h) ?_
 refine .mo rfl<|.gt rfl ?_
 refine .mo rfl<|.gt rfl ?_
 refine .q .geq<|.gt rfl ?_
 refine .mo rfl ?_
 refine .split (t:=12) rfl (λf=>?_) (λf=>?_)
 refine .gT f<|.mo rfl<|.gT f<|.q .leq<|.gt rfl ?_
 refine .q (.aO f) ?_
 refine .q .cK<|.mo rfl ?_
 refine .split (t:=17) rfl (λe=>?_) (λe=>?_)
 refine .gF e<|.gF e<|.gF e<|.cN rfl ?_
 refine .cN rfl ?_
 refine .gF e<|.q (.aO e) ?_
 refine .mo rfl<|.gX<|.gX<|.q .cD<|.az rfl ?_
 refine .ret (aH rfl ?_)
 ·refine⟨congrArg _ ?_,rfl⟩
  rw[d]
  clear d
  grind
 refine .gT e<|.mo rfl<|.gT e<|.q .geq<|.gT e<|.mo rfl ?_
 refine .split (t:=20) rfl (λa=>?_) (λa=>?_)
 refine .gT a<|.mo rfl<|.gT a<|.q .leq<|.gT e<|.q (.aO a) ?_
 refine .q (.aK e) ?_
 refine .mo rfl ?_
 refine .split (t:=25) rfl (λb=>?_) (λb=>?_)
 refine .gF b<|.gF b<|.q (.aO b) ?_
 refine .az rfl ?_
 refine .ret (aH rfl ?_)
 ·refine⟨congrArg _ ?_,rfl⟩
  rw[d]
  clear d
  grind
 refine .gT b<|.mo rfl<|.gT b<|.q .bO<|.q (.aK b) ?_
 refine .az rfl ?_
 refine .ret (aH rfl ?_)
 ·refine⟨congrArg _ ?_,rfl⟩
  rw[d]
  clear d
  grind
 refine .gF a<|.gF a<|.gT e<|.q (.aK a) ?_
 refine .q (.aK e) ?_
 refine .mo rfl<|.gt rfl ?_
 refine .mo rfl<|.gt rfl ?_
 refine .q .bO<|.q .cK<|.az rfl ?_
 refine .ret (aH rfl ?_)
 ·refine⟨congrArg _ ?_,rfl⟩
  rw[d]
  clear d
  grind
 refine .gF f<|.gF f<|.gt rfl ?_
 refine .q (.aK f) ?_
 refine .q .cK<|.mo rfl<|.gt rfl ?_
 refine .mo rfl<|.gt rfl ?_
 refine .q .geq<|.gt rfl ?_
 refine .mo rfl ?_
 refine .split (t:=20) rfl (λa=>?_) (λa=>?_)
 refine .gT a<|.mo rfl<|.gT a<|.q .leq<|.gt rfl ?_
 refine .q (.aO a) ?_
 refine .q .cK<|.mo rfl ?_
 refine .split (t:=25) rfl (λb=>?_) (λb=>?_)
 refine .gF b<|.gF b<|.q (.aO b) ?_
 refine .az rfl ?_
 refine .ret (aH rfl ?_)
 ·refine⟨congrArg _ ?_,rfl⟩
  rw[d]
  clear d
  grind
 refine .gT b<|.mo rfl<|.gT b<|.q .bO<|.q (.aK b) ?_
 refine .az rfl ?_
 refine .ret (aH rfl ?_)
 ·refine⟨congrArg _ ?_,rfl⟩
  rw[d]
  clear d
  grind
 refine .gF a<|.gF a<|.gt rfl ?_
 refine .q (.aK a) ?_
 refine .q .cK<|.mo rfl<|.gt rfl ?_
 refine .mo rfl<|.gt rfl ?_
 refine .q .bO<|.q .cK<|.az rfl ?_
 refine .ret (aH rfl ?_)
 ·refine⟨congrArg _ ?_,rfl⟩
  rw[d]
  clear d
  grind
theorem Az(c:UInt8)(R:aB):Spec prog 195 [.int .u8 (c.toNat:Int)] R [] λu H'=>u=.bool (fY c)/\H'=[]:=by
 have a:fY c=(decide (c.toNat=32)||decide (c.toNat=9)||decide (c.toNat=10)||decide (c.toNat=13)):=rfl
 generalize fY c=r at *
 generalize c.toNat=n at *
 refine Spec.body Tryz.func195 rfl Tryz.results195 Tryz.ntmps195 rfl ?_
 refine .sr<|.ag rfl<|.z<|.mo rfl<|.q .bO<|.mo rfl ?_
 refine .split (t:=5) rfl (λd=>?_) (λd=>?_)
 refine .gF d<|.gF d<|.q (.aO d) ?_
 refine .mo rfl<|.gX<|.gX<|.q .cD<|.mo rfl<|.gX<|.gX<|.q .cD<|.az rfl ?_
 refine .ret (aH rfl ?_)
 ·refine⟨congrArg _ ?_,rfl⟩
  rw[a]
  clear a
  grind
 refine .gT d<|.mo rfl<|.gT d<|.q .bO<|.q (.aK d) ?_
 refine .mo rfl ?_
 refine .split (t:=9) rfl (λe=>?_) (λe=>?_)
 refine .gF e<|.gF e<|.q (.aO e) ?_
 refine .mo rfl<|.gX<|.gX<|.q .cD<|.az rfl ?_
 refine .ret (aH rfl ?_)
 ·refine⟨congrArg _ ?_,rfl⟩
  rw[a]
  clear a
  grind
 refine .gT e<|.mo rfl<|.gT e<|.q .bO<|.q (.aK e) ?_
 refine .mo rfl ?_
 refine .split (t:=13) rfl (λb=>?_) (λb=>?_)
 refine .gF b<|.gF b<|.q (.aO b) ?_
 refine .az rfl ?_
 refine .ret (aH rfl ?_)
 ·refine⟨congrArg _ ?_,rfl⟩
  rw[a]
  clear a
  grind
 refine .gT b<|.mo rfl<|.gT b<|.q .bO<|.q (.aK b) ?_
 refine .az rfl ?_
 refine .ret (aH rfl ?_)
 ·refine⟨congrArg _ ?_,rfl⟩
  rw[a]
  clear a
  grind
abbrev lD(xb:Nat)(s:ByteArray)(i:Nat):aA:=(bl xb [.string s,iN i] 289)
theorem yZ(f:FuncId) [e:aW prog f](p:UInt8->Bool)(A:∀(c:UInt8) (R:aB),Spec prog f [.int .u8 (c.toNat:Int)] R [] λu H'=>u=.bool (p c)/\H'=[])(xb:Nat)(s:ByteArray)(i:Nat)(B:i<=s.size)(H:s.size<=1000000)(R:aB):
  Spec prog 194 [pT xb,.func (.func f) #[] #[]] R [lD xb s i] λu H'=>∃T',H'=[T']/\u=.string (s.extract i (run s p i))/\T'=lD xb s (run s p i):=by
 have v:=λj (h:ky s p i j)=>h.run
 refine Spec.body Tryz.func194 rfl Tryz.results194 Tryz.ntmps194 rfl ?_
 refine .sr<|.ag rfl<|.z<|.mo rfl<|.nc rfl<|.fa rfl<|.lo rfl<|.ag rfl<|.zs<|.block ?_
 refine .cq [(0,_),(1,_),(5,_)] (X:=Nat) (λj=>i<=j/\j<=s.size/\∀k,i<=k->k<j->p (eD s k)=true) (λj E=>E) (G:=[]) (λj G=>lD xb s j::G) (λj=>s.size-j) i ⟨Nat.le_refl _,B,λk d w=>absurd w (by omega)⟩ kE.c.c.c rH ?_
 rintro j ⟨l,b,o⟩
 refine .seq<|.seq ?_
 refine .dF 21 mixed (by kernel_rfl) ?_
 conv=>arg 6;dsimp only[List.take]
 refine .mo rfl<|.nc rfl<|.fa rfl<|.lo rfl<|.mo rfl ?_
 refine .nc rfl<|.fa rfl<|.lo rfl<|.q .js<|.q .lss<|.mo rfl ?_
 refine .split (t:=20) rfl (λa=>?_) (λa=>?_)
 have m:j<s.size:=by have:=cv a;omega
 have y:=sy m
 refine .gT a<|.mo rfl<|.gT a<|.mo rfl<|.gT a<|.nc rfl<|.gT a<|.fa rfl<|.gT a<|.lo rfl<|.gT a<|.mo rfl<|.gT a ?_
 refine .nc rfl<|.gT a<|.fa rfl<|.gT a<|.lo rfl<|.gT a<|.q (.lV j m) ?_
 refine .nil<|.gT a ?_
 refine .fE (first:=[]) (captured:=[]) (vs:=[.int .u8 ((s[j]'m).toNat:Int)]) (A _ _) (λu D=>?_)
 subst D
 rw[y]
 refine .q (.aO a) ?_
 refine .zn ?_
 refine .cond rfl (λd=>?_) λd=>?_
 have C:p (eD s j)=true:=d
 refine .kn<|.block<|.region<|.mo rfl<|.nc rfl<|.fa rfl<|.lo rfl ?_
 refine .ia (j+1) .add ?_
 refine .nc rfl<|.fa rfl<|.dm rfl rfl<|.nil<|ba ?_
 ·exact bi (j+1) ⟨by omega,m,λk x F=>by
   rcases Nat.lt_or_ge k j with h7|h7
   ·exact o k x h7
   ·obtain rfl:k=j:=by omega
    exact C⟩ (by omega) kE.c.c.c rH
 have n:ky s p i j:=⟨l,b,o,by
  first
   |exact .inl (Nat.le_antisymm b r)
   |exact .inr d⟩
 have g:=v j n
 refine .exit<|bq<|bz<|br<|aw<|.seq ?_
 refine .fq mixed (by kernel_rfl) ?_
 refine .mo rfl<|.nc rfl<|.fa rfl<|.lo rfl<|.mo rfl<|.mo rfl ?_
 refine .nc rfl<|.fa rfl<|.lo rfl<|.q (.oe i j ⟨_,rfl⟩ ⟨_,rfl⟩ l b) ?_
 refine .az rfl ?_
 refine .ret (bj _ (.one (.tmp rfl)) rH ?_)
 ·exact⟨_,rfl,by rw[<-g],by rw[<-g]⟩
 have r:s.size<=j:=by have:=bC a;omega
 refine .gF a<|.gF a<|.gF a<|.gF a<|.gF a<|.gF a<|.gF a<|.gF a<|.gF a<|.gF a<|.nil<|.gF a<|.q (.aK a) ?_
 refine .zn<|.cF ?_
 have n:ky s p i j:=⟨l,b,o,by
  first
   |exact .inl (Nat.le_antisymm b r)
   |exact .inr d⟩
 have g:=v j n
 refine .exit<|bq<|bz<|br<|aw<|.seq ?_
 refine .fq mixed (by kernel_rfl) ?_
 refine .mo rfl<|.nc rfl<|.fa rfl<|.lo rfl<|.mo rfl<|.mo rfl ?_
 refine .nc rfl<|.fa rfl<|.lo rfl<|.q (.oe i j ⟨_,rfl⟩ ⟨_,rfl⟩ l b) ?_
 refine .az rfl ?_
 refine .ret (bj _ (.one (.tmp rfl)) rH ?_)
 ·exact⟨_,rfl,by rw[<-g],by rw[<-g]⟩
def Pl(s:ByteArray):Prop:=∀k,k<s.size->eD s k≠34/\eD s k≠47/\eD s k≠45
theorem xf{s:ByteArray}{j:Nat}{c:UInt8}{l:List UInt8}(h:Lib.hasPrefix (s.extract j s.size).data.toList (c::l)=true):j<s.size/\eD s j=c:=by
 have e:(s.extract j s.size).data.toList=s.data.toList.drop j:=by
  simp[ByteArray.data_extract]
  rw[List.take_of_length_le]
  simp
 rw[e]at h
 unfold Lib.hasPrefix at h
 cases hd:s.data.toList.drop j with
 |nil=>rw[hd]at h;simp at h
 |cons b r=>
  rw[hd]at h
  have f:j<s.data.toList.length:=by
   rcases Nat.lt_or_ge j s.data.toList.length with h1|h1
   ·exact h1
   ·rw[List.drop_eq_nil_of_le h1]at hd;cases hd
  have a:s.data.toList[j]=b:=by
   rw[List.drop_eq_getElem_cons f]at hd
   injection hd
  have g:s.data.toList.length=s.size:=by simp
  refine⟨by omega,?_⟩
  have d:b=c:=by simp at h;exact h.1.symm
  rw[<-sy (by omega), <-d, <-a]
  rfl
theorem xq(s p:ByteArray)(R:aB):Spec prog 196 [.string s,.string p] R [] λv H'=>v=.bool (Lib.hasPrefix s.data.toList p.data.toList)/\H'=[]:=
 Spec.qY (Tryz.NL s p) R
theorem NB(xb:Nat)(s:ByteArray)(i:Nat)(d:i<=s.size)(m:s.size<=1000000)(k:Pl s)(R:aB):Spec prog 154 [pT xb] R [lD xb s i] λ_ H'=>∃T',H'=[T']/\T'=lD xb s (run s fY i):=by
 obtain⟨n,f⟩:=od d
 have g:Lib.hasPrefix (s.extract (run s fY i) s.size).data.toList [47,47]=false:=by
  cases h:Lib.hasPrefix (s.extract (run s fY i) s.size).data.toList [47,47]with
  |false=>rfl
  |true=>
   obtain⟨a,e⟩:=xf h
   exact absurd e (k _ a).2.1
 have l:=yZ 195 fY Az xb s i d m R
 generalize run s fY i=j at *
 refine Spec.body Tryz.func154 rfl Tryz.results154 Tryz.ntmps154 rfl ?_
 refine .block ?_
 refine .cq [(0,_)] (X:=Unit) (λ_=>True) (λ_ E=>E) (G:=[lD xb s i]) (λ_ G=>G) (λ_=>0) () trivial kE.c rH ?_
 rintro _ _
 refine .block<|.sr<|.mo rfl ?_
 refine .cV (R:=R) l (λu T' b=>?_)
 obtain⟨rfl,rfl⟩:=b
 refine .zs<|.seq ?_
 refine .dF 9 mixed (by kernel_rfl) ?_
 conv=>arg 6;dsimp only[List.take]
 refine .mo rfl<|.nc rfl<|.fa rfl<|.lo rfl<|.mo rfl ?_
 refine .nc rfl<|.fa rfl<|.lo rfl<|.q (.oe j s.size ⟨_,rfl⟩ rfl f (Nat.le_refl _)) ?_
 refine .nil ?_
 refine .bd (xq _ _ _) (λu b=>?_)
 subst b
 refine .q .not<|.zn ?_
 refine .cond rfl (λa=>?_) λa=>?_
 refine .ret (aF (bg (cz (bg (bj _ .none rH ?_)))))
 ·exact⟨_,rfl,rfl⟩
 ·exact absurd a (by rw[show(⟨#[47,47]⟩:ByteArray).data.toList=[47,47]from rfl,g];simp)
theorem Nz(c:UInt8):decide (0<=Lib.indexByte [123,125,59,58,61,124,38,45,40,41,35,44] c)=oc.contains c:=by
 have e:∀k:Fin 256,decide (0<=Lib.indexByte [123,125,59,58,61,124,38,45,40,41,35,44] (UInt8.ofNat k.val))=oc.contains (UInt8.ofNat k.val):=by decide+kernel
 have h:=e ⟨c.toNat,c.toNat_lt⟩
 simpa using h
theorem Oy(s:ByteArray)(c:Int)(R:aB):Spec prog 200 [.string s,.int .u8 c] R [] λv H'=>v=.int .i64 (Lib.indexByte s.data.toList c.toNat.toUInt8)/\H'=[]:=by
 refine Spec.body Tryz.func200 rfl Tryz.results200 Tryz.ntmps200 rfl ?_
 refine .sr<|.ag rfl<|.z<|.mo rfl<|.mo rfl ?_
 refine .bd (Spec.qY (Tryz.NM s c) _) (λv a=>?_)
 subst a
 refine .az rfl ?_
 refine .ret (aH rfl ?_)
 ·exact⟨rfl,rfl⟩
def eu.enc(t:eu):List Value:=[.int .i64 t.kind,.string t.text,iN t.pos]
instance eu.one(t:eu):bW t.enc:=⟨by simp[eu.enc,ap]⟩
theorem KN(xb:Nat)(s:ByteArray)(i j:Nat)(t:eu)(e:i<s.size)(B:s.size<=1000000)(y:Pl s)(a:mm s i=some (t,j))(R:aB):Spec prog 155 [pT xb] R [lD xb s i] λu H'=>∃T',H'=[T']/\u=.tuple [.agg t.enc.toArray,.bool true].toArray/\T'=lD xb s j:=by
 have o:=yZ 198 iZ xN xb s i (Nat.le_of_lt e) B R
 obtain⟨A,G,n⟩:=y i e
 have x:Lib.hasPrefix (s.extract i s.size).data.toList [45,62]=false:=by
  cases h:Lib.hasPrefix (s.extract i s.size).data.toList [45,62]with
  |false=>rfl
  |true=>
   obtain⟨c,d⟩:=xf h
   exact absurd d n
 have v:=sy e
 have D:two s i 45 62=false:=by
  unfold two
  simp[n]
 have r:(eD s i).toNat≠34:=λh=>A (by
  have:eD s i=UInt8.ofNat 34:=by rw[<-h];simp
  exact this)
 have C:mm s i=if iZ (eD s i)=true then some (⟨1,s.extract i (run s iZ i),i⟩,run s iZ i)else if oc.contains (eD s i)=true then some (⟨3,s.extract i (i+1),i⟩,i+1)else none:=by
  simp only[mm,if_neg r,D,Bool.false_eq_true,if_false]
 rw[C]at a
 have p:=Nz (eD s i)
 have m:((eD s i).toNat:Int).toNat.toUInt8=eD s i:=by simp
 obtain⟨k,w⟩:∃k,k=run s iZ i:=⟨_,rfl⟩
 rw[<-w]at o a
 refine Spec.body Tryz.func155 rfl Tryz.results155 Tryz.ntmps155 rfl ?_
 refine .sr ?_
 refine .bN (λE=>?_)
 refine .ag rfl<|.z<|.mo rfl<|.nc rfl<|.fa rfl<|.lo rfl ?_
 refine .q .cO ?_
 refine .bN (λF=>?_)
 refine .bG rfl rfl<|.zs ?_
 refine .fq mixed (by kernel_rfl) ?_
 refine .mo rfl<|.nc rfl<|.fa rfl<|.lo rfl<|.mo rfl ?_
 refine .nc rfl<|.fa rfl<|.lo rfl ?_
 refine .q (.cast (.lV i e) (by rw[v])) ?_
 refine .ag rfl<|.zs<|.block<|.sr<|.mo rfl ?_
 refine .bd (xN _ _) (λu b=>?_)
 subst b
 refine .az rfl ?_
 refine .cond rfl (λc=>?_) λc=>?_
 rw[if_pos c]at a
 cases a
 refine .region<|.mo rfl ?_
 refine .cV (R:=R) o (λu T' b=>?_)
 obtain⟨rfl,rfl⟩:=b
 refine .fa rfl<|.dm rfl rfl<|.fa rfl<|.dm rfl rfl<|.nil<|ba<|aw<|.sr<|.q (.aI rfl)<|.bG rfl rfl<|.az rfl ?_
 refine .ret (bj _ (.two (.ei rfl rfl) (.tmp rfl)) (aY [2]) ?_)
 ·exact⟨_,rfl,rfl,rfl⟩
 rw[if_neg (by rw[c];simp)]at a
 refine .sr<|.mo rfl<|.q .bO<|.az rfl ?_
 refine .cond rfl (λd=>?_) λd=>?_
 ·exact absurd d (by simp;omega)
 refine .seq ?_
 refine .dF 9 mixed (by kernel_rfl) ?_
 conv=>arg 6;dsimp only[List.take]
 refine .mo rfl<|.nc rfl<|.fa rfl<|.lo rfl<|.mo rfl ?_
 refine .nc rfl<|.fa rfl<|.lo rfl ?_
 refine .q (.oe i s.size ⟨_,rfl⟩ rfl (by omega) (Nat.le_refl _)) ?_
 refine .nil ?_
 refine .bd (xq _ _ _) (λu b=>?_)
 subst b
 refine .az rfl ?_
 refine .cond rfl (λl=>?_) λl=>?_
 ·exact absurd l (by rw[show(⟨#[45,62]⟩:ByteArray).data.toList=[45,62]from rfl,x];simp)
 refine .sr<|.mo rfl ?_
 refine .bd (Oy _ _ _) (λu b=>?_)
 subst b
 refine .q .geq<|.az rfl ?_
 refine .cond rfl (λf=>?_) λf=>?_
 have g:oc.contains (eD s i)=true:=by
  rw[<-p, <-m];exact f
 rw[if_pos g]at a
 cases a
 refine .seq<|.ry [0] [15,17] mixed ?_
 conv=>arg 3;simp only[take,rest,bF,List.getD_cons_zero,List.getD_cons_succ]
 conv=>arg 5;simp only[take,rest,bF,List.getD_cons_zero,List.getD_cons_succ]
 conv=>arg 9;simp only[take,rest,bF,List.getD_cons_zero,List.getD_cons_succ]
 refine .tK 0 rfl .move ?_
 refine .tK 1 rfl (.mS rfl) ?_
 refine .tK 2 rfl (.eE rfl) ?_
 refine .tK 3 rfl (.cI rfl)<|.tK 4 rfl .move ?_
 refine .tK 5 rfl (.mS rfl) ?_
 refine .tK 6 rfl (.eE rfl) ?_
 refine .tK 7 rfl (.cI rfl)<|.tK 8 rfl .move ?_
 refine .tK 9 rfl (.mS rfl) ?_
 refine .tK 10 rfl (.eE rfl) ?_
 refine .tK 11 rfl (.cI rfl) ?_
 refine .take 12 rfl (.i64 ((i+1:Nat):Int) .add ⟨by omega,by omega,by omega⟩) (by kernel_rfl) ?_
 refine .tK 13 rfl (.oe (s:=s) i (i+1) ⟨_,rfl⟩ ⟨_,rfl⟩ (by omega) (by omega)) ?_
 refine .tO 14 rfl (.fieldAddr rfl) ?_
 refine .sT 15 rfl ?_
 refine .dm rfl rfl ?_
 refine .nil (Next.mod rfl ?_)
 refine .tK 16 rfl (.eE rfl) ?_
 refine .sT 17 rfl ?_
 refine .dm rfl rfl ?_
 refine .nil (Next.mod rfl ?_)
 refine RA.nil (by kernel_rfl) ?_
 refine aw<|.region ?_
 conv=>arg 8;simp only[rest,bF,List.cons_append,List.nil_append]
 refine .mo rfl<|.nc rfl<|.fa rfl<|.lo rfl ?_
 refine .ia (i+1) .add ?_
 refine .nc rfl<|.fa rfl<|.dm rfl rfl<|.nil<|ba<|aw<|.sr<|.q (.aI rfl)<|.bG rfl rfl<|.az rfl ?_
 refine .ret (bj _ (.two (.ei rfl rfl) (.tmp rfl)) (aY [2]) ?_)
 ·exact⟨_,rfl,rfl,rfl⟩
 ·have g:oc.contains (eD s i)=false:=by
   rw[<-p, <-m];exact f
  rw[if_neg (by rw[g];simp)]at a
  cases a
theorem Pl.skip{s:ByteArray}(b:Pl s){i:Nat}(a:i<=s.size):ng s i=run s fY i:=by
 rw[NC a,if_neg]
 intro h
 unfold two at h
 simp only[Bool.and_eq_true,decide_eq_true_eq]at h
 exact(b _ (by omega)).2.1 h.1.2
theorem KF(s:ByteArray)(W:s.size<=16384)(n:Pl s)(L:List eu)(D:oV s=some L)(R:aB):Spec prog 97 [.string s] R [] λu H'=>∃T,H'=[T]/\∃v,u=.tuple [v,.int .i64 0].toArray/\OS 291 3 eu.enc v L T:=by
 have F:mL s (s.size+1) 0 []=some L:=D
 refine Spec.gx (H':=[[]]) (by simp) ?_
 refine Spec.body Tryz.func97 rfl Tryz.results97 Tryz.ntmps97 rfl ?_
 refine .sr<|.ag rfl<|.ag rfl<|.zs<|.sr<|.mo rfl<|.q .js<|.q .gtr<|.zn ?_
 refine .cond rfl (λp=>?_) λp=>?_
 ·exact absurd p (by simp;omega)
 refine .kn<|.sr<|.mo rfl ?_
 refine .q .cO ?_
 refine .bX rfl (λh=>?_)
 refine .ag rfl<|.z<|.az rfl<|.block ?_
 refine .cq [(0,_),(4,_)] (X:=Nat×Nat×List eu×Value×aA) (λy=>y.2.1<=s.size/\y.2.2.1.length<=y.2.1/\mL s y.1 y.2.1 y.2.2.1=some L/\OS 291 3 eu.enc y.2.2.2.1 y.2.2.1 y.2.2.2.2) (λy E=>(5,y.2.2.2.1)::E) (G:=[]) (λy G=>lD h s y.2.1::y.2.2.2.2::G) (λy=>y.1) (s.size+1,0,[],sZ,[]) ⟨Nat.zero_le _,Nat.le_refl _,F,OS.nil⟩ kE.c.c.c rH ?_
 rintro⟨f,i,l,v,T⟩ ⟨g,K,a,e⟩
 simp only at g K a e⊢
 have Y:=e.ap
 obtain⟨H,I⟩:=od g
 have N:=n.skip g
 obtain⟨b,rfl⟩:∃b,f=b+1:=by
  cases f with
  |zero=>rw[mL]at a;cases a
  |succ f=>exact⟨f,rfl⟩
 rw[mL,N]at a
 refine .block<|.sr<|.mo rfl ?_
 refine .cV (R:=R) (NB h s i g (by omega) n R) (λu w o=>?_)
 subst o
 obtain⟨k,J⟩:∃k,k=run s fY i:=⟨_,rfl⟩
 rw[<-J]at a H I⊢
 refine .zs<|.sr<|.mo rfl<|.nc rfl<|.fa rfl<|.lo rfl<|.mo rfl<|.q .js<|.q .bO<|.zn ?_
 refine .cond rfl (λd=>?_) λd=>?_
 have V:(k:Int)=s.size:=by simpa using d
 have m:k=s.size:=by omega
 rw[if_pos m]at a
 cases a
 refine .sr<|.mo rfl<|.ag rfl<|.az rfl ?_
 refine .ret (aF (bg (cz (bg (bj _ (.two (.tmp rfl) (.tmp rfl)) (aY [1]) ?_)))))
 ·exact⟨T,rfl,v,rfl,e⟩
 have m:¬k=s.size:=by
  intro B
  rw[B]at d
  simp at d
 rw[if_neg m]at a
 obtain⟨t,j,r,C⟩:∃t j,mm s k=some (t,j)/\mL s b j (l++[t])=some L:=by
  cases hh:mm s k with
  |none=>rw[hh]at a;cases a
  |some x=>obtain⟨t,j⟩:=x;rw[hh]at a;exact⟨t,j,rfl,a⟩
 have M:=N8 (by omega) r
 refine .kn<|.sr<|.mo rfl ?_
 refine .cV (R:=R) (KN h s k j t (by omega) (by omega) n r R) (λu w o=>?_)
 obtain⟨rfl,rfl⟩:=o
 refine .mo rfl<|.q .extract<|.q .extract ?_
 refine .bN (λU=>?_)
 refine .bG rfl rfl<|.ag rfl<|.zs<|.sr<|.mo rfl<|.q .not<|.zn<|.cF<|.kn<|.region<|.mo rfl<|.q (.aI rfl) ?_
 refine .dA (λS=>?_)
 refine .append e (RS.lits (xs:=[t]) rfl (by simp[eu.enc]) (by simp[eu.enc,ap])) (by simp only[List.length_singleton];omega) (λQ A O=>?_)
 refine .ag rfl<|.nil<|ba ?_
 ·exact bi (b,j,l++[t],Q,A) ⟨M.2,by simp only[List.length_append,List.length_singleton];omega,C,O⟩ (by simp only;omega) kE.c.c.c (aY [2,2])
end Go.Proofs.YtdljmchhecoakaaGreat
