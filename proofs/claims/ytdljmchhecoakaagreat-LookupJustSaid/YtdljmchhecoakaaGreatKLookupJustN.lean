/- What the law 'LookupJust' uses. No condition. -/
import Derived.Test.YtdljmchhecoakaaGreatKLookupJustA
import Derived.Test.YtdljmchhecoakaaGreatKLookupJustB
import Derived.Test.YtdljmchhecoakaaGreatKLookupJustE
import Derived.Test.YtdljmchhecoakaaGreatKLookupJustG
import Derived.Test.YtdljmchhecoakaaGreatKLookupJustH
namespace Go.Proofs.YtdljmchhecoakaaGreat
set_option linter.defProp false
def aen:=@congrArg
def aeo:=@List.getD_cons_zero
def aep:=@List.getD_cons_succ
open Tryz
set_option linter.unusedVariables false
set_option linter.unusedSimpArgs false
set_option maxRecDepth 4000
theorem tF{s:ByteArray}{n:Nat}(h:n<s.size):s[n]=eW s n:=by
 unfold eW
 have a:n<s.data.size:=h
 rw[Array.getD_eq_getD_getElem?,Array.getElem?_eq_getElem a]
 rfl
theorem zo(c:UInt8)(R:ay):Spec prog 198 [.int .u8 (c.toNat:Int)] R [] λu H'=>u=.bool (jR c)/\H'=[]:=by
 have d:jR c=((decide (97<=c.toNat)&&decide (c.toNat<=122))||(decide (65<=c.toNat)&&decide (c.toNat<=90))||(decide (48<=c.toNat)&&decide (c.toNat<=57))||decide (c.toNat=95)):=rfl
 generalize jR c=r at *
 generalize c.toNat=n at *
 refine Spec.body func198 rfl results198 ntmps198 rfl<|.sr<|.ag rfl<|.z<|.mo rfl<|.q .geq<|.mo rfl<|.split (t:=5) rfl (λh=>?_) (λh=>?_)
 refine .gT h<|.mo rfl<|.gT h<|.q .leq<|.q (.aU h)<|.mo rfl<|.split (t:=9) rfl (λg=>?_) (λg=>?_)
 refine .gF g<|.gF g<|.gF g<|.dc rfl<|.dc rfl<|.gF g<|.q (.aU g)<|.mo rfl<|.gX<|.gX<|.gX<|.dc rfl<|.dc rfl<|.gX<|.q .cQ<|.mo rfl<|.gX<|.gX<|.q .cQ<|.az rfl<|.ret (aN rfl ?_)
 ·refine⟨aen _ ?_,rfl⟩
  rw[d]
  clear d
  grind
 refine .gT g<|.mo rfl<|.gT g<|.q .geq<|.gT g<|.mo rfl<|.split (t:=12) rfl (λf=>?_) (λf=>?_)
 refine .gT f<|.mo rfl<|.gT f<|.q .leq<|.gT g<|.q (.aU f)<|.q (.aR g)<|.mo rfl<|.split (t:=17) rfl (λe=>?_) (λe=>?_)
 refine .gF e<|.gF e<|.gF e<|.dc rfl<|.dc rfl<|.gF e<|.q (.aU e)<|.mo rfl<|.gX<|.gX<|.q .cQ<|.az rfl<|.ret (aN rfl ?_)
 ·refine⟨aen _ ?_,rfl⟩
  rw[d]
  clear d
  grind
 refine .gT e<|.mo rfl<|.gT e<|.q .geq<|.gT e<|.mo rfl<|.split (t:=20) rfl (λa=>?_) (λa=>?_)
 refine .gT a<|.mo rfl<|.gT a<|.q .leq<|.gT e<|.q (.aU a)<|.q (.aR e)<|.mo rfl<|.split (t:=25) rfl (λb=>?_) (λb=>?_)
 refine .gF b<|.gF b<|.q (.aU b)<|.az rfl<|.ret (aN rfl ?_)
 ·refine⟨aen _ ?_,rfl⟩
  rw[d]
  clear d
  grind
 refine .gT b<|.mo rfl<|.gT b<|.q .bY<|.q (.aR b)<|.az rfl<|.ret (aN rfl ?_)
 ·refine⟨aen _ ?_,rfl⟩
  rw[d]
  clear d
  grind
 refine .gF a<|.gF a<|.gT e<|.q (.aR a)<|.q (.aR e)<|.mo rfl<|.gt rfl<|.mo rfl<|.gt rfl<|.q .bY<|.q .cY<|.az rfl<|.ret (aN rfl ?_)
 ·refine⟨aen _ ?_,rfl⟩
  rw[d]
  clear d
  grind
 refine .gF f<|.gF f<|.gT g<|.q (.aR f)<|.q (.aR g)<|.mo rfl<|.gt rfl<|.mo rfl<|.gt rfl<|.q .geq<|.gt rfl<|.mo rfl<|.split (t:=20) rfl (λa=>?_) (λa=>?_)
 refine .gT a<|.mo rfl<|.gT a<|.q .leq<|.gt rfl<|.q (.aU a)<|.q .cY<|.mo rfl<|.split (t:=25) rfl (λb=>?_) (λb=>?_)
 refine .gF b<|.gF b<|.q (.aU b)<|.az rfl<|.ret (aN rfl ?_)
 ·refine⟨aen _ ?_,rfl⟩
  rw[d]
  clear d
  grind
 refine .gT b<|.mo rfl<|.gT b<|.q .bY<|.q (.aR b)<|.az rfl<|.ret (aN rfl ?_)
 ·refine⟨aen _ ?_,rfl⟩
  rw[d]
  clear d
  grind
 refine .gF a<|.gF a<|.gt rfl<|.q (.aR a)<|.q .cY<|.mo rfl<|.gt rfl<|.mo rfl<|.gt rfl<|.q .bY<|.q .cY<|.az rfl<|.ret (aN rfl ?_)
 ·refine⟨aen _ ?_,rfl⟩
  rw[d]
  clear d
  grind
 refine .gF h<|.gF h<|.q (.aR h)<|.mo rfl<|.gt rfl<|.mo rfl<|.gt rfl<|.q .geq<|.gt rfl<|.mo rfl<|.split (t:=12) rfl (λf=>?_) (λf=>?_)
 refine .gT f<|.mo rfl<|.gT f<|.q .leq<|.gt rfl<|.q (.aU f)<|.q .cY<|.mo rfl<|.split (t:=17) rfl (λe=>?_) (λe=>?_)
 refine .gF e<|.gF e<|.gF e<|.dc rfl<|.dc rfl<|.gF e<|.q (.aU e)<|.mo rfl<|.gX<|.gX<|.q .cQ<|.az rfl<|.ret (aN rfl ?_)
 ·refine⟨aen _ ?_,rfl⟩
  rw[d]
  clear d
  grind
 refine .gT e<|.mo rfl<|.gT e<|.q .geq<|.gT e<|.mo rfl<|.split (t:=20) rfl (λa=>?_) (λa=>?_)
 refine .gT a<|.mo rfl<|.gT a<|.q .leq<|.gT e<|.q (.aU a)<|.q (.aR e)<|.mo rfl<|.split (t:=25) rfl (λb=>?_) (λb=>?_)
 refine .gF b<|.gF b<|.q (.aU b)<|.az rfl<|.ret (aN rfl ?_)
 ·refine⟨aen _ ?_,rfl⟩
  rw[d]
  clear d
  grind
 refine .gT b<|.mo rfl<|.gT b<|.q .bY<|.q (.aR b)<|.az rfl<|.ret (aN rfl ?_)
 ·refine⟨aen _ ?_,rfl⟩
  rw[d]
  clear d
  grind
 refine .gF a<|.gF a<|.gT e<|.q (.aR a)<|.q (.aR e)<|.mo rfl<|.gt rfl<|.mo rfl<|.gt rfl<|.q .bY<|.q .cY<|.az rfl<|.ret (aN rfl ?_)
 ·refine⟨aen _ ?_,rfl⟩
  rw[d]
  clear d
  grind
 refine .gF f<|.gF f<|.gt rfl<|.q (.aR f)<|.q .cY<|.mo rfl<|.gt rfl<|.mo rfl<|.gt rfl<|.q .geq<|.gt rfl<|.mo rfl<|.split (t:=20) rfl (λa=>?_) (λa=>?_)
 refine .gT a<|.mo rfl<|.gT a<|.q .leq<|.gt rfl<|.q (.aU a)<|.q .cY<|.mo rfl<|.split (t:=25) rfl (λb=>?_) (λb=>?_)
 refine .gF b<|.gF b<|.q (.aU b)<|.az rfl<|.ret (aN rfl ?_)
 ·refine⟨aen _ ?_,rfl⟩
  rw[d]
  clear d
  grind
 refine .gT b<|.mo rfl<|.gT b<|.q .bY<|.q (.aR b)<|.az rfl<|.ret (aN rfl ?_)
 ·refine⟨aen _ ?_,rfl⟩
  rw[d]
  clear d
  grind
 refine .gF a<|.gF a<|.gt rfl<|.q (.aR a)<|.q .cY<|.mo rfl<|.gt rfl<|.mo rfl<|.gt rfl<|.q .bY<|.q .cY<|.az rfl<|.ret (aN rfl ?_)
 ·refine⟨aen _ ?_,rfl⟩
  rw[d]
  clear d
  grind
theorem Cl(c:UInt8)(R:ay):Spec prog 195 [.int .u8 (c.toNat:Int)] R [] λu H'=>u=.bool (gW c)/\H'=[]:=by
 have a:gW c=(decide (c.toNat=32)||decide (c.toNat=9)||decide (c.toNat=10)||decide (c.toNat=13)):=rfl
 generalize gW c=r at *
 generalize c.toNat=n at *
 refine Spec.body func195 rfl results195 ntmps195 rfl<|.sr<|.ag rfl<|.z<|.mo rfl<|.q .bY<|.mo rfl<|.split (t:=5) rfl (λd=>?_) (λd=>?_)
 refine .gF d<|.gF d<|.q (.aU d)<|.mo rfl<|.gX<|.gX<|.q .cQ<|.mo rfl<|.gX<|.gX<|.q .cQ<|.az rfl<|.ret (aN rfl ?_)
 ·refine⟨aen _ ?_,rfl⟩
  rw[a]
  clear a
  grind
 refine .gT d<|.mo rfl<|.gT d<|.q .bY<|.q (.aR d)<|.mo rfl<|.split (t:=9) rfl (λe=>?_) (λe=>?_)
 refine .gF e<|.gF e<|.q (.aU e)<|.mo rfl<|.gX<|.gX<|.q .cQ<|.az rfl<|.ret (aN rfl ?_)
 ·refine⟨aen _ ?_,rfl⟩
  rw[a]
  clear a
  grind
 refine .gT e<|.mo rfl<|.gT e<|.q .bY<|.q (.aR e)<|.mo rfl<|.split (t:=13) rfl (λb=>?_) (λb=>?_)
 refine .gF b<|.gF b<|.q (.aU b)<|.az rfl<|.ret (aN rfl ?_)
 ·refine⟨aen _ ?_,rfl⟩
  rw[a]
  clear a
  grind
 refine .gT b<|.mo rfl<|.gT b<|.q .bY<|.q (.aR b)<|.az rfl<|.ret (aN rfl ?_)
 ·refine⟨aen _ ?_,rfl⟩
  rw[a]
  clear a
  grind
abbrev mR(xb:Nat)(s:ByteArray)(i:Nat):ax:=(bl xb [.string s,iN i] 289)
theorem AP(f:FuncId) [e:aS prog f](p:UInt8->Bool)(A:∀(c:UInt8) (R:ay),Spec prog f [.int .u8 (c.toNat:Int)] R [] λu H'=>u=.bool (p c)/\H'=[])(xb:Nat)(s:ByteArray)(i:Nat)(B:i<=s.size)(H:s.size<=1000000)(R:ay):
  Spec prog 194 [pT xb,.func (.func f) #[] #[]] R [mR xb s i] λu H'=>∃T',H'=[T']/\u=.string (s.extract i (run s p i))/\T'=mR xb s (run s p i):=by
 have v:=λj (h:lT s p i j)=>h.run
 refine Spec.body func194 rfl results194 ntmps194 rfl<|.sr<|.ag rfl<|.z<|.mo rfl<|.nc rfl<|.fa rfl<|.lo rfl<|.ag rfl<|.zs<|.block<|.cF [(0,_),(1,_),(5,_)] (X:=Nat) (λj=>i<=j/\j<=s.size/\∀k,i<=k->k<j->p (eW s k)=true) (λj E=>E) (G:=[]) (λj G=>mR xb s j::G) (λj=>s.size-j) i ⟨Nat.le_refl _,B,λk d w=>absurd w (by omega)⟩ kE.c.c.c rH ?_
 rintro j ⟨l,b,o⟩
 refine .seq<|.seq<|.dm 21 mixed (by kernel_rfl) ?_
 conv=>arg 6;dsimp only[List.take]
 refine .mo rfl<|.nc rfl<|.fa rfl<|.lo rfl<|.mo rfl<|.nc rfl<|.fa rfl<|.lo rfl<|.q .ku<|.q .lss<|.mo rfl<|.split (t:=20) rfl (λa=>?_) (λa=>?_)
 have m:j<s.size:=by have:=bX a;omega
 have y:=tF m
 refine .gT a<|.mo rfl<|.gT a<|.mo rfl<|.gT a<|.nc rfl<|.gT a<|.fa rfl<|.gT a<|.lo rfl<|.gT a<|.mo rfl<|.gT a<|.nc rfl<|.gT a<|.fa rfl<|.gT a<|.lo rfl<|.gT a<|.q (.ng j m)<|.nil<|.gT a<|.gj (first:=[]) (captured:=[]) (vs:=[.int .u8 ((s[j]'m).toNat:Int)]) (A _ _) (λu D=>?_)
 subst D
 rw[y]
 refine .q (.aU a)<|.zn<|.cond rfl (λd=>?_) λd=>?_
 have C:p (eW s j)=true:=d
 refine .kn<|.block<|.region<|.mo rfl<|.nc rfl<|.fa rfl<|.lo rfl ?_
 refine .ia (j+1) .add ?_
 refine .nc rfl<|.fa rfl<|.dz rfl rfl<|.nil<|aX ?_
 ·exact bm (j+1) ⟨by omega,m,λk x F=>by
   rcases Nat.lt_or_ge k j with h7|h7
   ·exact o k x h7
   ·obtain rfl:k=j:=by omega
    exact C⟩ (by omega) kE.c.c.c rH
 have n:lT s p i j:=⟨l,b,o,by
  first
   |exact .inl (Nat.le_antisymm b r)
   |exact .inr d⟩
 have g:=v j n
 refine .exit<|bo<|bs<|bp<|aw<|.seq<|.gd mixed (by kernel_rfl)<|.mo rfl<|.nc rfl<|.fa rfl<|.lo rfl<|.mo rfl<|.mo rfl<|.nc rfl<|.fa rfl<|.lo rfl<|.q (.pJ i j ⟨_,rfl⟩ ⟨_,rfl⟩ l b)<|.az rfl<|.ret (bj _ (.one (.tmp rfl)) rH ?_)
 ·exact⟨_,rfl,by rw[<-g],by rw[<-g]⟩
 have r:s.size<=j:=by have:=bF a;omega
 refine .gF a<|.gF a<|.gF a<|.gF a<|.gF a<|.gF a<|.gF a<|.gF a<|.gF a<|.gF a<|.nil<|.gF a<|.q (.aR a)<|.zn<|.cU ?_
 have n:lT s p i j:=⟨l,b,o,by
  first
   |exact .inl (Nat.le_antisymm b r)
   |exact .inr d⟩
 have g:=v j n
 refine .exit<|bo<|bs<|bp<|aw<|.seq<|.gd mixed (by kernel_rfl)<|.mo rfl<|.nc rfl<|.fa rfl<|.lo rfl<|.mo rfl<|.mo rfl<|.nc rfl<|.fa rfl<|.lo rfl<|.q (.pJ i j ⟨_,rfl⟩ ⟨_,rfl⟩ l b)<|.az rfl<|.ret (bj _ (.one (.tmp rfl)) rH ?_)
 ·exact⟨_,rfl,by rw[<-g],by rw[<-g]⟩
def Pl(s:ByteArray):Prop:=∀k,k<s.size->eW s k≠34/\eW s k≠47/\eW s k≠45
theorem yA{s:ByteArray}{j:Nat}{c:UInt8}{l:List UInt8}(h:Lib.hasPrefix (s.extract j s.size).data.toList (c::l)=true):j<s.size/\eW s j=c:=by
 have e:(s.extract j s.size).data.toList=s.data.toList.drop j:=by
  simp[ByteArray.data_extract]
  rw[List.take_of_length_le]
  simp
 rw[e]at h
 unfold Lib.hasPrefix at h
 cases hd:s.data.toList.drop j with
 |nil=>rw[hd]at h;simp at h
 |cons b r=>
  rw[hd]at h
  have f:j<s.data.toList.length:=by
   rcases Nat.lt_or_ge j s.data.toList.length with h1|h1
   ·exact h1
   ·rw[List.drop_eq_nil_of_le h1]at hd;cases hd
  have a:s.data.toList[j]=b:=by
   rw[List.drop_eq_getElem_cons f]at hd
   injection hd
  have g:s.data.toList.length=s.size:=by simp
  refine⟨by omega,?_⟩
  have d:b=c:=by simp at h;exact h.1.symm
  rw[<-tF (by omega), <-d, <-a]
  rfl
theorem yO(s p:ByteArray)(R:ay):Spec prog 196 [.string s,.string p] R [] λv H'=>v=.bool (Lib.hasPrefix s.data.toList p.data.toList)/\H'=[]:=
 Spec.sm (QT s p) R
theorem Qu(xb:Nat)(s:ByteArray)(i:Nat)(d:i<=s.size)(m:s.size<=1000000)(k:Pl s)(R:ay):Spec prog 154 [pT xb] R [mR xb s i] λ_ H'=>∃T',H'=[T']/\T'=mR xb s (run s gW i):=by
 obtain⟨n,f⟩:=pI d
 have g:Lib.hasPrefix (s.extract (run s gW i) s.size).data.toList [47,47]=false:=by
  cases h:Lib.hasPrefix (s.extract (run s gW i) s.size).data.toList [47,47]with
  |false=>rfl
  |true=>
   obtain⟨a,e⟩:=yA h
   exact absurd e (k _ a).2.1
 have l:=AP 195 gW Cl xb s i d m R
 generalize run s gW i=j at *
 refine Spec.body func154 rfl results154 ntmps154 rfl<|.block<|.cF [(0,_)] (X:=Unit) (λ_=>True) (λ_ E=>E) (G:=[mR xb s i]) (λ_ G=>G) (λ_=>0) () trivial kE.c rH ?_
 rintro _ _
 refine .block<|.sr<|.mo rfl<|.cr (R:=R) l (λu T' b=>?_)
 obtain⟨rfl,rfl⟩:=b
 refine .zs<|.seq<|.dm 9 mixed (by kernel_rfl) ?_
 conv=>arg 6;dsimp only[List.take]
 refine .mo rfl<|.nc rfl<|.fa rfl<|.lo rfl<|.mo rfl<|.nc rfl<|.fa rfl<|.lo rfl<|.q (.pJ j s.size ⟨_,rfl⟩ rfl f (Nat.le_refl _))<|.nil<|.ba (yO _ _ _) (λu b=>?_)
 subst b
 refine .q .not<|.zn<|.cond rfl (λa=>?_) λa=>?_
 refine .ret (aK (br (cI (br (bj _ .none rH ?_)))))
 ·exact⟨_,rfl,rfl⟩
 ·exact absurd a (by rw[show(⟨#[47,47]⟩:ByteArray).data.toList=[47,47]from rfl,g];simp)
theorem Qs(c:UInt8):decide (0<=Lib.indexByte [123,125,59,58,61,124,38,45,40,41,35,44] c)=pG.contains c:=by
 have e:∀k:Fin 256,decide (0<=Lib.indexByte [123,125,59,58,61,124,38,45,40,41,35,44] (UInt8.ofNat k.val))=pG.contains (UInt8.ofNat k.val):=by decide+kernel
 have h:=e ⟨c.toNat,c.toNat_lt⟩
 simpa using h
theorem RJ(s:ByteArray)(c:Int)(R:ay):Spec prog 200 [.string s,.int .u8 c] R [] λv H'=>v=.int .i64 (Lib.indexByte s.data.toList c.toNat.toUInt8)/\H'=[]:=by
 refine Spec.body func200 rfl results200 ntmps200 rfl<|.sr<|.ag rfl<|.z<|.mo rfl<|.mo rfl<|.ba (Spec.sm (QU s c) _) (λv a=>?_)
 subst a
 refine .az rfl<|.ret (aN rfl ?_)
 ·exact⟨rfl,rfl⟩
def eO.enc(t:eO):List Value:=[.int .i64 t.kind,.string t.text,iN t.pos]
instance eO.one(t:eO):cC t.enc:=⟨by simp[eO.enc,aB]⟩
theorem NH(xb:Nat)(s:ByteArray)(i j:Nat)(t:eO)(e:i<s.size)(B:s.size<=1000000)(y:Pl s)(a:nC s i=some (t,j))(R:ay):Spec prog 155 [pT xb] R [mR xb s i] λu H'=>∃T',H'=[T']/\u=.tuple [.agg t.enc.toArray,.bool true].toArray/\T'=mR xb s j:=by
 have o:=AP 198 jR zo xb s i (Nat.le_of_lt e) B R
 obtain⟨A,G,n⟩:=y i e
 have x:Lib.hasPrefix (s.extract i s.size).data.toList [45,62]=false:=by
  cases h:Lib.hasPrefix (s.extract i s.size).data.toList [45,62]with
  |false=>rfl
  |true=>
   obtain⟨c,d⟩:=yA h
   exact absurd d n
 have v:=tF e
 have D:two s i 45 62=false:=by
  unfold two
  simp[n]
 have r:(eW s i).toNat≠34:=λh=>A (by
  have:eW s i=UInt8.ofNat 34:=by rw[<-h];simp
  exact this)
 have C:nC s i=if jR (eW s i)=true then some (⟨1,s.extract i (run s jR i),i⟩,run s jR i)else if pG.contains (eW s i)=true then some (⟨3,s.extract i (i+1),i⟩,i+1)else none:=by
  simp only[nC,if_neg r,D,Bool.false_eq_true,if_false]
 rw[C]at a
 have p:=Qs (eW s i)
 have m:((eW s i).toNat:Int).toNat.toUInt8=eW s i:=by simp
 obtain⟨k,w⟩:∃k,k=run s jR i:=⟨_,rfl⟩
 rw[<-w]at o a
 refine Spec.body func155 rfl results155 ntmps155 rfl<|.sr ?_
 refine .bU (λE=>?_)
 refine .ag rfl<|.z<|.mo rfl<|.nc rfl<|.fa rfl<|.lo rfl ?_
 refine .q .cR ?_
 refine .bU (λF=>?_)
 refine .bP rfl rfl<|.zs<|.gd mixed (by kernel_rfl)<|.mo rfl<|.nc rfl<|.fa rfl<|.lo rfl<|.mo rfl<|.nc rfl<|.fa rfl<|.lo rfl<|.q (.cast (.ng i e) (by rw[v]))<|.ag rfl<|.zs<|.block<|.sr<|.mo rfl<|.ba (zo _ _) (λu b=>?_)
 subst b
 refine .az rfl<|.cond rfl (λc=>?_) λc=>?_
 rw[if_pos c]at a
 cases a
 refine .region<|.mo rfl<|.cr (R:=R) o (λu T' b=>?_)
 obtain⟨rfl,rfl⟩:=b
 refine .fa rfl<|.dz rfl rfl<|.fa rfl<|.dz rfl rfl<|.nil<|aX<|aw<|.sr<|.q (.aT rfl)<|.bP rfl rfl<|.az rfl ?_
 refine .ret (bj _ (.two (.fE rfl rfl) (.tmp rfl)) (aQ [2]) ?_)
 ·exact⟨_,rfl,rfl,rfl⟩
 rw[if_neg (by rw[c];simp)]at a
 refine .sr<|.mo rfl<|.q .bY<|.az rfl<|.cond rfl (λd=>?_) λd=>?_
 ·exact absurd d (by simp;omega)
 refine .seq<|.dm 9 mixed (by kernel_rfl) ?_
 conv=>arg 6;dsimp only[List.take]
 refine .mo rfl<|.nc rfl<|.fa rfl<|.lo rfl<|.mo rfl<|.nc rfl<|.fa rfl<|.lo rfl<|.q (.pJ i s.size ⟨_,rfl⟩ rfl (by omega) (Nat.le_refl _))<|.nil<|.ba (yO _ _ _) (λu b=>?_)
 subst b
 refine .az rfl<|.cond rfl (λl=>?_) λl=>?_
 ·exact absurd l (by rw[show(⟨#[45,62]⟩:ByteArray).data.toList=[45,62]from rfl,x];simp)
 refine .sr<|.mo rfl<|.ba (RJ _ _ _) (λu b=>?_)
 subst b
 refine .q .geq<|.az rfl<|.cond rfl (λf=>?_) λf=>?_
 have g:pG.contains (eW s i)=true:=by
  rw[<-p, <-m];exact f
 rw[if_pos g]at a
 cases a
 refine .seq<|.vx [0] [15,17] mixed ?_
 conv=>arg 3;simp only[take,rest,bM,aeo,aep]
 conv=>arg 5;simp only[take,rest,bM,aeo,aep]
 conv=>arg 9;simp only[take,rest,bM,aeo,aep]
 refine .tK 0 rfl .move<|.tK 1 rfl (.lG rfl)<|.tK 2 rfl (.fG rfl)<|.tK 3 rfl (.cm rfl)<|.tK 4 rfl .move<|.tK 5 rfl (.lG rfl)<|.tK 6 rfl (.fG rfl)<|.tK 7 rfl (.cm rfl)<|.tK 8 rfl .move<|.tK 9 rfl (.lG rfl)<|.tK 10 rfl (.fG rfl)<|.tK 11 rfl (.cm rfl)<|.take 12 rfl (.i64 ((i+1:Nat):Int) .add ⟨by omega,by omega,by omega⟩) (by kernel_rfl)<|.tK 13 rfl (.pJ (s:=s) i (i+1) ⟨_,rfl⟩ ⟨_,rfl⟩ (by omega) (by omega))<|.tO 14 rfl (.fieldAddr rfl)<|.sT 15 rfl<|.dz rfl rfl<|.nil<|Next.mod rfl<|.tK 16 rfl (.fG rfl)<|.sT 17 rfl<|.dz rfl rfl<|.nil<|Next.mod rfl<|RA.nil (by kernel_rfl)<|aw<|.region ?_
 conv=>arg 8;simp only[rest,bM,List.cons_append,List.nil_append]
 refine .mo rfl<|.nc rfl<|.fa rfl<|.lo rfl ?_
 refine .ia (i+1) .add ?_
 refine .nc rfl<|.fa rfl<|.dz rfl rfl<|.nil<|aX<|aw<|.sr<|.q (.aT rfl)<|.bP rfl rfl<|.az rfl ?_
 refine .ret (bj _ (.two (.fE rfl rfl) (.tmp rfl)) (aQ [2]) ?_)
 ·exact⟨_,rfl,rfl,rfl⟩
 ·have g:pG.contains (eW s i)=false:=by
   rw[<-p, <-m];exact f
  rw[if_neg (by rw[g];simp)]at a
  cases a
theorem Pl.skip{s:ByteArray}(b:Pl s){i:Nat}(a:i<=s.size):oo s i=run s gW i:=by
 rw[Qv a,if_neg]
 intro h
 unfold two at h
 simp only[Bool.and_eq_true,decide_eq_true_eq]at h
 exact(b _ (by omega)).2.1 h.1.2
theorem Nv(s:ByteArray)(W:s.size<=16384)(n:Pl s)(L:List eO)(D:qt s=some L)(R:ay):Spec prog 97 [.string s] R [] λu H'=>∃T,H'=[T]/\∃v,u=.tuple [v,.int .i64 0].toArray/\OS 291 3 eO.enc v L T:=by
 have F:nZ s (s.size+1) 0 []=some L:=D
 refine Spec.hB (H':=[[]]) (by simp)<|Spec.body func97 rfl results97 ntmps97 rfl<|.sr<|.ag rfl<|.ag rfl<|.zs<|.sr<|.mo rfl<|.q .ku<|.q .gtr<|.zn<|.cond rfl (λp=>?_) λp=>?_
 ·exact absurd p (by simp;omega)
 refine .kn<|.sr<|.mo rfl<|.q .cR ?_
 refine .cx rfl (λg=>?_)
 refine .ag rfl<|.z<|.az rfl<|.block<|.cF [(0,_),(4,_)] (X:=Nat×Nat×List eO×Value×ax) (λy=>y.2.1<=s.size/\y.2.2.1.length<=y.2.1/\nZ s y.1 y.2.1 y.2.2.1=some L/\OS 291 3 eO.enc y.2.2.2.1 y.2.2.1 y.2.2.2.2) (λy E=>(5,y.2.2.2.1)::E) (G:=[]) (λy G=>mR g s y.2.1::y.2.2.2.2::G) (λy=>y.1) (s.size+1,0,[],sZ,[]) ⟨Nat.zero_le _,Nat.le_refl _,F,OS.nil⟩ kE.c.c.c rH ?_
 rintro⟨f,i,l,v,T⟩ ⟨e,K,a,h⟩
 simp only at e K a h⊢
 obtain⟨H,I⟩:=pI e
 have N:=n.skip e
 obtain⟨b,rfl⟩:∃b,f=b+1:=by
  cases f with
  |zero=>rw[nZ]at a;cases a
  |succ f=>exact⟨f,rfl⟩
 rw[nZ,N]at a
 refine .block<|.sr<|.mo rfl<|.cr (R:=R) (Qu g s i e (by omega) n R) (λu w o=>?_)
 subst o
 obtain⟨k,J⟩:∃k,k=run s gW i:=⟨_,rfl⟩
 rw[<-J]at a H I⊢
 refine .zs<|.sr<|.mo rfl<|.nc rfl<|.fa rfl<|.lo rfl<|.mo rfl<|.q .ku<|.q .bY<|.zn<|.cond rfl (λd=>?_) λd=>?_
 have V:(k:Int)=s.size:=by simpa using d
 have m:k=s.size:=by omega
 rw[if_pos m]at a
 cases a
 refine .sr<|.mo rfl<|.ag rfl<|.az rfl<|.ret (aK (br (cI (br (bj _ (.two (.tmp rfl) (.tmp rfl)) (aQ [1]) ?_)))))
 ·exact⟨T,rfl,v,rfl,h⟩
 have m:¬k=s.size:=by
  intro B
  rw[B]at d
  simp at d
 rw[if_neg m]at a
 obtain⟨t,j,r,C⟩:∃t j,nC s k=some (t,j)/\nZ s b j (l++[t])=some L:=by
  cases hh:nC s k with
  |none=>rw[hh]at a;cases a
  |some x=>obtain⟨t,j⟩:=x;rw[hh]at a;exact⟨t,j,rfl,a⟩
 have M:=Rj (by omega) r
 refine .kn<|.sr<|.mo rfl<|.cr (R:=R) (NH g s k j t (by omega) (by omega) n r R) (λu w o=>?_)
 obtain⟨rfl,rfl⟩:=o
 refine .mo rfl<|.q .extract<|.q .extract ?_
 refine .bU (λU=>?_)
 refine .bP rfl rfl<|.ag rfl<|.zs<|.sr<|.mo rfl<|.q .not<|.zn<|.cU<|.kn<|.region<|.mo rfl<|.q (.aT rfl) ?_
 refine .dY (λS=>?_)
 refine .append h (RS.lits (xs:=[t]) rfl (by simp[eO.enc]) (by simp[eO.enc,aB])) (by simp only[List.length_singleton];omega) (λQ A O=>?_)
 refine .ag rfl<|.nil<|aX ?_
 ·exact bm (b,j,l++[t],Q,A) ⟨M.2,by simp only[List.length_append,List.length_singleton];omega,C,O⟩ (by simp only;omega) kE.c.c.c (aQ [2,2])
end Go.Proofs.YtdljmchhecoakaaGreat
