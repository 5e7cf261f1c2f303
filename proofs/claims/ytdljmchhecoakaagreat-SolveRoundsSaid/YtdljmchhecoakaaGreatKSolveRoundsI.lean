/- What the law 'SolveRounds' uses. No condition. -/
import Derived.Test.YtdljmchhecoakaaGreatKSolveRoundsA
import Derived.Test.YtdljmchhecoakaaGreatKSolveRoundsB
import Derived.Test.YtdljmchhecoakaaGreatKSolveRoundsE
import Derived.Test.YtdljmchhecoakaaGreatKSolveRoundsG
import Derived.Test.YtdljmchhecoakaaGreatKSolveRoundsH
namespace Go.Proofs.YtdljmchhecoakaaGreat
set_option linter.defProp false
def adF:=@congrArg
def adG:=@List.getD_cons_zero
def adH:=@List.getD_cons_succ
open Tryz
set_option linter.unusedVariables false
set_option linter.unusedSimpArgs false
set_option maxRecDepth 4000
theorem sF{s:ByteArray}{n:Nat}(h:n<s.size):s[n]=dZ s n:=by
 unfold dZ
 have a:n<s.data.size:=h
 rw[Array.getD_eq_getD_getElem?,Array.getElem?_eq_getElem a]
 rfl
theorem xQ(c:UInt8)(R:aw):Spec prog 198 [.int .u8 (c.toNat:Int)] R [] λu H'=>u=.bool (jc c)/\H'=[]:=by
 have d:jc c=((decide (97<=c.toNat)&&decide (c.toNat<=122))||(decide (65<=c.toNat)&&decide (c.toNat<=90))||(decide (48<=c.toNat)&&decide (c.toNat<=57))||decide (c.toNat=95)):=rfl
 generalize jc c=r at *
 generalize c.toNat=n at *
 refine Spec.body func198 rfl results198 ntmps198 rfl<|.sr<|.ag rfl<|.z<|.mo rfl<|.q .geq<|.mo rfl<|.split (t:=5) rfl (λh=>?_) (λh=>?_)
 refine .gT h<|.mo rfl<|.gT h<|.q .leq<|.q (.bx h)<|.mo rfl<|.split (t:=9) rfl (λg=>?_) (λg=>?_)
 refine .gF g<|.gF g<|.gF g<|.gn rfl<|.gn rfl<|.gF g<|.q (.bx g)<|.mo rfl<|.gX<|.gX<|.gX<|.gn rfl<|.gn rfl<|.gX<|.q .dO<|.mo rfl<|.gX<|.gX<|.q .dO<|.az rfl<|.ret (aY rfl ?_)
 ·refine⟨adF _ ?_,rfl⟩
  rw[d]
  clear d
  grind
 refine .gT g<|.mo rfl<|.gT g<|.q .geq<|.gT g<|.mo rfl<|.split (t:=12) rfl (λf=>?_) (λf=>?_)
 refine .gT f<|.mo rfl<|.gT f<|.q .leq<|.gT g<|.q (.bx f)<|.q (.bs g)<|.mo rfl<|.split (t:=17) rfl (λe=>?_) (λe=>?_)
 refine .gF e<|.gF e<|.gF e<|.gn rfl<|.gn rfl<|.gF e<|.q (.bx e)<|.mo rfl<|.gX<|.gX<|.q .dO<|.az rfl<|.ret (aY rfl ?_)
 ·refine⟨adF _ ?_,rfl⟩
  rw[d]
  clear d
  grind
 refine .gT e<|.mo rfl<|.gT e<|.q .geq<|.gT e<|.mo rfl<|.split (t:=20) rfl (λa=>?_) (λa=>?_)
 refine .gT a<|.mo rfl<|.gT a<|.q .leq<|.gT e<|.q (.bx a)<|.q (.bs e)<|.mo rfl<|.split (t:=25) rfl (λb=>?_) (λb=>?_)
 refine .gF b<|.gF b<|.q (.bx b)<|.az rfl<|.ret (aY rfl ?_)
 ·refine⟨adF _ ?_,rfl⟩
  rw[d]
  clear d
  grind
 refine .gT b<|.mo rfl<|.gT b<|.q .cr<|.q (.bs b)<|.az rfl<|.ret (aY rfl ?_)
 ·refine⟨adF _ ?_,rfl⟩
  rw[d]
  clear d
  grind
 refine .gF a<|.gF a<|.gT e<|.q (.bs a)<|.q (.bs e)<|.mo rfl<|.gt rfl<|.mo rfl<|.gt rfl<|.q .cr<|.q .dG<|.az rfl<|.ret (aY rfl ?_)
 ·refine⟨adF _ ?_,rfl⟩
  rw[d]
  clear d
  grind
 refine .gF f<|.gF f<|.gT g<|.q (.bs f)<|.q (.bs g)<|.mo rfl<|.gt rfl<|.mo rfl<|.gt rfl<|.q .geq<|.gt rfl<|.mo rfl<|.split (t:=20) rfl (λa=>?_) (λa=>?_)
 refine .gT a<|.mo rfl<|.gT a<|.q .leq<|.gt rfl<|.q (.bx a)<|.q .dG<|.mo rfl<|.split (t:=25) rfl (λb=>?_) (λb=>?_)
 refine .gF b<|.gF b<|.q (.bx b)<|.az rfl<|.ret (aY rfl ?_)
 ·refine⟨adF _ ?_,rfl⟩
  rw[d]
  clear d
  grind
 refine .gT b<|.mo rfl<|.gT b<|.q .cr<|.q (.bs b)<|.az rfl<|.ret (aY rfl ?_)
 ·refine⟨adF _ ?_,rfl⟩
  rw[d]
  clear d
  grind
 refine .gF a<|.gF a<|.gt rfl<|.q (.bs a)<|.q .dG<|.mo rfl<|.gt rfl<|.mo rfl<|.gt rfl<|.q .cr<|.q .dG<|.az rfl<|.ret (aY rfl ?_)
 ·refine⟨adF _ ?_,rfl⟩
  rw[d]
  clear d
  grind
 refine .gF h<|.gF h<|.q (.bs h)<|.mo rfl<|.gt rfl<|.mo rfl<|.gt rfl<|.q .geq<|.gt rfl<|.mo rfl<|.split (t:=12) rfl (λf=>?_) (λf=>?_)
 refine .gT f<|.mo rfl<|.gT f<|.q .leq<|.gt rfl<|.q (.bx f)<|.q .dG<|.mo rfl<|.split (t:=17) rfl (λe=>?_) (λe=>?_)
 refine .gF e<|.gF e<|.gF e<|.gn rfl<|.gn rfl<|.gF e<|.q (.bx e)<|.mo rfl<|.gX<|.gX<|.q .dO<|.az rfl<|.ret (aY rfl ?_)
 ·refine⟨adF _ ?_,rfl⟩
  rw[d]
  clear d
  grind
 refine .gT e<|.mo rfl<|.gT e<|.q .geq<|.gT e<|.mo rfl<|.split (t:=20) rfl (λa=>?_) (λa=>?_)
 refine .gT a<|.mo rfl<|.gT a<|.q .leq<|.gT e<|.q (.bx a)<|.q (.bs e)<|.mo rfl<|.split (t:=25) rfl (λb=>?_) (λb=>?_)
 refine .gF b<|.gF b<|.q (.bx b)<|.az rfl<|.ret (aY rfl ?_)
 ·refine⟨adF _ ?_,rfl⟩
  rw[d]
  clear d
  grind
 refine .gT b<|.mo rfl<|.gT b<|.q .cr<|.q (.bs b)<|.az rfl<|.ret (aY rfl ?_)
 ·refine⟨adF _ ?_,rfl⟩
  rw[d]
  clear d
  grind
 refine .gF a<|.gF a<|.gT e<|.q (.bs a)<|.q (.bs e)<|.mo rfl<|.gt rfl<|.mo rfl<|.gt rfl<|.q .cr<|.q .dG<|.az rfl<|.ret (aY rfl ?_)
 ·refine⟨adF _ ?_,rfl⟩
  rw[d]
  clear d
  grind
 refine .gF f<|.gF f<|.gt rfl<|.q (.bs f)<|.q .dG<|.mo rfl<|.gt rfl<|.mo rfl<|.gt rfl<|.q .geq<|.gt rfl<|.mo rfl<|.split (t:=20) rfl (λa=>?_) (λa=>?_)
 refine .gT a<|.mo rfl<|.gT a<|.q .leq<|.gt rfl<|.q (.bx a)<|.q .dG<|.mo rfl<|.split (t:=25) rfl (λb=>?_) (λb=>?_)
 refine .gF b<|.gF b<|.q (.bx b)<|.az rfl<|.ret (aY rfl ?_)
 ·refine⟨adF _ ?_,rfl⟩
  rw[d]
  clear d
  grind
 refine .gT b<|.mo rfl<|.gT b<|.q .cr<|.q (.bs b)<|.az rfl<|.ret (aY rfl ?_)
 ·refine⟨adF _ ?_,rfl⟩
  rw[d]
  clear d
  grind
 refine .gF a<|.gF a<|.gt rfl<|.q (.bs a)<|.q .dG<|.mo rfl<|.gt rfl<|.mo rfl<|.gt rfl<|.q .cr<|.q .dG<|.az rfl<|.ret (aY rfl ?_)
 ·refine⟨adF _ ?_,rfl⟩
  rw[d]
  clear d
  grind
theorem A5(c:UInt8)(R:aw):Spec prog 195 [.int .u8 (c.toNat:Int)] R [] λu H'=>u=.bool (fZ c)/\H'=[]:=by
 have a:fZ c=(decide (c.toNat=32)||decide (c.toNat=9)||decide (c.toNat=10)||decide (c.toNat=13)):=rfl
 generalize fZ c=r at *
 generalize c.toNat=n at *
 refine Spec.body func195 rfl results195 ntmps195 rfl<|.sr<|.ag rfl<|.z<|.mo rfl<|.q .cr<|.mo rfl<|.split (t:=5) rfl (λd=>?_) (λd=>?_)
 refine .gF d<|.gF d<|.q (.bx d)<|.mo rfl<|.gX<|.gX<|.q .dO<|.mo rfl<|.gX<|.gX<|.q .dO<|.az rfl<|.ret (aY rfl ?_)
 ·refine⟨adF _ ?_,rfl⟩
  rw[a]
  clear a
  grind
 refine .gT d<|.mo rfl<|.gT d<|.q .cr<|.q (.bs d)<|.mo rfl<|.split (t:=9) rfl (λe=>?_) (λe=>?_)
 refine .gF e<|.gF e<|.q (.bx e)<|.mo rfl<|.gX<|.gX<|.q .dO<|.az rfl<|.ret (aY rfl ?_)
 ·refine⟨adF _ ?_,rfl⟩
  rw[a]
  clear a
  grind
 refine .gT e<|.mo rfl<|.gT e<|.q .cr<|.q (.bs e)<|.mo rfl<|.split (t:=13) rfl (λb=>?_) (λb=>?_)
 refine .gF b<|.gF b<|.q (.bx b)<|.az rfl<|.ret (aY rfl ?_)
 ·refine⟨adF _ ?_,rfl⟩
  rw[a]
  clear a
  grind
 refine .gT b<|.mo rfl<|.gT b<|.q .cr<|.q (.bs b)<|.az rfl<|.ret (aY rfl ?_)
 ·refine⟨adF _ ?_,rfl⟩
  rw[a]
  clear a
  grind
abbrev lX(xb:Nat)(s:ByteArray)(i:Nat):ap:=(bl xb [.string s,iN i] 289)
theorem zu(f:FuncId) [e:aP prog f](p:UInt8->Bool)(A:∀(c:UInt8) (R:aw),Spec prog f [.int .u8 (c.toNat:Int)] R [] λu H'=>u=.bool (p c)/\H'=[])(xb:Nat)(s:ByteArray)(i:Nat)(B:i<=s.size)(H:s.size<=1000000)(R:aw):
  Spec prog 194 [pT xb,.func (.func f) #[] #[]] R [lX xb s i] λu H'=>∃T',H'=[T']/\u=.string (s.extract i (run s p i))/\T'=lX xb s (run s p i):=by
 have v:=λj (h:kK s p i j)=>h.run
 refine Spec.body func194 rfl results194 ntmps194 rfl<|.sr<|.ag rfl<|.z<|.mo rfl<|.nc rfl<|.fa rfl<|.lo rfl<|.ag rfl<|.zs<|.block<|.cX [(0,_),(1,_),(5,_)] (X:=Nat) (λj=>i<=j/\j<=s.size/\∀k,i<=k->k<j->p (dZ s k)=true) (λj E=>E) (G:=[]) (λj G=>lX xb s j::G) (λj=>s.size-j) i ⟨Nat.le_refl _,B,λk d w=>absurd w (by omega)⟩ kE.c.c.c rH ?_
 rintro j ⟨l,b,o⟩
 refine .seq<|.seq<|.dd 21 mixed (by kernel_rfl) ?_
 conv=>arg 6;dsimp only[List.take]
 refine .mo rfl<|.nc rfl<|.fa rfl<|.lo rfl<|.mo rfl<|.nc rfl<|.fa rfl<|.lo rfl<|.q .od<|.q .lss<|.mo rfl<|.split (t:=20) rfl (λa=>?_) (λa=>?_)
 have m:j<s.size:=by have:=bV a;omega
 have y:=sF m
 refine .gT a<|.mo rfl<|.gT a<|.mo rfl<|.gT a<|.nc rfl<|.gT a<|.fa rfl<|.gT a<|.lo rfl<|.gT a<|.mo rfl<|.gT a<|.nc rfl<|.gT a<|.fa rfl<|.gT a<|.lo rfl<|.gT a<|.q (.qT j m)<|.nil<|.gT a<|.fw (first:=[]) (captured:=[]) (vs:=[.int .u8 ((s[j]'m).toNat:Int)]) (A _ _) (λu D=>?_)
 subst D
 rw[y]
 refine .q (.bx a)<|.zn<|.cond rfl (λd=>?_) λd=>?_
 have C:p (dZ s j)=true:=d
 refine .kn<|.block<|.region<|.mo rfl<|.nc rfl<|.fa rfl<|.lo rfl ?_
 refine .ia (j+1) .add ?_
 refine .nc rfl<|.fa rfl<|.du rfl rfl<|.nil<|bg ?_
 ·exact bu (j+1) ⟨by omega,m,λk x F=>by
   rcases Nat.lt_or_ge k j with h7|h7
   ·exact o k x h7
   ·obtain rfl:k=j:=by omega
    exact C⟩ (by omega) kE.c.c.c rH
 have n:kK s p i j:=⟨l,b,o,by
  first
   |exact .inl (Nat.le_antisymm b r)
   |exact .inr d⟩
 have g:=v j n
 refine .exit<|br<|bz<|bw<|aB<|.seq<|.iA mixed (by kernel_rfl)<|.mo rfl<|.nc rfl<|.fa rfl<|.lo rfl<|.mo rfl<|.mo rfl<|.nc rfl<|.fa rfl<|.lo rfl<|.q (.lg i j ⟨_,rfl⟩ ⟨_,rfl⟩ l b)<|.az rfl<|.ret (bm _ (.one (.tmp rfl)) rH ?_)
 ·exact⟨_,rfl,by rw[<-g],by rw[<-g]⟩
 have r:s.size<=j:=by have:=bK a;omega
 refine .gF a<|.gF a<|.gF a<|.gF a<|.gF a<|.gF a<|.gF a<|.gF a<|.gF a<|.gF a<|.nil<|.gF a<|.q (.bs a)<|.zn<|.di ?_
 have n:kK s p i j:=⟨l,b,o,by
  first
   |exact .inl (Nat.le_antisymm b r)
   |exact .inr d⟩
 have g:=v j n
 refine .exit<|br<|bz<|bw<|aB<|.seq<|.iA mixed (by kernel_rfl)<|.mo rfl<|.nc rfl<|.fa rfl<|.lo rfl<|.mo rfl<|.mo rfl<|.nc rfl<|.fa rfl<|.lo rfl<|.q (.lg i j ⟨_,rfl⟩ ⟨_,rfl⟩ l b)<|.az rfl<|.ret (bm _ (.one (.tmp rfl)) rH ?_)
 ·exact⟨_,rfl,by rw[<-g],by rw[<-g]⟩
def Pl(s:ByteArray):Prop:=∀k,k<s.size->dZ s k≠34/\dZ s k≠47/\dZ s k≠45
theorem xh{s:ByteArray}{j:Nat}{c:UInt8}{l:List UInt8}(h:Lib.hasPrefix (s.extract j s.size).data.toList (c::l)=true):j<s.size/\dZ s j=c:=by
 have e:(s.extract j s.size).data.toList=s.data.toList.drop j:=by
  simp[ByteArray.data_extract]
  rw[List.take_of_length_le]
  simp
 rw[e]at h
 unfold Lib.hasPrefix at h
 cases hd:s.data.toList.drop j with
 |nil=>rw[hd]at h;simp at h
 |cons b r=>
  rw[hd]at h
  have f:j<s.data.toList.length:=by
   rcases Nat.lt_or_ge j s.data.toList.length with h1|h1
   ·exact h1
   ·rw[List.drop_eq_nil_of_le h1]at hd;cases hd
  have a:s.data.toList[j]=b:=by
   rw[List.drop_eq_getElem_cons f]at hd
   injection hd
  have g:s.data.toList.length=s.size:=by simp
  refine⟨by omega,?_⟩
  have d:b=c:=by simp at h;exact h.1.symm
  rw[<-sF (by omega), <-d, <-a]
  rfl
theorem xu(s p:ByteArray)(R:aw):Spec prog 196 [.string s,.string p] R [] λv H'=>v=.bool (Lib.hasPrefix s.data.toList p.data.toList)/\H'=[]:=
 Spec.rA (NB s p) R
theorem Na(xb:Nat)(s:ByteArray)(i:Nat)(d:i<=s.size)(m:s.size<=1000000)(k:Pl s)(R:aw):Spec prog 154 [pT xb] R [lX xb s i] λ_ H'=>∃T',H'=[T']/\T'=lX xb s (run s fZ i):=by
 obtain⟨n,f⟩:=oJ d
 have g:Lib.hasPrefix (s.extract (run s fZ i) s.size).data.toList [47,47]=false:=by
  cases h:Lib.hasPrefix (s.extract (run s fZ i) s.size).data.toList [47,47]with
  |false=>rfl
  |true=>
   obtain⟨a,e⟩:=xh h
   exact absurd e (k _ a).2.1
 have l:=zu 195 fZ A5 xb s i d m R
 generalize run s fZ i=j at *
 refine Spec.body func154 rfl results154 ntmps154 rfl<|.block<|.cX [(0,_)] (X:=Unit) (λ_=>True) (λ_ E=>E) (G:=[lX xb s i]) (λ_ G=>G) (λ_=>0) () trivial kE.c rH ?_
 rintro _ _
 refine .block<|.sr<|.mo rfl<|.bQ (R:=R) l (λu T' b=>?_)
 obtain⟨rfl,rfl⟩:=b
 refine .zs<|.seq<|.dd 9 mixed (by kernel_rfl) ?_
 conv=>arg 6;dsimp only[List.take]
 refine .mo rfl<|.nc rfl<|.fa rfl<|.lo rfl<|.mo rfl<|.nc rfl<|.fa rfl<|.lo rfl<|.q (.lg j s.size ⟨_,rfl⟩ rfl f (Nat.le_refl _))<|.nil<|.bj (xu _ _ _) (λu b=>?_)
 subst b
 refine .q .not<|.zn<|.cond rfl (λa=>?_) λa=>?_
 refine .ret (ba (bF (dm (bF (bm _ .none rH ?_)))))
 ·exact⟨_,rfl,rfl⟩
 ·exact absurd a (by rw[show(⟨#[47,47]⟩:ByteArray).data.toList=[47,47]from rfl,g];simp)
theorem M8(c:UInt8):decide (0<=Lib.indexByte [123,125,59,58,61,124,38,45,40,41,35,44] c)=oI.contains c:=by
 have e:∀k:Fin 256,decide (0<=Lib.indexByte [123,125,59,58,61,124,38,45,40,41,35,44] (UInt8.ofNat k.val))=oI.contains (UInt8.ofNat k.val):=by decide+kernel
 have h:=e ⟨c.toNat,c.toNat_lt⟩
 simpa using h
theorem N8(s:ByteArray)(c:Int)(R:aw):Spec prog 200 [.string s,.int .u8 c] R [] λv H'=>v=.int .i64 (Lib.indexByte s.data.toList c.toNat.toUInt8)/\H'=[]:=by
 refine Spec.body func200 rfl results200 ntmps200 rfl<|.sr<|.ag rfl<|.z<|.mo rfl<|.mo rfl<|.bj (Spec.rA (NC s c) _) (λv a=>?_)
 subst a
 refine .az rfl<|.ret (aY rfl ?_)
 ·exact⟨rfl,rfl⟩
def dY.enc(t:dY):List Value:=[.int .i64 t.kind,.string t.text,iN t.pos]
instance dY.one(t:dY):cv t.enc:=⟨by simp[dY.enc,aC]⟩
theorem Kq(xb:Nat)(s:ByteArray)(i j:Nat)(t:dY)(e:i<s.size)(B:s.size<=1000000)(y:Pl s)(a:mP s i=some (t,j))(R:aw):Spec prog 155 [pT xb] R [lX xb s i] λu H'=>∃T',H'=[T']/\u=.tuple [.agg t.enc.toArray,.bool true].toArray/\T'=lX xb s j:=by
 have o:=zu 198 jc xQ xb s i (Nat.le_of_lt e) B R
 obtain⟨A,G,n⟩:=y i e
 have x:Lib.hasPrefix (s.extract i s.size).data.toList [45,62]=false:=by
  cases h:Lib.hasPrefix (s.extract i s.size).data.toList [45,62]with
  |false=>rfl
  |true=>
   obtain⟨c,d⟩:=xh h
   exact absurd d n
 have v:=sF e
 have D:two s i 45 62=false:=by
  unfold two
  simp[n]
 have r:(dZ s i).toNat≠34:=λh=>A (by
  have:dZ s i=UInt8.ofNat 34:=by rw[<-h];simp
  exact this)
 have C:mP s i=if jc (dZ s i)=true then some (⟨1,s.extract i (run s jc i),i⟩,run s jc i)else if oI.contains (dZ s i)=true then some (⟨3,s.extract i (i+1),i⟩,i+1)else none:=by
  simp only[mP,if_neg r,D,Bool.false_eq_true,if_false]
 rw[C]at a
 have p:=M8 (dZ s i)
 have m:((dZ s i).toNat:Int).toNat.toUInt8=dZ s i:=by simp
 obtain⟨k,w⟩:∃k,k=run s jc i:=⟨_,rfl⟩
 rw[<-w]at o a
 refine Spec.body func155 rfl results155 ntmps155 rfl<|.sr ?_
 refine .bT (λE=>?_)
 refine .ag rfl<|.z<|.mo rfl<|.nc rfl<|.fa rfl<|.lo rfl ?_
 refine .q .cD ?_
 refine .bT (λF=>?_)
 refine .bP rfl rfl<|.zs<|.iA mixed (by kernel_rfl)<|.mo rfl<|.nc rfl<|.fa rfl<|.lo rfl<|.mo rfl<|.nc rfl<|.fa rfl<|.lo rfl<|.q (.cast (.qT i e) (by rw[v]))<|.ag rfl<|.zs<|.block<|.sr<|.mo rfl<|.bj (xQ _ _) (λu b=>?_)
 subst b
 refine .az rfl<|.cond rfl (λc=>?_) λc=>?_
 rw[if_pos c]at a
 cases a
 refine .region<|.mo rfl<|.bQ (R:=R) o (λu T' b=>?_)
 obtain⟨rfl,rfl⟩:=b
 refine .fa rfl<|.du rfl rfl<|.fa rfl<|.du rfl rfl<|.nil<|bg<|aB<|.sr<|.q (.aU rfl)<|.bP rfl rfl<|.az rfl ?_
 refine .ret (bm _ (.two (.fH rfl rfl) (.tmp rfl)) (aT [2]) ?_)
 ·exact⟨_,rfl,rfl,rfl⟩
 rw[if_neg (by rw[c];simp)]at a
 refine .sr<|.mo rfl<|.q .cr<|.az rfl<|.cond rfl (λd=>?_) λd=>?_
 ·exact absurd d (by simp;omega)
 refine .seq<|.dd 9 mixed (by kernel_rfl) ?_
 conv=>arg 6;dsimp only[List.take]
 refine .mo rfl<|.nc rfl<|.fa rfl<|.lo rfl<|.mo rfl<|.nc rfl<|.fa rfl<|.lo rfl<|.q (.lg i s.size ⟨_,rfl⟩ rfl (by omega) (Nat.le_refl _))<|.nil<|.bj (xu _ _ _) (λu b=>?_)
 subst b
 refine .az rfl<|.cond rfl (λl=>?_) λl=>?_
 ·exact absurd l (by rw[show(⟨#[45,62]⟩:ByteArray).data.toList=[45,62]from rfl,x];simp)
 refine .sr<|.mo rfl<|.bj (N8 _ _ _) (λu b=>?_)
 subst b
 refine .q .geq<|.az rfl<|.cond rfl (λf=>?_) λf=>?_
 have g:oI.contains (dZ s i)=true:=by
  rw[<-p, <-m];exact f
 rw[if_pos g]at a
 cases a
 refine .seq<|.tX [0] [15,17] mixed ?_
 conv=>arg 3;simp only[take,rest,bJ,adG,adH]
 conv=>arg 5;simp only[take,rest,bJ,adG,adH]
 conv=>arg 9;simp only[take,rest,bJ,adG,adH]
 refine .tK 0 rfl .move<|.tK 1 rfl (.lO rfl)<|.tK 2 rfl (.eH rfl)<|.tK 3 rfl (.bU rfl)<|.tK 4 rfl .move<|.tK 5 rfl (.lO rfl)<|.tK 6 rfl (.eH rfl)<|.tK 7 rfl (.bU rfl)<|.tK 8 rfl .move<|.tK 9 rfl (.lO rfl)<|.tK 10 rfl (.eH rfl)<|.tK 11 rfl (.bU rfl)<|.take 12 rfl (.i64 ((i+1:Nat):Int) .add ⟨by omega,by omega,by omega⟩) (by kernel_rfl)<|.tK 13 rfl (.lg (s:=s) i (i+1) ⟨_,rfl⟩ ⟨_,rfl⟩ (by omega) (by omega))<|.tO 14 rfl (.fieldAddr rfl)<|.sT 15 rfl<|.du rfl rfl<|.nil<|Next.mod rfl<|.tK 16 rfl (.eH rfl)<|.sT 17 rfl<|.du rfl rfl<|.nil<|Next.mod rfl<|RA.nil (by kernel_rfl)<|aB<|.region ?_
 conv=>arg 8;simp only[rest,bJ,List.cons_append,List.nil_append]
 refine .mo rfl<|.nc rfl<|.fa rfl<|.lo rfl ?_
 refine .ia (i+1) .add ?_
 refine .nc rfl<|.fa rfl<|.du rfl rfl<|.nil<|bg<|aB<|.sr<|.q (.aU rfl)<|.bP rfl rfl<|.az rfl ?_
 refine .ret (bm _ (.two (.fH rfl rfl) (.tmp rfl)) (aT [2]) ?_)
 ·exact⟨_,rfl,rfl,rfl⟩
 ·have g:oI.contains (dZ s i)=false:=by
   rw[<-p, <-m];exact f
  rw[if_neg (by rw[g];simp)]at a
  cases a
theorem Pl.skip{s:ByteArray}(b:Pl s){i:Nat}(a:i<=s.size):nI s i=run s fZ i:=by
 rw[Nb a,if_neg]
 intro h
 unfold two at h
 simp only[Bool.and_eq_true,decide_eq_true_eq]at h
 exact(b _ (by omega)).2.1 h.1.2
theorem Kh(s:ByteArray)(W:s.size<=16384)(n:Pl s)(L:List dY)(D:oh s=some L)(R:aw):Spec prog 97 [.string s] R [] λu H'=>∃T,H'=[T]/\∃v,u=.tuple [v,.int .i64 0].toArray/\OS 291 3 dY.enc v L T:=by
 have F:na s (s.size+1) 0 []=some L:=D
 refine Spec.jg (H':=[[]]) (by simp)<|Spec.body func97 rfl results97 ntmps97 rfl<|.sr<|.ag rfl<|.ag rfl<|.zs<|.sr<|.mo rfl<|.q .od<|.q .gtr<|.zn<|.cond rfl (λp=>?_) λp=>?_
 ·exact absurd p (by simp;omega)
 refine .kn<|.sr<|.mo rfl<|.q .cD ?_
 refine .cm rfl (λg=>?_)
 refine .ag rfl<|.z<|.az rfl<|.block<|.cX [(0,_),(4,_)] (X:=Nat×Nat×List dY×Value×ap) (λy=>y.2.1<=s.size/\y.2.2.1.length<=y.2.1/\na s y.1 y.2.1 y.2.2.1=some L/\OS 291 3 dY.enc y.2.2.2.1 y.2.2.1 y.2.2.2.2) (λy E=>(5,y.2.2.2.1)::E) (G:=[]) (λy G=>lX g s y.2.1::y.2.2.2.2::G) (λy=>y.1) (s.size+1,0,[],sZ,[]) ⟨Nat.zero_le _,Nat.le_refl _,F,OS.nil⟩ kE.c.c.c rH ?_
 rintro⟨f,i,l,v,T⟩ ⟨e,K,a,h⟩
 simp only at e K a h⊢
 obtain⟨H,I⟩:=oJ e
 have N:=n.skip e
 obtain⟨b,rfl⟩:∃b,f=b+1:=by
  cases f with
  |zero=>rw[na]at a;cases a
  |succ f=>exact⟨f,rfl⟩
 rw[na,N]at a
 refine .block<|.sr<|.mo rfl<|.bQ (R:=R) (Na g s i e (by omega) n R) (λu w o=>?_)
 subst o
 obtain⟨k,J⟩:∃k,k=run s fZ i:=⟨_,rfl⟩
 rw[<-J]at a H I⊢
 refine .zs<|.sr<|.mo rfl<|.nc rfl<|.fa rfl<|.lo rfl<|.mo rfl<|.q .od<|.q .cr<|.zn<|.cond rfl (λd=>?_) λd=>?_
 have V:(k:Int)=s.size:=by simpa using d
 have m:k=s.size:=by omega
 rw[if_pos m]at a
 cases a
 refine .sr<|.mo rfl<|.ag rfl<|.az rfl<|.ret (ba (bF (dm (bF (bm _ (.two (.tmp rfl) (.tmp rfl)) (aT [1]) ?_)))))
 ·exact⟨T,rfl,v,rfl,h⟩
 have m:¬k=s.size:=by
  intro B
  rw[B]at d
  simp at d
 rw[if_neg m]at a
 obtain⟨t,j,r,C⟩:∃t j,mP s k=some (t,j)/\na s b j (l++[t])=some L:=by
  cases hh:mP s k with
  |none=>rw[hh]at a;cases a
  |some x=>obtain⟨t,j⟩:=x;rw[hh]at a;exact⟨t,j,rfl,a⟩
 have M:=NU (by omega) r
 refine .kn<|.sr<|.mo rfl<|.bQ (R:=R) (Kq g s k j t (by omega) (by omega) n r R) (λu w o=>?_)
 obtain⟨rfl,rfl⟩:=o
 refine .mo rfl<|.q .extract<|.q .extract ?_
 refine .bT (λU=>?_)
 refine .bP rfl rfl<|.ag rfl<|.zs<|.sr<|.mo rfl<|.q .not<|.zn<|.di<|.kn<|.region<|.mo rfl<|.q (.aU rfl) ?_
 refine .dV (λS=>?_)
 refine .append h (RS.lits (xs:=[t]) rfl (by simp[dY.enc]) (by simp[dY.enc,aC])) (by simp only[List.length_singleton];omega) (λQ A O=>?_)
 refine .ag rfl<|.nil<|bg ?_
 ·exact bu (b,j,l++[t],Q,A) ⟨M.2,by simp only[List.length_append,List.length_singleton];omega,C,O⟩ (by simp only;omega) kE.c.c.c (aT [2,2])
end Go.Proofs.YtdljmchhecoakaaGreat
