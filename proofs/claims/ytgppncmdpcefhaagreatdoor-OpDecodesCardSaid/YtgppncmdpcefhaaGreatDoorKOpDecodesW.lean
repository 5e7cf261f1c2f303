/- What the law 'OpDecodes' uses. No condition. -/
import Derived.Test.YtgppncmdpcefhaaGreatDoorKOpDecodesL
import Derived.Test.YtgppncmdpcefhaaGreatDoorKOpDecodesN
import Derived.Test.YtgppncmdpcefhaaGreatDoorKOpDecodesO
import Derived.Test.YtgppncmdpcefhaaGreatDoorKOpDecodesP
import Derived.Test.YtgppncmdpcefhaaGreatDoorKOpDecodesR
import Derived.Test.YtgppncmdpcefhaaGreatDoorKOpDecodesU
import Derived.Test.YtgppncmdpcefhaaGreatDoorKOpDecodesV
namespace Go.Proofs.YtgppncmdpcefhaaGreatDoor
set_option linter.defProp false
def ac6:=@List.length_append
def ac7:=@List.length_nil
open Tryz
set_option linter.unusedVariables false
set_option linter.unusedSimpArgs false
set_option maxRecDepth 4000
theorem A3(b:Nat)(xs:List UInt8)(T:ay)(h:cT b xs T)(i:xs.length<=1000000)(p:Option Addr)(c:Nat)(R:aC):Spec prog 72 [pT b,.slice p 0 c,.func (.func 24) #[] #[]] R [T] λu H'=>∃T',H'=[T']/\cT b (xs++put 0) T':=by
 refine Spec.body func72 rfl results72 ntmps72 rfl ?_
 refine .sr<|.mo rfl<|.mo rfl<|.q (.eR rfl) ?_
 refine .q (.dQ (a:=0) rfl (by decide)) ?_
 refine .aQ (ey b xs T h 0 (by decide) (by omega) _) (λu d g=>?_)
 obtain⟨rfl,f⟩:=g
 refine .z<|.mo rfl<|.q (.eR rfl) ?_
 refine .mo rfl<|.zn<|.block ?_
 refine .loop (X:=Unit) (λ_=>True) (λ_=>[(14,.int .i64 ((0:Nat):Int)),(15,.int .i64 0)]) (λ_=>[d]) (λ_=>0) () trivial kE.c.c rH ?_
 rintro⟨⟩ _
 refine .sr<|.q .lss<|.zs ?_
 refine .cond rfl (λe=>?_) λe=>?_
 ·exfalso;simp at e
 refine .exit<|aT<|aW<|aU<|cz _ .none (.one [0] _) ?_
 ·exact⟨d,by simp[take],f⟩
theorem A5(b:Nat)(xs:List UInt8)(T:ay)(h:cT b xs T)(i:xs.length<=1000000)(p:Option Addr)(c:Nat)(R:aC):Spec prog 75 [pT b,.slice p 0 c,.func (.func 78) #[] #[]] R [T] λu H'=>∃T',H'=[T']/\cT b (xs++put 0) T':=by
 refine Spec.body func75 rfl results75 ntmps75 rfl ?_
 refine .sr<|.mo rfl<|.mo rfl<|.q (.eR rfl) ?_
 refine .q (.dQ (a:=0) rfl (by decide)) ?_
 refine .aQ (ey b xs T h 0 (by decide) (by omega) _) (λu d g=>?_)
 obtain⟨rfl,f⟩:=g
 refine .z<|.mo rfl<|.q (.eR rfl) ?_
 refine .mo rfl<|.zn<|.block ?_
 refine .loop (X:=Unit) (λ_=>True) (λ_=>[(14,.int .i64 ((0:Nat):Int)),(15,.int .i64 0)]) (λ_=>[d]) (λ_=>0) () trivial kE.c.c rH ?_
 rintro⟨⟩ _
 refine .sr<|.q .lss<|.zs ?_
 refine .cond rfl (λe=>?_) λe=>?_
 ·exfalso;simp at e
 refine .exit<|aT<|aW<|aU<|cz _ .none (.one [0] _) ?_
 ·exact⟨d,by simp[take],f⟩
theorem A4(b:Nat)(xs:List UInt8)(T:ay)(h:cT b xs T)(i:xs.length<=1000000)(p:Option Addr)(c:Nat)(R:aC):Spec prog 79 [pT b,.slice p 0 c,.func (.func 81) #[] #[]] R [T] λu H'=>∃T',H'=[T']/\cT b (xs++put 0) T':=by
 refine Spec.body func79 rfl results79 ntmps79 rfl ?_
 refine .sr<|.mo rfl<|.mo rfl<|.q (.eR rfl) ?_
 refine .q (.dQ (a:=0) rfl (by decide)) ?_
 refine .aQ (ey b xs T h 0 (by decide) (by omega) _) (λu d g=>?_)
 obtain⟨rfl,f⟩:=g
 refine .z<|.mo rfl<|.q (.eR rfl) ?_
 refine .mo rfl<|.zn<|.block ?_
 refine .loop (X:=Unit) (λ_=>True) (λ_=>[(14,.int .i64 ((0:Nat):Int)),(15,.int .i64 0)]) (λ_=>[d]) (λ_=>0) () trivial kE.c.c rH ?_
 rintro⟨⟩ _
 refine .sr<|.q .lss<|.zs ?_
 refine .cond rfl (λe=>?_) λe=>?_
 ·exfalso;simp at e
 refine .exit<|aT<|aW<|aU<|cz _ .none (.one [0] _) ?_
 ·exact⟨d,by simp[take],f⟩
theorem A7(b:Nat)(xs:List UInt8)(T:ay)(h:cT b xs T)(i:xs.length<=1000000)(p:Option Addr)(c:Nat)(R:aC):Spec prog 84 [pT b,.slice p 0 c,.func (.func 86) #[] #[]] R [T] λu H'=>∃T',H'=[T']/\cT b (xs++put 0) T':=by
 refine Spec.body func84 rfl results84 ntmps84 rfl ?_
 refine .sr<|.mo rfl<|.mo rfl<|.q (.eR rfl) ?_
 refine .q (.dQ (a:=0) rfl (by decide)) ?_
 refine .aQ (ey b xs T h 0 (by decide) (by omega) _) (λu d g=>?_)
 obtain⟨rfl,f⟩:=g
 refine .z<|.mo rfl<|.q (.eR rfl) ?_
 refine .mo rfl<|.zn<|.block ?_
 refine .loop (X:=Unit) (λ_=>True) (λ_=>[(14,.int .i64 ((0:Nat):Int)),(15,.int .i64 0)]) (λ_=>[d]) (λ_=>0) () trivial kE.c.c rH ?_
 rintro⟨⟩ _
 refine .sr<|.q .lss<|.zs ?_
 refine .cond rfl (λe=>?_) λe=>?_
 ·exfalso;simp at e
 refine .exit<|aT<|aW<|aU<|cz _ .none (.one [0] _) ?_
 ·exact⟨d,by simp[take],f⟩
theorem A6(b:Nat)(xs:List UInt8)(T:ay)(h:cT b xs T)(i:xs.length<=1000000)(p:Option Addr)(c:Nat)(R:aC):Spec prog 88 [pT b,.slice p 0 c,.func (.func 90) #[] #[]] R [T] λu H'=>∃T',H'=[T']/\cT b (xs++put 0) T':=by
 refine Spec.body func88 rfl results88 ntmps88 rfl ?_
 refine .sr<|.mo rfl<|.mo rfl<|.q (.eR rfl) ?_
 refine .q (.dQ (a:=0) rfl (by decide)) ?_
 refine .aQ (ey b xs T h 0 (by decide) (by omega) _) (λu d g=>?_)
 obtain⟨rfl,f⟩:=g
 refine .z<|.mo rfl<|.q (.eR rfl) ?_
 refine .mo rfl<|.zn<|.block ?_
 refine .loop (X:=Unit) (λ_=>True) (λ_=>[(14,.int .i64 ((0:Nat):Int)),(15,.int .i64 0)]) (λ_=>[d]) (λ_=>0) () trivial kE.c.c rH ?_
 rintro⟨⟩ _
 refine .sr<|.q .lss<|.zs ?_
 refine .cond rfl (λe=>?_) λe=>?_
 ·exfalso;simp at e
 refine .exit<|aT<|aW<|aU<|cz _ .none (.one [0] _) ?_
 ·exact⟨d,by simp[take],f⟩
theorem A8(b:Nat)(xs:List UInt8)(T:ay)(h:cT b xs T)(i:xs.length<=1000000)(p:Option Addr)(c:Nat)(R:aC):Spec prog 92 [pT b,.slice p 0 c,.func (.func 94) #[] #[]] R [T] λu H'=>∃T',H'=[T']/\cT b (xs++put 0) T':=by
 refine Spec.body func92 rfl results92 ntmps92 rfl ?_
 refine .sr<|.mo rfl<|.mo rfl<|.q (.eR rfl) ?_
 refine .q (.dQ (a:=0) rfl (by decide)) ?_
 refine .aQ (ey b xs T h 0 (by decide) (by omega) _) (λu d g=>?_)
 obtain⟨rfl,f⟩:=g
 refine .z<|.mo rfl<|.q (.eR rfl) ?_
 refine .mo rfl<|.zn<|.block ?_
 refine .loop (X:=Unit) (λ_=>True) (λ_=>[(14,.int .i64 ((0:Nat):Int)),(15,.int .i64 0)]) (λ_=>[d]) (λ_=>0) () trivial kE.c.c rH ?_
 rintro⟨⟩ _
 refine .sr<|.q .lss<|.zs ?_
 refine .cond rfl (λe=>?_) λe=>?_
 ·exfalso;simp at e
 refine .exit<|aT<|aW<|aU<|cz _ .none (.one [0] _) ?_
 ·exact⟨d,by simp[take],f⟩
theorem Cb(R:aC):Spec prog 106 [] R [] λu H'=>∃T,H'=[T]/\∃b,u=pT b/\T=(bl b [.bool true,sZ,.int .i64 0] 253):=by
 refine Spec.body func106 rfl results106 ntmps106 rfl ?_
 refine .sr<|.ag rfl<|.z ?_
 refine .q .ek ?_
 refine .cQ rfl (λa=>?_)
 refine .az rfl ?_
 refine .ret (bb _ (.one (.tmp rfl)) (.one [0] _) ?_)
 ·exact⟨_,rfl,_,rfl,rfl⟩
theorem pj(b:Nat)(R:aC) [pc:PC R (pT b) [.bool true,sZ,.int .i64 0]]:Spec prog 164 [pT b] R [] λu H'=>u=.bool true/\H'=[]:=by
 refine Spec.body func164 rfl results164 ntmps164 rfl ?_
 refine .sr<|.ag rfl<|.z<|.mo rfl<|.q (.hN rfl rfl) ?_
 refine .mo rfl<|.gt rfl ?_
 refine .mo rfl<|.gt rfl ?_
 refine .nc rfl<|.gt rfl ?_
 refine .fa rfl<|.gt rfl ?_
 refine .lo rfl<|.q .eX<|.az rfl ?_
 refine .ret (cf rfl ?_)
 ·exact⟨rfl,rfl⟩
theorem B9(b:Nat)(R:aC) [pc:PC R (pT b) [.bool true,sZ,.int .i64 0]]:Spec prog 91 [pT b] R [] λu H'=>u=.int .i64 0/\H'=[]:=by
 refine Spec.body func91 rfl results91 ntmps91 rfl ?_
 refine .sr<|.ag rfl<|.zs<|.sr<|.mo rfl ?_
 refine .bx (pj b _) (λv a=>?_)
 subst a
 refine .q .not<|.zn<|.bB<|.kn<|.sr<|.mo rfl<|.nc rfl<|.fa rfl<|.lo rfl<|.az rfl ?_
 refine .ret (cf rfl ?_)
 ·exact⟨rfl,rfl⟩
theorem Ca(b:Nat)(R:aC) [pc:PC R (pT b) [.bool true,sZ,.int .i64 0]]:Spec prog 93 [pT b] R [] λu H'=>u=sZ/\H'=[]:=by
 refine Spec.body func93 rfl results93 ntmps93 rfl ?_
 refine .sr<|.ag rfl<|.zs<|.sr<|.mo rfl ?_
 refine .bx (pj b _) (λv d=>?_)
 subst d
 refine .q .not<|.zn<|.bB<|.kn<|.sr<|.ag rfl<|.zs<|.sr<|.mo rfl<|.nc rfl<|.fa rfl<|.lo rfl<|.q (.eR rfl) ?_
 refine .mo rfl<|.zn<|.block ?_
 refine .loop (X:=Unit) (λ_=>True) (λ_=>[(3,sZ),(13,.int .i64 ((0:Nat):Int)),(14,.int .i64 0)]) (λ_=>[]) (λ_=>0) () trivial kE.c.c.c rH ?_
 rintro⟨⟩ _
 refine .sr<|.q .lss<|.zs ?_
 refine .cond rfl (λa=>?_) λa=>?_
 ·exfalso;simp at a
 refine .exit<|aT<|aW<|aU<|aI<|.sr<|.mo rfl<|.az rfl ?_
 refine .ret (cf rfl ?_)
 ·exact⟨rfl,rfl⟩
theorem np(q a b c:Nat)(R:aC) [pc:PC R (pT q) [pT a,pT b,pT c]]:Spec prog 56 [pT q] R [] λu H'=>u=.bool true/\H'=[]:=by
 refine Spec.body func56 rfl results56 ntmps56 rfl ?_
 refine .sr<|.ag rfl<|.z<|.mo rfl<|.q (.hN rfl rfl) ?_
 refine .mo rfl<|.gt rfl ?_
 refine .mo rfl<|.gt rfl ?_
 refine .nc rfl<|.gt rfl ?_
 refine .fa rfl<|.gt rfl ?_
 refine .lo rfl<|.gt rfl ?_
 refine .q (.mV rfl rfl) ?_
 refine .q .eX<|.az rfl ?_
 refine .ret (cf rfl ?_)
 ·exact⟨rfl,rfl⟩
theorem Cf(q a b c:Nat)(R:aC) [pc:PC R (pT q) [pT a,pT b,pT c]]:Spec prog 17 [pT q] R [] λu H'=>u=pT a/\H'=[]:=by
 refine Spec.body func17 rfl results17 ntmps17 rfl ?_
 refine .sr<|.ag rfl<|.zs<|.sr<|.mo rfl ?_
 refine .bx (np q a b c _) (λv d=>?_)
 subst d
 refine .q .not<|.zn<|.bB<|.kn<|.sr<|.mo rfl<|.nc rfl<|.fa rfl<|.lo rfl<|.az rfl ?_
 refine .ret (cf rfl ?_)
 ·exact⟨rfl,rfl⟩
theorem Bf(R:aC):Spec prog 54 [] R [] λu H'=>∃Tq Ta Tb Tc,H'=[Tq,Ta,Tb,Tc]/\∃q a b c,u=pT q/\Tq=(bl q [pT a,pT b,pT c] 51)/\CI a [] [] [] [] 0 0 Ta/\SI b ⟨[],0,0⟩ Tb/\Tc=(bl c [.bool true,sZ,.int .i64 0] 253):=by
 refine Spec.body func54 rfl results54 ntmps54 rfl ?_
 refine .sr<|.ag rfl<|.z ?_
 refine .bY (A9 _) (λu Ta d=>?_)
 obtain⟨a,rfl,e⟩:=d
 refine .bY (B7 _) (λu Tb d=>?_)
 obtain⟨b,rfl,f⟩:=d
 refine .bY (Cb _) (λu Tc d=>?_)
 obtain⟨c,rfl,g⟩:=d
 refine .q .ek ?_
 refine .cQ rfl (λh=>?_)
 refine .az rfl ?_
 refine .ret (bb _ (.one (.tmp rfl)) (cw [0,2,1,0]) ?_)
 ·exact⟨_,_,_,_,rfl,_,a,b,c,rfl,rfl,e,f,g⟩
def mX:dJ:=⟨1,7,⟨⟨#[]⟩,⟨#[]⟩,[],[]⟩,⟨#[]⟩,⟨#[]⟩,⟨#[]⟩,⟨#[]⟩,[],⟨#[]⟩,⟨#[]⟩,[],[],[],[],[],0⟩
abbrev py(q a b c:Nat):ay:=(bl q [pT a,pT b,pT c] 51)
theorem Bd(e:Int)(R:aC):Spec prog 57 [.int .i64 e] R [] λu H'=>u=.agg [.string ⟨#[]⟩,.string ⟨#[]⟩,.int .u64 0,.int .i64 e].toArray/\H'=[]:=by
 refine Spec.body func57 rfl results57 ntmps57 rfl ?_
 refine .sr ?_
 refine .dM (λa=>?_)
 refine .z<|.mo rfl ?_
 refine .q .ek ?_
 refine .dA rfl rfl<|.zn ?_
 refine .ret (bb _ (.one (.gd rfl rfl)) (.none _) ?_)
 ·exact⟨rfl,rfl⟩
theorem Bg(q a b c:Nat)(f e:ay)(j:CI a [] [] [] [] 0 0 f)(k:SI b ⟨[],0,0⟩ e)(R:aC):Spec prog 16 [pT q,.agg (dX jz mX).toArray] R [py q a b c,f,e] λu H'=>∃Ta',H'=[py q a b c,Ta',e]/\u=.agg [.string ⟨#[]⟩,.string ⟨#[]⟩,.int .u64 0,.int .i64 0].toArray/\CI a [] [] [] [] 0 7 Ta':=by
 obtain⟨A,B,C,t,w,m⟩:=k.view (R:=sg e) λp s=>s
 have z:cB (dX jz mX):=⟨ft.dx (R:=λ_ _=>False) ⟨⟨rfl,rfl,RS.eW,RS.eW⟩,RS.eW,RS.eW,RS.eW,RS.eW,RS.eW,RS.eW⟩⟩
 refine Spec.body func16 rfl results16 ntmps16 rfl ?_
 refine .sr ?_
 refine .cQ rfl (λx=>?_)
 refine .dM (λy=>?_)
 refine .zs<|.sr<|.mo rfl ?_
 refine .bx (np q a b c _) (λv d=>?_)
 subst d
 refine .q .not<|.zn<|.bB<|.kn<|.seq<|.bN [] mixed ?_
 refine .tO 0 rfl .move<|.tO 1 rfl (.nilCheck rfl)<|.tO 2 rfl (.fieldAddr rfl)<|.tO 3 rfl (.cj rfl)<|.tO 4 rfl .move<|.tO 5 rfl (.nilCheck rfl)<|.tO 6 rfl (.fieldAddr rfl)<|.tO 7 rfl (.cj rfl) ?_
 refine .sT 8 rfl ?_
 refine .bx (m.mono λb o n=>.inr (by have r:(b,o)∈e:=n;simp[r])).head (λv d=>?_)
 subst d
 refine .nil (Next.sub ?_)
 refine .tO 9 rfl .assign<|.tO 10 rfl .assign ?_
 refine RA.nil (by kernel_rfl) ?_
 refine aI<|.seq<|.sr<|.fa rfl<|.lo rfl<|.zn<|.block<|.sr<|.q (.cast (v':=.bool true) .cL rfl) ?_
 refine .az rfl<|.jj<|.sr<|.mo rfl<|.fa rfl<|.lo rfl ?_
 refine .aQ (Bm a [] [] [] [] 0 0 f j (by decide) (by decide) 7 _) (λv h d=>?_)
 obtain⟨rfl,_,g⟩:=d
 have i:fT 7 0=0:=by decide
 rw[i]at g⊢
 obtain⟨_,l⟩:=g rfl
 refine .bx (Bd _ _) (λv d=>?_)
 subst d
 refine .dA rfl rfl<|.zn ?_
 refine .ret (bu (bq (bb _ (.one (.gd rfl rfl)) (cw [2,2,2]) ?_)))
 ·exact⟨h,rfl,rfl,l⟩
theorem A1(q a:Nat)(b c d:Value)(R:aC) [pc:PC R (pT q) [pT a,b,c,d]]:Spec prog 73 [pT q] R [] λv H'=>v=pT a/\H'=[]:=by
 refine Spec.body func73 rfl results73 ntmps73 rfl ?_
 refine .sr<|.ag rfl<|.zs<|.sr<|.mo rfl ?_
 refine .bx (kw q a b c d _) (λv e=>?_)
 subst e
 refine .q .not<|.zn<|.bB<|.kn<|.sr<|.mo rfl<|.nc rfl<|.fa rfl<|.lo rfl<|.az rfl ?_
 refine .ret (cf rfl ?_)
 ·exact⟨rfl,rfl⟩
theorem oM(q a g:Nat)(b d:Value)(R:aC) [pc:PC R (pT q) [pT a,b,pT g,d]]:Spec prog 82 [pT q] R [] λv H'=>v=pT g/\H'=[]:=by
 refine Spec.body func82 rfl results82 ntmps82 rfl ?_
 refine .sr<|.ag rfl<|.zs<|.sr<|.mo rfl ?_
 refine .bx (kw q a b _ d _) (λv c=>?_)
 subst c
 refine .q .not<|.zn<|.bB<|.kn<|.sr<|.mo rfl<|.nc rfl<|.fa rfl<|.lo rfl<|.az rfl ?_
 refine .ret (cf rfl ?_)
 ·exact⟨rfl,rfl⟩
theorem oE{α β:Type}{f:α->β}{l:List α}(h:(l.map f).Perm []):l=[]:=by
 have:=h.length_eq
 simpa using this
theorem Bb(q a b c:Nat)(m n:ay)(Y:CI a [] [] [] [] 0 7 m)(Z:SI b ⟨[],0,0⟩ n)(R:aC)(hq:PC R (pT q) [pT a,pT b,pT c])(h:∀p∈m,R p.1 p.2)(rb:∀p∈n,R p.1 p.2)(hc:PC R (pT c) [.bool true,sZ,.int .i64 0]):
  Spec prog 20 [pT q] R [] λu H'=>∃T,H'=[T]/\∃xs:List UInt8,OS 5 1 bZ u xs T/\0<xs.length:=by
 obtain⟨ps,vf,vr,Mf,Mr,l⟩:=Z.view (R:=R) rb
 obtain⟨g,i,j,Q,r,s,rfl,hR,t,A⟩:=Y
 have pa:PC R (pT a) [pT g,pT i,pT j,.int .i64 7]:=PC.of (E:=178) (fr:=(0,0)) (h _ (List.mem_cons_self))
 have p0:=ja (x:=0) (by decide)
 have p7:=ja (x:=7) (by decide)
 have q7:=oQ 7
 refine Spec.body func20 rfl results20 ntmps20 rfl ?_
 refine .sr<|.ag rfl<|.zs<|.sr<|.mo rfl ?_
 refine .bx (np q a b c _) (λv d=>?_)
 subst d
 refine .q .not<|.zn<|.bB<|.kn<|.sr ?_
 refine .bY (pP _) (λu B e=>?_)
 obtain⟨w,rfl,b0⟩:=e
 refine .ag rfl<|.z<|.mo rfl<|.mo rfl<|.nc rfl<|.fa rfl<|.lo rfl ?_
 refine .bx (oI a g _ _ _ _) (λv d=>?_)
 subst d
 refine .q (.dQ (a:=7) rfl (by decide)) ?_
 refine .aQ (ey w _ B b0 7 (by decide) (by simp) _) (λu C e=>?_)
 obtain⟨rfl,b1⟩:=e
 refine .z<|.mo rfl<|.mo rfl<|.nc rfl<|.fa rfl<|.lo rfl ?_
 refine .bx (A1 a g _ _ _ _) (λv d=>?_)
 subst d
 refine .bY (qq g [] Q hR (by simp) _ (λp f=>.inl (h p (by simp[f])))) (λu D1 e=>?_)
 obtain⟨l1,Do,Di,rfl,a0,_,c2,_⟩:=e
 obtain rfl:=oE c2
 obtain⟨S,k1,rfl,_⟩:=a0.shape
 refine .aQ (A3 w _ C b1 (by simp only[ac6,ac7];omega) S k1 _) (λu H b4=>?_)
 refine .z<|.mo rfl<|.mo rfl<|.nc rfl<|.fa rfl<|.lo rfl ?_
 refine .bx (oF a g i _ _ _) (λv d=>?_)
 subst d
 refine .bY (Av i [] [] r t (by simp) (by simp) _ (λp f=>.inl (h p (by simp[f])))) (λu D2 e=>?_)
 obtain⟨l2,d0,c7,rfl,a6,_,c3,_⟩:=e
 obtain rfl:=oE c3
 obtain⟨U,k2,rfl,_⟩:=a6.shape
 refine .aQ (A5 w _ H b4 (by simp only[ac6,ac7];omega) U k2 _) (λu I b5=>?_)
 refine .z<|.mo rfl<|.mo rfl<|.nc rfl<|.fa rfl<|.lo rfl ?_
 refine .bx (oF a g i _ _ _) (λv d=>?_)
 subst d
 refine .bY (Au i [] [] r t (by simp) _ (λp f=>.inl (h p (by simp[f])))) (λu D3 e=>?_)
 obtain⟨l3,d1,c8,rfl,a7,_,c4,_⟩:=e
 obtain rfl:l3=[]:=by have:=c4.length_eq;simpa[kf,ld]using this
 obtain⟨V,k3,rfl,_⟩:=a7.shape
 refine .aQ (A4 w _ I b5 (by simp only[ac6,ac7];omega) V k3 _) (λu J b6=>?_)
 refine .z<|.mo rfl<|.mo rfl<|.nc rfl<|.fa rfl<|.lo rfl ?_
 refine .bx (oM a g j _ _ _) (λv d=>?_)
 subst d
 refine .bx (CH j [] 0 s A _ (λp f=>.inl (h p (by simp[f])))) (λv d=>?_)
 subst d
 refine .q (.dQ (a:=0) rfl (by decide)) ?_
 refine .aQ (ey w _ J b6 0 (by decide) (by simp only[ac6,ac7];omega) _) (λu K e=>?_)
 obtain⟨rfl,b7⟩:=e
 refine .z<|.mo rfl<|.mo rfl<|.nc rfl<|.fa rfl<|.lo rfl ?_
 refine .bx (oM a g j _ _ _) (λv d=>?_)
 subst d
 refine .bY (CJ j [] 0 s A (by simp) _ (λp f=>.inl (h p (by simp[f])))) (λu D4 e=>?_)
 obtain⟨l4,d2,c9,rfl,a8,_,c5,_⟩:=e
 obtain rfl:l4=[]:=by have:=c5.length_eq;simpa[kv,lV]using this
 obtain⟨W,k4,rfl,_⟩:=a8.shape
 refine .aQ (A7 w _ K b7 (by simp only[ac6,ac7];omega) W k4 _) (λu L b8=>?_)
 refine .zs<|.bN [6,12] mixed ?_
 refine .tO 0 rfl .move<|.tO 1 rfl .move<|.tO 2 rfl (.nilCheck rfl)<|.tO 3 rfl (.fieldAddr rfl)<|.tO 4 rfl (.cj rfl)<|.tK 7 rfl .move ?_
 refine .tK 8 rfl (.mW rfl) ?_
 refine .tK 9 rfl (.ee rfl) ?_
 refine .tK 10 rfl (.cj rfl) ?_
 refine .sT 5 rfl ?_
 refine .bx (l.mono λb o k=>.inl k).head (λv d=>?_)
 subst d
 refine .nil (Next.sub ?_)
 refine .sT 6 rfl ?_
 refine .aQ (ey w _ L b8 0 (by decide) (by simp only[ac6,ac7];omega) _) (λu M e=>?_)
 obtain⟨rfl,b9⟩:=e
 refine .nil (Next.mod rfl ?_)
 refine .sT 11 rfl ?_
 refine .bx (l.mono λb o k=>.inl k).AH (λv d=>?_)
 subst d
 refine .nil (Next.mod rfl ?_)
 refine .sT 12 rfl ?_
 refine .aQ (ey w _ M b9 0 (by decide) (by simp only[ac6,ac7];omega) _) (λu N e=>?_)
 obtain⟨rfl,c0⟩:=e
 refine .nil (Next.mod rfl ?_)
 refine RA.nil (by kernel_rfl) ?_
 refine aI<|.sr<|.mo rfl<|.mo rfl<|.nc rfl<|.fa rfl<|.lo rfl ?_
 refine .bY (BK (l.mono λb o k=>.inl k) (by simp)) (λu D5 e=>?_)
 obtain⟨l5,a9,c6,_⟩:=e
 obtain rfl:l5=[]:=List.Perm.eq_nil c6
 obtain⟨X,k5,rfl,_⟩:=a9.shape
 refine .aQ (A6 w _ N c0 (by simp only[ac6,ac7];omega) X k5 _) (λu O c1=>?_)
 refine .z<|.mo rfl<|.mo rfl<|.nc rfl<|.fa rfl<|.lo rfl ?_
 refine .bx (B9 c _) (λv d=>?_)
 subst d
 refine .q (.dQ (a:=0) rfl (by decide)) ?_
 refine .aQ (ey w _ O c1 0 (by decide) (by simp only[ac6,ac7];omega) _) (λu D e=>?_)
 obtain⟨rfl,b2⟩:=e
 refine .z<|.mo rfl<|.mo rfl<|.nc rfl<|.fa rfl<|.lo rfl ?_
 refine .bx (Ca c _) (λv d=>?_)
 subst d
 refine .aQ (A8 w _ D b2 (by simp only[ac6,ac7];omega) none 0 _) (λu F b3=>?_)
 refine .z<|.mo rfl ?_
 refine .bY (pN w _ F b3 (by simp only[ac6,ac7];omega) _ (λp f=>.inr (by simp[f]))) (λu G y=>?_)
 have iO:=y.aF
 refine .az rfl ?_
 refine .ret (bb _ (.one (.tmp rfl)) (.one [0] _) ?_)
 ·exact⟨G,by simp[take],_,y,by simp only[ac6,ac7];omega⟩
theorem Be(R:aC):Spec prog 13 [] R [] λu H'=>u=.bool true/\H'=[]:=by
 refine Spec.body func13 rfl results13 ntmps13 rfl ?_
 refine .sr<|.ag rfl<|.z ?_
 refine .call [] (Bf _) (λu H' d=>?_)
 obtain⟨A,l,h,w,rfl,q,a,b,c,rfl,rfl,o,k,rfl⟩:=d
 conv=>arg 8;simp only[rest,bM,List.cons_append,List.nil_append]
 refine .ag rfl<|.zs<|.sr<|.mo rfl<|.q (.qT rfl rfl) ?_
 refine .mo rfl<|.gt rfl ?_
 refine .mo rfl<|.gt rfl ?_
 refine .q (.ek (out:=dX jz mX) rfl rfl) ?_
 refine .gt rfl ?_
 refine .call [0,0,0] (Bg q a b c l h o k _) (λu H' d=>?_)
 obtain⟨g,rfl,rfl,j⟩:=d
 conv=>arg 8;simp only[rest,bM,List.cons_append,List.nil_append]
 obtain⟨i,m,n,x,y,B,s,_⟩:=id j
 have D:PS g (pT a) [pT i,pT m,pT n,.int .i64 7]:=PS.of (E:=178) (fr:=(0,0)) (by rw[s];simp)
 refine .gt rfl ?_
 refine .q (.Ai underlying53 rfl rfl nR rfl) ?_
 refine .gt rfl ?_
 refine .q (.cast (v':=.bool false) .eS rfl) ?_
 refine .q .iE<|.zn<|.bB<|.kn<|.sr<|.mo rfl ?_
 refine .bx (Cf q a b c _) (λv f=>?_)
 subst f
 refine .bx (oI a i _ _ _ _) (λv f=>?_)
 subst f
 refine .q (.cast (v':=.bool true) .cL rfl) ?_
 refine .mo rfl<|.gt rfl ?_
 refine .mo rfl<|.gt rfl ?_
 refine .bY (Bb q a b c g h j k _ (PC.of (E:=51) (fr:=(0,0)) (.inr (by simp))) (λp e=>.inr (by simp[e])) (λp e=>.inr (by simp[e])) (PC.of (E:=253) (fr:=(0,0)) (.inr (by simp)))) (λu t d=>?_)
 obtain⟨F,r,C⟩:=d
 refine .gt rfl ?_
 refine .q (.gL r) ?_
 refine .gt rfl ?_
 refine .q .gtr<|.q .eX<|.az rfl ?_
 refine .ret (cf rfl ?_)
 ·exact⟨congrArg Value.bool (decide_eq_true (by omega)),rfl⟩
end Go.Proofs.YtgppncmdpcefhaaGreatDoor
