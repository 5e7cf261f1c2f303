/- What the law 'OpCodes' uses. No condition. -/
import Derived.Test.YtgppncmdpcefhaaGreatDoorKOpCodesL
import Derived.Test.YtgppncmdpcefhaaGreatDoorKOpCodesN
import Derived.Test.YtgppncmdpcefhaaGreatDoorKOpCodesO
import Derived.Test.YtgppncmdpcefhaaGreatDoorKOpCodesP
import Derived.Test.YtgppncmdpcefhaaGreatDoorKOpCodesR
import Derived.Test.YtgppncmdpcefhaaGreatDoorKOpCodesU
import Derived.Test.YtgppncmdpcefhaaGreatDoorKOpCodesV
namespace Go.Proofs.YtgppncmdpcefhaaGreatDoor
set_option linter.defProp false
def adg:=@List.length_append
def adh:=@List.length_nil
open Tryz
set_option linter.unusedVariables false
set_option linter.unusedSimpArgs false
set_option maxRecDepth 4000
theorem CY(b:Nat)(xs:List UInt8)(T:ax)(h:de b xs T)(i:xs.length<=1000000)(p:Option Addr)(c:Nat)(R:aC):Spec prog 72 [pT b,.slice p 0 c,.func (.func 24) #[] #[]] R [T] λu H'=>∃T',H'=[T']/\de b (xs++put 0) T':=by
 refine Spec.body func72 rfl results72 ntmps72 rfl ?_
 refine .sr<|.mo rfl<|.mo rfl<|.q (.fg rfl) ?_
 refine .q (.dX (a:=0) rfl (by decide)) ?_
 refine .aR (eH b xs T h 0 (by decide) (by omega) _) (λu d g=>?_)
 obtain⟨rfl,f⟩:=g
 refine .z<|.mo rfl<|.q (.fg rfl) ?_
 refine .mo rfl<|.zn<|.block ?_
 refine .loop (X:=Unit) (λ_=>True) (λ_=>[(14,.int .i64 ((0:Nat):Int)),(15,.int .i64 0)]) (λ_=>[d]) (λ_=>0) () trivial kE.c.c rH ?_
 rintro⟨⟩ _
 refine .sr<|.q .lss<|.zs ?_
 refine .cond rfl (λe=>?_) λe=>?_
 ·exfalso;simp at e
 refine .exit<|aU<|aY<|aW<|cF _ .none (.one [0] _) ?_
 ·exact⟨d,by simp[take],f⟩
theorem C0(b:Nat)(xs:List UInt8)(T:ax)(h:de b xs T)(i:xs.length<=1000000)(p:Option Addr)(c:Nat)(R:aC):Spec prog 75 [pT b,.slice p 0 c,.func (.func 78) #[] #[]] R [T] λu H'=>∃T',H'=[T']/\de b (xs++put 0) T':=by
 refine Spec.body func75 rfl results75 ntmps75 rfl ?_
 refine .sr<|.mo rfl<|.mo rfl<|.q (.fg rfl) ?_
 refine .q (.dX (a:=0) rfl (by decide)) ?_
 refine .aR (eH b xs T h 0 (by decide) (by omega) _) (λu d g=>?_)
 obtain⟨rfl,f⟩:=g
 refine .z<|.mo rfl<|.q (.fg rfl) ?_
 refine .mo rfl<|.zn<|.block ?_
 refine .loop (X:=Unit) (λ_=>True) (λ_=>[(14,.int .i64 ((0:Nat):Int)),(15,.int .i64 0)]) (λ_=>[d]) (λ_=>0) () trivial kE.c.c rH ?_
 rintro⟨⟩ _
 refine .sr<|.q .lss<|.zs ?_
 refine .cond rfl (λe=>?_) λe=>?_
 ·exfalso;simp at e
 refine .exit<|aU<|aY<|aW<|cF _ .none (.one [0] _) ?_
 ·exact⟨d,by simp[take],f⟩
theorem CZ(b:Nat)(xs:List UInt8)(T:ax)(h:de b xs T)(i:xs.length<=1000000)(p:Option Addr)(c:Nat)(R:aC):Spec prog 79 [pT b,.slice p 0 c,.func (.func 81) #[] #[]] R [T] λu H'=>∃T',H'=[T']/\de b (xs++put 0) T':=by
 refine Spec.body func79 rfl results79 ntmps79 rfl ?_
 refine .sr<|.mo rfl<|.mo rfl<|.q (.fg rfl) ?_
 refine .q (.dX (a:=0) rfl (by decide)) ?_
 refine .aR (eH b xs T h 0 (by decide) (by omega) _) (λu d g=>?_)
 obtain⟨rfl,f⟩:=g
 refine .z<|.mo rfl<|.q (.fg rfl) ?_
 refine .mo rfl<|.zn<|.block ?_
 refine .loop (X:=Unit) (λ_=>True) (λ_=>[(14,.int .i64 ((0:Nat):Int)),(15,.int .i64 0)]) (λ_=>[d]) (λ_=>0) () trivial kE.c.c rH ?_
 rintro⟨⟩ _
 refine .sr<|.q .lss<|.zs ?_
 refine .cond rfl (λe=>?_) λe=>?_
 ·exfalso;simp at e
 refine .exit<|aU<|aY<|aW<|cF _ .none (.one [0] _) ?_
 ·exact⟨d,by simp[take],f⟩
theorem C2(b:Nat)(xs:List UInt8)(T:ax)(h:de b xs T)(i:xs.length<=1000000)(p:Option Addr)(c:Nat)(R:aC):Spec prog 84 [pT b,.slice p 0 c,.func (.func 86) #[] #[]] R [T] λu H'=>∃T',H'=[T']/\de b (xs++put 0) T':=by
 refine Spec.body func84 rfl results84 ntmps84 rfl ?_
 refine .sr<|.mo rfl<|.mo rfl<|.q (.fg rfl) ?_
 refine .q (.dX (a:=0) rfl (by decide)) ?_
 refine .aR (eH b xs T h 0 (by decide) (by omega) _) (λu d g=>?_)
 obtain⟨rfl,f⟩:=g
 refine .z<|.mo rfl<|.q (.fg rfl) ?_
 refine .mo rfl<|.zn<|.block ?_
 refine .loop (X:=Unit) (λ_=>True) (λ_=>[(14,.int .i64 ((0:Nat):Int)),(15,.int .i64 0)]) (λ_=>[d]) (λ_=>0) () trivial kE.c.c rH ?_
 rintro⟨⟩ _
 refine .sr<|.q .lss<|.zs ?_
 refine .cond rfl (λe=>?_) λe=>?_
 ·exfalso;simp at e
 refine .exit<|aU<|aY<|aW<|cF _ .none (.one [0] _) ?_
 ·exact⟨d,by simp[take],f⟩
theorem C1(b:Nat)(xs:List UInt8)(T:ax)(h:de b xs T)(i:xs.length<=1000000)(p:Option Addr)(c:Nat)(R:aC):Spec prog 88 [pT b,.slice p 0 c,.func (.func 90) #[] #[]] R [T] λu H'=>∃T',H'=[T']/\de b (xs++put 0) T':=by
 refine Spec.body func88 rfl results88 ntmps88 rfl ?_
 refine .sr<|.mo rfl<|.mo rfl<|.q (.fg rfl) ?_
 refine .q (.dX (a:=0) rfl (by decide)) ?_
 refine .aR (eH b xs T h 0 (by decide) (by omega) _) (λu d g=>?_)
 obtain⟨rfl,f⟩:=g
 refine .z<|.mo rfl<|.q (.fg rfl) ?_
 refine .mo rfl<|.zn<|.block ?_
 refine .loop (X:=Unit) (λ_=>True) (λ_=>[(14,.int .i64 ((0:Nat):Int)),(15,.int .i64 0)]) (λ_=>[d]) (λ_=>0) () trivial kE.c.c rH ?_
 rintro⟨⟩ _
 refine .sr<|.q .lss<|.zs ?_
 refine .cond rfl (λe=>?_) λe=>?_
 ·exfalso;simp at e
 refine .exit<|aU<|aY<|aW<|cF _ .none (.one [0] _) ?_
 ·exact⟨d,by simp[take],f⟩
theorem C3(b:Nat)(xs:List UInt8)(T:ax)(h:de b xs T)(i:xs.length<=1000000)(p:Option Addr)(c:Nat)(R:aC):Spec prog 92 [pT b,.slice p 0 c,.func (.func 94) #[] #[]] R [T] λu H'=>∃T',H'=[T']/\de b (xs++put 0) T':=by
 refine Spec.body func92 rfl results92 ntmps92 rfl ?_
 refine .sr<|.mo rfl<|.mo rfl<|.q (.fg rfl) ?_
 refine .q (.dX (a:=0) rfl (by decide)) ?_
 refine .aR (eH b xs T h 0 (by decide) (by omega) _) (λu d g=>?_)
 obtain⟨rfl,f⟩:=g
 refine .z<|.mo rfl<|.q (.fg rfl) ?_
 refine .mo rfl<|.zn<|.block ?_
 refine .loop (X:=Unit) (λ_=>True) (λ_=>[(14,.int .i64 ((0:Nat):Int)),(15,.int .i64 0)]) (λ_=>[d]) (λ_=>0) () trivial kE.c.c rH ?_
 rintro⟨⟩ _
 refine .sr<|.q .lss<|.zs ?_
 refine .cond rfl (λe=>?_) λe=>?_
 ·exfalso;simp at e
 refine .exit<|aU<|aY<|aW<|cF _ .none (.one [0] _) ?_
 ·exact⟨d,by simp[take],f⟩
theorem Eh(R:aC):Spec prog 106 [] R [] λu H'=>∃T,H'=[T]/\∃b,u=pT b/\T=(bl b [.bool true,sZ,.int .i64 0] 253):=by
 refine Spec.body func106 rfl results106 ntmps106 rfl ?_
 refine .sr<|.ag rfl<|.z ?_
 refine .q .dA ?_
 refine .cK rfl (λa=>?_)
 refine .az rfl ?_
 refine .ret (ba _ (.one (.tmp rfl)) (.one [0] _) ?_)
 ·exact⟨_,rfl,_,rfl,rfl⟩
theorem qp(b:Nat)(R:aC) [pc:PC R (pT b) [.bool true,sZ,.int .i64 0]]:Spec prog 164 [pT b] R [] λu H'=>u=.bool true/\H'=[]:=by
 refine Spec.body func164 rfl results164 ntmps164 rfl ?_
 refine .sr<|.ag rfl<|.z<|.mo rfl<|.q (.iy rfl rfl) ?_
 refine .mo rfl<|.gt rfl ?_
 refine .mo rfl<|.gt rfl ?_
 refine .nc rfl<|.gt rfl ?_
 refine .fa rfl<|.gt rfl ?_
 refine .lo rfl<|.q .fV<|.az rfl ?_
 refine .ret (cw rfl ?_)
 ·exact⟨rfl,rfl⟩
theorem Ef(b:Nat)(R:aC) [pc:PC R (pT b) [.bool true,sZ,.int .i64 0]]:Spec prog 91 [pT b] R [] λu H'=>u=.int .i64 0/\H'=[]:=by
 refine Spec.body func91 rfl results91 ntmps91 rfl ?_
 refine .sr<|.ag rfl<|.zs<|.sr<|.mo rfl ?_
 refine .br (qp b _) (λv a=>?_)
 subst a
 refine .q .not<|.zn<|.bD<|.kn<|.sr<|.mo rfl<|.nc rfl<|.fa rfl<|.lo rfl<|.az rfl ?_
 refine .ret (cw rfl ?_)
 ·exact⟨rfl,rfl⟩
theorem Eg(b:Nat)(R:aC) [pc:PC R (pT b) [.bool true,sZ,.int .i64 0]]:Spec prog 93 [pT b] R [] λu H'=>u=sZ/\H'=[]:=by
 refine Spec.body func93 rfl results93 ntmps93 rfl ?_
 refine .sr<|.ag rfl<|.zs<|.sr<|.mo rfl ?_
 refine .br (qp b _) (λv d=>?_)
 subst d
 refine .q .not<|.zn<|.bD<|.kn<|.sr<|.ag rfl<|.zs<|.sr<|.mo rfl<|.nc rfl<|.fa rfl<|.lo rfl<|.q (.fg rfl) ?_
 refine .mo rfl<|.zn<|.block ?_
 refine .loop (X:=Unit) (λ_=>True) (λ_=>[(3,sZ),(13,.int .i64 ((0:Nat):Int)),(14,.int .i64 0)]) (λ_=>[]) (λ_=>0) () trivial kE.c.c.c rH ?_
 rintro⟨⟩ _
 refine .sr<|.q .lss<|.zs ?_
 refine .cond rfl (λa=>?_) λa=>?_
 ·exfalso;simp at a
 refine .exit<|aU<|aY<|aW<|aF<|.sr<|.mo rfl<|.az rfl ?_
 refine .ret (cw rfl ?_)
 ·exact⟨rfl,rfl⟩
theorem nU(q a b c:Nat)(R:aC) [pc:PC R (pT q) [pT a,pT b,pT c]]:Spec prog 56 [pT q] R [] λu H'=>u=.bool true/\H'=[]:=by
 refine Spec.body func56 rfl results56 ntmps56 rfl ?_
 refine .sr<|.ag rfl<|.z<|.mo rfl<|.q (.iy rfl rfl) ?_
 refine .mo rfl<|.gt rfl ?_
 refine .mo rfl<|.gt rfl ?_
 refine .nc rfl<|.gt rfl ?_
 refine .fa rfl<|.gt rfl ?_
 refine .lo rfl<|.gt rfl ?_
 refine .q (.ns rfl rfl) ?_
 refine .q .fV<|.az rfl ?_
 refine .ret (cw rfl ?_)
 ·exact⟨rfl,rfl⟩
theorem El(q a b c:Nat)(R:aC) [pc:PC R (pT q) [pT a,pT b,pT c]]:Spec prog 17 [pT q] R [] λu H'=>u=pT a/\H'=[]:=by
 refine Spec.body func17 rfl results17 ntmps17 rfl ?_
 refine .sr<|.ag rfl<|.zs<|.sr<|.mo rfl ?_
 refine .br (nU q a b c _) (λv d=>?_)
 subst d
 refine .q .not<|.zn<|.bD<|.kn<|.sr<|.mo rfl<|.nc rfl<|.fa rfl<|.lo rfl<|.az rfl ?_
 refine .ret (cw rfl ?_)
 ·exact⟨rfl,rfl⟩
theorem Db(R:aC):Spec prog 54 [] R [] λu H'=>∃Tq Ta Tb Tc,H'=[Tq,Ta,Tb,Tc]/\∃q a b c,u=pT q/\Tq=(bl q [pT a,pT b,pT c] 51)/\CI a [] [] [] [] 0 0 Ta/\SI b ⟨[],0,0⟩ Tb/\Tc=(bl c [.bool true,sZ,.int .i64 0] 253):=by
 refine Spec.body func54 rfl results54 ntmps54 rfl ?_
 refine .sr<|.ag rfl<|.z ?_
 refine .bS (C4 _) (λu Ta d=>?_)
 obtain⟨a,rfl,e⟩:=d
 refine .bS (Ed _) (λu Tb d=>?_)
 obtain⟨b,rfl,f⟩:=d
 refine .bS (Eh _) (λu Tc d=>?_)
 obtain⟨c,rfl,g⟩:=d
 refine .q .dA ?_
 refine .cK rfl (λh=>?_)
 refine .az rfl ?_
 refine .ret (ba _ (.one (.tmp rfl)) (cu [0,2,1,0]) ?_)
 ·exact⟨_,_,_,_,rfl,_,a,b,c,rfl,rfl,e,f,g⟩
def nu:cC:=⟨1,7,⟨⟨#[]⟩,⟨#[]⟩,[],[]⟩,⟨#[]⟩,⟨#[]⟩,⟨#[]⟩,⟨#[]⟩,[],⟨#[]⟩,⟨#[]⟩,[],[],[],[],[],0⟩
abbrev qx(q a b c:Nat):ax:=(bl q [pT a,pT b,pT c] 51)
theorem C9(e:Int)(R:aC):Spec prog 57 [.int .i64 e] R [] λu H'=>u=.agg [.string ⟨#[]⟩,.string ⟨#[]⟩,.int .u64 0,.int .i64 e].toArray/\H'=[]:=by
 refine Spec.body func57 rfl results57 ntmps57 rfl ?_
 refine .sr ?_
 refine .cZ (λa=>?_)
 refine .z<|.mo rfl ?_
 refine .q .dA ?_
 refine .cW rfl rfl<|.zn ?_
 refine .ret (ba _ (.one (.fk rfl rfl)) (.none _) ?_)
 ·exact⟨rfl,rfl⟩
theorem Dc(q a b c:Nat)(f e:ax)(j:CI a [] [] [] [] 0 0 f)(k:SI b ⟨[],0,0⟩ e)(R:aC):Spec prog 16 [pT q,.agg (cI iz nu).toArray] R [qx q a b c,f,e] λu H'=>∃Ta',H'=[qx q a b c,Ta',e]/\u=.agg [.string ⟨#[]⟩,.string ⟨#[]⟩,.int .u64 0,.int .i64 0].toArray/\CI a [] [] [] [] 0 7 Ta':=by
 obtain⟨A,B,C,t,w,m⟩:=k.view (R:=sg e) λp s=>s
 have z:cq (cI iz nu):=⟨eC.cL (R:=λ_ _=>False) ⟨⟨rfl,rfl,RS.fp,RS.fp⟩,RS.fp,RS.fp,RS.fp,RS.fp,RS.fp,RS.fp⟩⟩
 refine Spec.body func16 rfl results16 ntmps16 rfl ?_
 refine .sr ?_
 refine .cK rfl (λx=>?_)
 refine .cZ (λy=>?_)
 refine .zs<|.sr<|.mo rfl ?_
 refine .br (nU q a b c _) (λv d=>?_)
 subst d
 refine .q .not<|.zn<|.bD<|.kn<|.seq<|.bK [] mixed ?_
 refine .tO 0 rfl .move<|.tO 1 rfl (.nilCheck rfl)<|.tO 2 rfl (.fieldAddr rfl)<|.tO 3 rfl (.bN rfl)<|.tO 4 rfl .move<|.tO 5 rfl (.nilCheck rfl)<|.tO 6 rfl (.fieldAddr rfl)<|.tO 7 rfl (.bN rfl) ?_
 refine .sT 8 rfl ?_
 refine .br (m.mono λb o n=>.inr (by have r:(b,o)∈e:=n;simp[r])).head (λv d=>?_)
 subst d
 refine .nil (Next.sub ?_)
 refine .tO 9 rfl .assign<|.tO 10 rfl .assign ?_
 refine RA.nil (by kernel_rfl) ?_
 refine aF<|.seq<|.sr<|.fa rfl<|.lo rfl<|.zn<|.block<|.sr<|.q (.cast (v':=.bool true) .cN rfl) ?_
 refine .az rfl<|.jK<|.sr<|.mo rfl<|.fa rfl<|.lo rfl ?_
 refine .aR (Dl a [] [] [] [] 0 0 f j (by decide) (by decide) 7 _) (λv h d=>?_)
 obtain⟨rfl,_,g⟩:=d
 have i:gj 7 0=0:=by decide
 rw[i]at g⊢
 obtain⟨_,l⟩:=g rfl
 refine .br (C9 _ _) (λv d=>?_)
 subst d
 refine .cW rfl rfl<|.zn ?_
 refine .ret (bw (bs (ba _ (.one (.fk rfl rfl)) (cu [2,2,2]) ?_)))
 ·exact⟨h,rfl,rfl,l⟩
theorem CX(q a:Nat)(b c d:Value)(R:aC) [pc:PC R (pT q) [pT a,b,c,d]]:Spec prog 73 [pT q] R [] λv H'=>v=pT a/\H'=[]:=by
 refine Spec.body func73 rfl results73 ntmps73 rfl ?_
 refine .sr<|.ag rfl<|.zs<|.sr<|.mo rfl ?_
 refine .br (kW q a b c d _) (λv e=>?_)
 subst e
 refine .q .not<|.zn<|.bD<|.kn<|.sr<|.mo rfl<|.nc rfl<|.fa rfl<|.lo rfl<|.az rfl ?_
 refine .ret (cw rfl ?_)
 ·exact⟨rfl,rfl⟩
theorem pP(q a g:Nat)(b d:Value)(R:aC) [pc:PC R (pT q) [pT a,b,pT g,d]]:Spec prog 82 [pT q] R [] λv H'=>v=pT g/\H'=[]:=by
 refine Spec.body func82 rfl results82 ntmps82 rfl ?_
 refine .sr<|.ag rfl<|.zs<|.sr<|.mo rfl ?_
 refine .br (kW q a b _ d _) (λv c=>?_)
 subst c
 refine .q .not<|.zn<|.bD<|.kn<|.sr<|.mo rfl<|.nc rfl<|.fa rfl<|.lo rfl<|.az rfl ?_
 refine .ret (cw rfl ?_)
 ·exact⟨rfl,rfl⟩
theorem pH{α β:Type}{f:α->β}{l:List α}(h:(l.map f).Perm []):l=[]:=by
 have:=h.length_eq
 simpa using this
theorem C7(q a b c:Nat)(m n:ax)(Y:CI a [] [] [] [] 0 7 m)(Z:SI b ⟨[],0,0⟩ n)(R:aC)(hq:PC R (pT q) [pT a,pT b,pT c])(h:∀p∈m,R p.1 p.2)(rb:∀p∈n,R p.1 p.2)(hc:PC R (pT c) [.bool true,sZ,.int .i64 0]):
  Spec prog 20 [pT q] R [] λu H'=>∃T,H'=[T]/\∃xs:List UInt8,OS 5 1 ca u xs T/\0<xs.length:=by
 obtain⟨ps,vf,vr,Mf,Mr,l⟩:=Z.view (R:=R) rb
 obtain⟨g,i,j,Q,r,s,rfl,hR,t,A⟩:=Y
 have pa:PC R (pT a) [pT g,pT i,pT j,.int .i64 7]:=PC.of (E:=178) (fr:=(0,0)) (h _ (List.mem_cons_self))
 have p0:=gl (x:=0) (by decide)
 have p7:=gl (x:=7) (by decide)
 have q7:=pS 7
 refine Spec.body func20 rfl results20 ntmps20 rfl ?_
 refine .sr<|.ag rfl<|.zs<|.sr<|.mo rfl ?_
 refine .br (nU q a b c _) (λv d=>?_)
 subst d
 refine .q .not<|.zn<|.bD<|.kn<|.sr ?_
 refine .bS (qQ _) (λu B e=>?_)
 obtain⟨w,rfl,b0⟩:=e
 refine .ag rfl<|.z<|.mo rfl<|.mo rfl<|.nc rfl<|.fa rfl<|.lo rfl ?_
 refine .br (pL a g _ _ _ _) (λv d=>?_)
 subst d
 refine .q (.dX (a:=7) rfl (by decide)) ?_
 refine .aR (eH w _ B b0 7 (by decide) (by simp) _) (λu C e=>?_)
 obtain⟨rfl,b1⟩:=e
 refine .z<|.mo rfl<|.mo rfl<|.nc rfl<|.fa rfl<|.lo rfl ?_
 refine .br (CX a g _ _ _ _) (λv d=>?_)
 subst d
 refine .bS (rP g [] Q hR (by simp) _ (λp f=>.inl (h p (by simp[f])))) (λu D1 e=>?_)
 obtain⟨l1,Do,Di,rfl,a0,_,c2,_⟩:=e
 obtain rfl:=pH c2
 obtain⟨S,k1,rfl,_⟩:=a0.shape
 refine .aR (CY w _ C b1 (by simp only[adg,adh];omega) S k1 _) (λu H b4=>?_)
 refine .z<|.mo rfl<|.mo rfl<|.nc rfl<|.fa rfl<|.lo rfl ?_
 refine .br (pI a g i _ _ _) (λv d=>?_)
 subst d
 refine .bS (Cm i [] [] r t (by simp) (by simp) _ (λp f=>.inl (h p (by simp[f])))) (λu D2 e=>?_)
 obtain⟨l2,d0,c7,rfl,a6,_,c3,_⟩:=e
 obtain rfl:=pH c3
 obtain⟨U,k2,rfl,_⟩:=a6.shape
 refine .aR (C0 w _ H b4 (by simp only[adg,adh];omega) U k2 _) (λu I b5=>?_)
 refine .z<|.mo rfl<|.mo rfl<|.nc rfl<|.fa rfl<|.lo rfl ?_
 refine .br (pI a g i _ _ _) (λv d=>?_)
 subst d
 refine .bS (Cl i [] [] r t (by simp) _ (λp f=>.inl (h p (by simp[f])))) (λu D3 e=>?_)
 obtain⟨l3,d1,c8,rfl,a7,_,c4,_⟩:=e
 obtain rfl:l3=[]:=by have:=c4.length_eq;simpa[kJ,lI]using this
 obtain⟨V,k3,rfl,_⟩:=a7.shape
 refine .aR (CZ w _ I b5 (by simp only[adg,adh];omega) V k3 _) (λu J b6=>?_)
 refine .z<|.mo rfl<|.mo rfl<|.nc rfl<|.fa rfl<|.lo rfl ?_
 refine .br (pP a g j _ _ _) (λv d=>?_)
 subst d
 refine .br (EQ j [] 0 s A _ (λp f=>.inl (h p (by simp[f])))) (λv d=>?_)
 subst d
 refine .q (.dX (a:=0) rfl (by decide)) ?_
 refine .aR (eH w _ J b6 0 (by decide) (by simp only[adg,adh];omega) _) (λu K e=>?_)
 obtain⟨rfl,b7⟩:=e
 refine .z<|.mo rfl<|.mo rfl<|.nc rfl<|.fa rfl<|.lo rfl ?_
 refine .br (pP a g j _ _ _) (λv d=>?_)
 subst d
 refine .bS (ER j [] 0 s A (by simp) _ (λp f=>.inl (h p (by simp[f])))) (λu D4 e=>?_)
 obtain⟨l4,d2,c9,rfl,a8,_,c5,_⟩:=e
 obtain rfl:l4=[]:=by have:=c5.length_eq;simpa[kv,mF]using this
 obtain⟨W,k4,rfl,_⟩:=a8.shape
 refine .aR (C2 w _ K b7 (by simp only[adg,adh];omega) W k4 _) (λu L b8=>?_)
 refine .zs<|.bK [6,12] mixed ?_
 refine .tO 0 rfl .move<|.tO 1 rfl .move<|.tO 2 rfl (.nilCheck rfl)<|.tO 3 rfl (.fieldAddr rfl)<|.tO 4 rfl (.bN rfl)<|.tK 7 rfl .move ?_
 refine .tK 8 rfl (.nt rfl) ?_
 refine .tK 9 rfl (.dB rfl) ?_
 refine .tK 10 rfl (.bN rfl) ?_
 refine .sT 5 rfl ?_
 refine .br (l.mono λb o k=>.inl k).head (λv d=>?_)
 subst d
 refine .nil (Next.sub ?_)
 refine .sT 6 rfl ?_
 refine .aR (eH w _ L b8 0 (by decide) (by simp only[adg,adh];omega) _) (λu M e=>?_)
 obtain⟨rfl,b9⟩:=e
 refine .nil (Next.mod rfl ?_)
 refine .sT 11 rfl ?_
 refine .br (l.mono λb o k=>.inl k).Cx (λv d=>?_)
 subst d
 refine .nil (Next.mod rfl ?_)
 refine .sT 12 rfl ?_
 refine .aR (eH w _ M b9 0 (by decide) (by simp only[adg,adh];omega) _) (λu N e=>?_)
 obtain⟨rfl,c0⟩:=e
 refine .nil (Next.mod rfl ?_)
 refine RA.nil (by kernel_rfl) ?_
 refine aF<|.sr<|.mo rfl<|.mo rfl<|.nc rfl<|.fa rfl<|.lo rfl ?_
 refine .bS (DL (l.mono λb o k=>.inl k) (by simp)) (λu D5 e=>?_)
 obtain⟨l5,a9,c6,_⟩:=e
 obtain rfl:l5=[]:=List.Perm.eq_nil c6
 obtain⟨X,k5,rfl,_⟩:=a9.shape
 refine .aR (C1 w _ N c0 (by simp only[adg,adh];omega) X k5 _) (λu O c1=>?_)
 refine .z<|.mo rfl<|.mo rfl<|.nc rfl<|.fa rfl<|.lo rfl ?_
 refine .br (Ef c _) (λv d=>?_)
 subst d
 refine .q (.dX (a:=0) rfl (by decide)) ?_
 refine .aR (eH w _ O c1 0 (by decide) (by simp only[adg,adh];omega) _) (λu D e=>?_)
 obtain⟨rfl,b2⟩:=e
 refine .z<|.mo rfl<|.mo rfl<|.nc rfl<|.fa rfl<|.lo rfl ?_
 refine .br (Eg c _) (λv d=>?_)
 subst d
 refine .aR (C3 w _ D b2 (by simp only[adg,adh];omega) none 0 _) (λu F b3=>?_)
 refine .z<|.mo rfl ?_
 refine .bS (qO w _ F b3 (by simp only[adg,adh];omega) _ (λp f=>.inr (by simp[f]))) (λu G y=>?_)
 have iO:=y.aB
 refine .az rfl ?_
 refine .ret (ba _ (.one (.tmp rfl)) (.one [0] _) ?_)
 ·exact⟨G,by simp[take],_,y,by simp only[adg,adh];omega⟩
theorem Da(R:aC):Spec prog 13 [] R [] λu H'=>u=.bool true/\H'=[]:=by
 refine Spec.body func13 rfl results13 ntmps13 rfl ?_
 refine .sr<|.ag rfl<|.z ?_
 refine .call [] (Db _) (λu H' d=>?_)
 obtain⟨A,l,h,w,rfl,q,a,b,c,rfl,rfl,o,k,rfl⟩:=d
 conv=>arg 8;simp only[rest,bF,List.cons_append,List.nil_append]
 refine .ag rfl<|.zs<|.sr<|.mo rfl<|.q (.sv rfl rfl) ?_
 refine .mo rfl<|.gt rfl ?_
 refine .mo rfl<|.gt rfl ?_
 refine .q (.dA (out:=cI iz nu) rfl rfl) ?_
 refine .gt rfl ?_
 refine .call [0,0,0] (Dc q a b c l h o k _) (λu H' d=>?_)
 obtain⟨g,rfl,rfl,j⟩:=d
 conv=>arg 8;simp only[rest,bF,List.cons_append,List.nil_append]
 obtain⟨i,m,n,x,y,B,s,_⟩:=id j
 have D:PS g (pT a) [pT i,pT m,pT n,.int .i64 7]:=PS.of (E:=178) (fr:=(0,0)) (by rw[s];simp)
 refine .gt rfl ?_
 refine .q (.B9 underlying53 rfl rfl oN rfl) ?_
 refine .gt rfl ?_
 refine .q (.cast (v':=.bool false) .fo rfl) ?_
 refine .q .ja<|.zn<|.bD<|.kn<|.sr<|.mo rfl ?_
 refine .br (El q a b c _) (λv f=>?_)
 subst f
 refine .br (pL a i _ _ _ _) (λv f=>?_)
 subst f
 refine .q (.cast (v':=.bool true) .cN rfl) ?_
 refine .mo rfl<|.gt rfl ?_
 refine .mo rfl<|.gt rfl ?_
 refine .bS (C7 q a b c g h j k _ (PC.of (E:=51) (fr:=(0,0)) (.inr (by simp))) (λp e=>.inr (by simp[e])) (λp e=>.inr (by simp[e])) (PC.of (E:=253) (fr:=(0,0)) (.inr (by simp)))) (λu t d=>?_)
 obtain⟨F,r,C⟩:=d
 refine .gt rfl ?_
 refine .q (.hB r) ?_
 refine .gt rfl ?_
 refine .q .gtr<|.q .fV<|.az rfl ?_
 refine .ret (cw rfl ?_)
 ·exact⟨congrArg Value.bool (decide_eq_true (by omega)),rfl⟩
theorem C5{H:Type}{enc:TypeId×Value->H}{W:World}{f:Nat}{cs:List Value}{x:DataW H×List MemPlace}(h:DataW.trod enc prog W 0 (λ_=>true) true f 30 cs=some x):∃(w:OW) (o:cC),cs=cI w o/\eC (Rw W) w o/\(-9223372036854775808<=o.n/\o.n<=9223372036854775807)/\o.rev<bP:=by
 obtain⟨B,a⟩:=jZ underlying30 h
 have hc:prog.cellsOf 30=19:=by kernel_rfl
 rw[hc]at B
 have b:prog.cellsOf 2=1:=by kernel_rfl
 have J:prog.cellsOf 3=1:=by kernel_rfl
 have K:prog.cellsOf 9=1:=by kernel_rfl
 have C:prog.cellsOf 22=1:=by kernel_rfl
 have D:prog.cellsOf 24=4:=by kernel_rfl
 have E:prog.cellsOf 25=1:=by kernel_rfl
 have F:prog.cellsOf 26=1:=by kernel_rfl
 have G:prog.cellsOf 27=1:=by kernel_rfl
 have I:prog.cellsOf 28=1:=by kernel_rfl
 match cs,B with
 |[a0,a1,a2,a3,a4,a5,a6,a7,a8,a9,a10,a11,a12,a13,a14,a15,a16,a17,a18],_=>
  obtain⟨n0,y0,d⟩:∃n y,DataW.trod enc prog W 0 (λ_=>true) true n 3 (([a0,a1,a2,a3,a4,a5,a6,a7,a8,a9,a10,a11,a12,a13,a14,a15,a16,a17,a18].drop 0).take (prog.cellsOf 3))=some y:=a 0 _ rfl
  obtain⟨n1,y1,e⟩:∃n y,DataW.trod enc prog W 0 (λ_=>true) true n 2 (([a0,a1,a2,a3,a4,a5,a6,a7,a8,a9,a10,a11,a12,a13,a14,a15,a16,a17,a18].drop 1).take (prog.cellsOf 2))=some y:=a 1 _ rfl
  obtain⟨n2,y2,q⟩:∃n y,DataW.trod enc prog W 0 (λ_=>true) true n 24 (([a0,a1,a2,a3,a4,a5,a6,a7,a8,a9,a10,a11,a12,a13,a14,a15,a16,a17,a18].drop 2).take (prog.cellsOf 24))=some y:=a 2 _ rfl
  obtain⟨n3,y3,r⟩:∃n y,DataW.trod enc prog W 0 (λ_=>true) true n 9 (([a0,a1,a2,a3,a4,a5,a6,a7,a8,a9,a10,a11,a12,a13,a14,a15,a16,a17,a18].drop 6).take (prog.cellsOf 9))=some y:=a 3 _ rfl
  obtain⟨n4,y4,s⟩:∃n y,DataW.trod enc prog W 0 (λ_=>true) true n 9 (([a0,a1,a2,a3,a4,a5,a6,a7,a8,a9,a10,a11,a12,a13,a14,a15,a16,a17,a18].drop 7).take (prog.cellsOf 9))=some y:=a 4 _ rfl
  obtain⟨n5,y5,t⟩:∃n y,DataW.trod enc prog W 0 (λ_=>true) true n 9 (([a0,a1,a2,a3,a4,a5,a6,a7,a8,a9,a10,a11,a12,a13,a14,a15,a16,a17,a18].drop 8).take (prog.cellsOf 9))=some y:=a 5 _ rfl
  obtain⟨n6,y6,u⟩:∃n y,DataW.trod enc prog W 0 (λ_=>true) true n 9 (([a0,a1,a2,a3,a4,a5,a6,a7,a8,a9,a10,a11,a12,a13,a14,a15,a16,a17,a18].drop 9).take (prog.cellsOf 9))=some y:=a 6 _ rfl
  obtain⟨n7,y7,v⟩:∃n y,DataW.trod enc prog W 0 (λ_=>true) true n 22 (([a0,a1,a2,a3,a4,a5,a6,a7,a8,a9,a10,a11,a12,a13,a14,a15,a16,a17,a18].drop 10).take (prog.cellsOf 22))=some y:=a 7 _ rfl
  obtain⟨n8,y8,z⟩:∃n y,DataW.trod enc prog W 0 (λ_=>true) true n 9 (([a0,a1,a2,a3,a4,a5,a6,a7,a8,a9,a10,a11,a12,a13,a14,a15,a16,a17,a18].drop 11).take (prog.cellsOf 9))=some y:=a 8 _ rfl
  obtain⟨n9,y9,A⟩:∃n y,DataW.trod enc prog W 0 (λ_=>true) true n 9 (([a0,a1,a2,a3,a4,a5,a6,a7,a8,a9,a10,a11,a12,a13,a14,a15,a16,a17,a18].drop 12).take (prog.cellsOf 9))=some y:=a 9 _ rfl
  obtain⟨c6,d7,g⟩:∃n y,DataW.trod enc prog W 0 (λ_=>true) true n 25 (([a0,a1,a2,a3,a4,a5,a6,a7,a8,a9,a10,a11,a12,a13,a14,a15,a16,a17,a18].drop 13).take (prog.cellsOf 25))=some y:=a 10 _ rfl
  obtain⟨c7,d8,i⟩:∃n y,DataW.trod enc prog W 0 (λ_=>true) true n 25 (([a0,a1,a2,a3,a4,a5,a6,a7,a8,a9,a10,a11,a12,a13,a14,a15,a16,a17,a18].drop 14).take (prog.cellsOf 25))=some y:=a 11 _ rfl
  obtain⟨c8,d9,j⟩:∃n y,DataW.trod enc prog W 0 (λ_=>true) true n 26 (([a0,a1,a2,a3,a4,a5,a6,a7,a8,a9,a10,a11,a12,a13,a14,a15,a16,a17,a18].drop 15).take (prog.cellsOf 26))=some y:=a 12 _ rfl
  obtain⟨d0,f0,l⟩:∃n y,DataW.trod enc prog W 0 (λ_=>true) true n 26 (([a0,a1,a2,a3,a4,a5,a6,a7,a8,a9,a10,a11,a12,a13,a14,a15,a16,a17,a18].drop 16).take (prog.cellsOf 26))=some y:=a 13 _ rfl
  obtain⟨d1,f1,m⟩:∃n y,DataW.trod enc prog W 0 (λ_=>true) true n 27 (([a0,a1,a2,a3,a4,a5,a6,a7,a8,a9,a10,a11,a12,a13,a14,a15,a16,a17,a18].drop 17).take (prog.cellsOf 27))=some y:=a 14 _ rfl
  obtain⟨c,f2,p⟩:∃n y,DataW.trod enc prog W 0 (λ_=>true) true n 28 (([a0,a1,a2,a3,a4,a5,a6,a7,a8,a9,a10,a11,a12,a13,a14,a15,a16,a17,a18].drop 18).take (prog.cellsOf 28))=some y:=a 15 _ rfl
  simp only[b,J,K,C,D,E,F,G,I,List.drop_zero,List.drop_succ_cons,List.take_succ_cons,List.take_zero]at d e q r s t u v z A g i j l m p
  obtain⟨z0,L⟩:=CA (k:=.i64) d
  obtain⟨z1,M,l1,m1⟩:=nk (k:=.i64) e
  obtain⟨r2,b,V,b5⟩:=rO q
  obtain⟨s3,X⟩:=jf r
  obtain⟨s4,Y⟩:=jf s
  obtain⟨s5,Z⟩:=jf t
  obtain⟨s6,e6⟩:=jf u
  obtain⟨v7,l7,e7,b6⟩:=nW v
  obtain⟨s8,e8⟩:=jf z
  obtain⟨s9,e9⟩:=jf A
  obtain⟨d2,b7,N,b0⟩:=ow g
  obtain⟨d3,b8,O,b1⟩:=ow i
  obtain⟨d4,b9,Q,b2,_⟩:=qI j
  obtain⟨d5,c0,S,b3,_⟩:=qI l
  obtain⟨d6,c1,T,b4,_⟩:=rL m
  obtain⟨f3,U,c4,c5⟩:=EH p
  obtain⟨c,rfl⟩:=Int.eq_ofNat_of_zero_le c4
  cases L;cases M;cases V;cases X;cases Y;cases Z;cases e6;cases e7;cases e8;cases e9;cases N;cases O;cases Q;cases S;cases T;cases U
  exact⟨⟨r2,_,_,_,_,_,_⟩,⟨z0,z1,b,s3,s4,s5,s6,l7,s8,s9,b7,b8,b9,c0,c1,c⟩,rfl,⟨b5,b6,b0,b1,b2,b3,b4⟩,⟨l1,m1⟩,by show c<bP;unfold bP;omega⟩
end Go.Proofs.YtgppncmdpcefhaaGreatDoor
