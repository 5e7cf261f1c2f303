/- What the law 'OpNobody' uses. No condition. -/
import Derived.Test.YtgppncmdpcefhaaGreatDoorKOpNobodyL
import Derived.Test.YtgppncmdpcefhaaGreatDoorKOpNobodyN
import Derived.Test.YtgppncmdpcefhaaGreatDoorKOpNobodyO
import Derived.Test.YtgppncmdpcefhaaGreatDoorKOpNobodyQ
import Derived.Test.YtgppncmdpcefhaaGreatDoorKOpNobodyS
import Derived.Test.YtgppncmdpcefhaaGreatDoorKOpNobodyV
import Derived.Test.YtgppncmdpcefhaaGreatDoorKOpNobodyW
namespace Go.Proofs.YtgppncmdpcefhaaGreatDoor
set_option linter.defProp false
def ad7:=@trivial
def ad8:=@List.length_append
def ad9:=@List.length_nil
def aea:=@List.cons_append
def aeb:=@List.nil_append
open Tryz
set_option linter.unusedVariables false
set_option linter.unusedSimpArgs false
set_option maxRecDepth 4000
theorem Fi(b:Nat)(xs:List UInt8)(T:ay)(h:fS b xs T)(i:xs.length<=1000000)(p:Option Addr)(c:Nat)(R:aA):Spec prog 72 [pT b,.slice p 0 c,.func (.func 24) #[] #[]] R [T] λu H'=>∃T',H'=[T']/\fS b (xs++put 0) T':=by
 refine Spec.body func72 rfl results72 ntmps72 rfl ?_
 refine .sr<|.mo rfl<|.mo rfl<|.q (.fw rfl) ?_
 refine .q (.gg (a:=0) rfl (by decide)) ?_
 refine .bb (iZ b xs T h 0 (by decide) (by omega) _) (λu d g=>?_)
 obtain⟨rfl,f⟩:=g
 refine .z<|.mo rfl<|.q (.fw rfl) ?_
 refine .mo rfl<|.zn<|.block ?_
 refine .loop (X:=Unit) (λ_=>True) (λ_=>[(14,.int .i64 ((0:Nat):Int)),(15,.int .i64 0)]) (λ_=>[d]) (λ_=>0) () ad7 kE.c.c rH ?_
 rintro⟨⟩ _
 refine .sr<|.q .lss<|.zs ?_
 refine .cond rfl (λe=>?_) λe=>?_
 ·exfalso;simp at e
 refine .exit<|aP<|aV<|aR<|ct _ .none (.one [0] _) ?_
 ·exact⟨d,by simp[take],f⟩
theorem Fk(b:Nat)(xs:List UInt8)(T:ay)(h:fS b xs T)(i:xs.length<=1000000)(p:Option Addr)(c:Nat)(R:aA):Spec prog 75 [pT b,.slice p 0 c,.func (.func 78) #[] #[]] R [T] λu H'=>∃T',H'=[T']/\fS b (xs++put 0) T':=by
 refine Spec.body func75 rfl results75 ntmps75 rfl ?_
 refine .sr<|.mo rfl<|.mo rfl<|.q (.fw rfl) ?_
 refine .q (.gg (a:=0) rfl (by decide)) ?_
 refine .bb (iZ b xs T h 0 (by decide) (by omega) _) (λu d g=>?_)
 obtain⟨rfl,f⟩:=g
 refine .z<|.mo rfl<|.q (.fw rfl) ?_
 refine .mo rfl<|.zn<|.block ?_
 refine .loop (X:=Unit) (λ_=>True) (λ_=>[(14,.int .i64 ((0:Nat):Int)),(15,.int .i64 0)]) (λ_=>[d]) (λ_=>0) () ad7 kE.c.c rH ?_
 rintro⟨⟩ _
 refine .sr<|.q .lss<|.zs ?_
 refine .cond rfl (λe=>?_) λe=>?_
 ·exfalso;simp at e
 refine .exit<|aP<|aV<|aR<|ct _ .none (.one [0] _) ?_
 ·exact⟨d,by simp[take],f⟩
theorem Fj(b:Nat)(xs:List UInt8)(T:ay)(h:fS b xs T)(i:xs.length<=1000000)(p:Option Addr)(c:Nat)(R:aA):Spec prog 79 [pT b,.slice p 0 c,.func (.func 81) #[] #[]] R [T] λu H'=>∃T',H'=[T']/\fS b (xs++put 0) T':=by
 refine Spec.body func79 rfl results79 ntmps79 rfl ?_
 refine .sr<|.mo rfl<|.mo rfl<|.q (.fw rfl) ?_
 refine .q (.gg (a:=0) rfl (by decide)) ?_
 refine .bb (iZ b xs T h 0 (by decide) (by omega) _) (λu d g=>?_)
 obtain⟨rfl,f⟩:=g
 refine .z<|.mo rfl<|.q (.fw rfl) ?_
 refine .mo rfl<|.zn<|.block ?_
 refine .loop (X:=Unit) (λ_=>True) (λ_=>[(14,.int .i64 ((0:Nat):Int)),(15,.int .i64 0)]) (λ_=>[d]) (λ_=>0) () ad7 kE.c.c rH ?_
 rintro⟨⟩ _
 refine .sr<|.q .lss<|.zs ?_
 refine .cond rfl (λe=>?_) λe=>?_
 ·exfalso;simp at e
 refine .exit<|aP<|aV<|aR<|ct _ .none (.one [0] _) ?_
 ·exact⟨d,by simp[take],f⟩
theorem Fm(b:Nat)(xs:List UInt8)(T:ay)(h:fS b xs T)(i:xs.length<=1000000)(p:Option Addr)(c:Nat)(R:aA):Spec prog 84 [pT b,.slice p 0 c,.func (.func 86) #[] #[]] R [T] λu H'=>∃T',H'=[T']/\fS b (xs++put 0) T':=by
 refine Spec.body func84 rfl results84 ntmps84 rfl ?_
 refine .sr<|.mo rfl<|.mo rfl<|.q (.fw rfl) ?_
 refine .q (.gg (a:=0) rfl (by decide)) ?_
 refine .bb (iZ b xs T h 0 (by decide) (by omega) _) (λu d g=>?_)
 obtain⟨rfl,f⟩:=g
 refine .z<|.mo rfl<|.q (.fw rfl) ?_
 refine .mo rfl<|.zn<|.block ?_
 refine .loop (X:=Unit) (λ_=>True) (λ_=>[(14,.int .i64 ((0:Nat):Int)),(15,.int .i64 0)]) (λ_=>[d]) (λ_=>0) () ad7 kE.c.c rH ?_
 rintro⟨⟩ _
 refine .sr<|.q .lss<|.zs ?_
 refine .cond rfl (λe=>?_) λe=>?_
 ·exfalso;simp at e
 refine .exit<|aP<|aV<|aR<|ct _ .none (.one [0] _) ?_
 ·exact⟨d,by simp[take],f⟩
theorem Fl(b:Nat)(xs:List UInt8)(T:ay)(h:fS b xs T)(i:xs.length<=1000000)(p:Option Addr)(c:Nat)(R:aA):Spec prog 88 [pT b,.slice p 0 c,.func (.func 90) #[] #[]] R [T] λu H'=>∃T',H'=[T']/\fS b (xs++put 0) T':=by
 refine Spec.body func88 rfl results88 ntmps88 rfl ?_
 refine .sr<|.mo rfl<|.mo rfl<|.q (.fw rfl) ?_
 refine .q (.gg (a:=0) rfl (by decide)) ?_
 refine .bb (iZ b xs T h 0 (by decide) (by omega) _) (λu d g=>?_)
 obtain⟨rfl,f⟩:=g
 refine .z<|.mo rfl<|.q (.fw rfl) ?_
 refine .mo rfl<|.zn<|.block ?_
 refine .loop (X:=Unit) (λ_=>True) (λ_=>[(14,.int .i64 ((0:Nat):Int)),(15,.int .i64 0)]) (λ_=>[d]) (λ_=>0) () ad7 kE.c.c rH ?_
 rintro⟨⟩ _
 refine .sr<|.q .lss<|.zs ?_
 refine .cond rfl (λe=>?_) λe=>?_
 ·exfalso;simp at e
 refine .exit<|aP<|aV<|aR<|ct _ .none (.one [0] _) ?_
 ·exact⟨d,by simp[take],f⟩
theorem Fo(b:Nat)(xs:List UInt8)(T:ay)(h:fS b xs T)(i:xs.length<=1000000)(p:Option Addr)(c:Nat)(R:aA):Spec prog 92 [pT b,.slice p 0 c,.func (.func 94) #[] #[]] R [T] λu H'=>∃T',H'=[T']/\fS b (xs++put 0) T':=by
 refine Spec.body func92 rfl results92 ntmps92 rfl ?_
 refine .sr<|.mo rfl<|.mo rfl<|.q (.fw rfl) ?_
 refine .q (.gg (a:=0) rfl (by decide)) ?_
 refine .bb (iZ b xs T h 0 (by decide) (by omega) _) (λu d g=>?_)
 obtain⟨rfl,f⟩:=g
 refine .z<|.mo rfl<|.q (.fw rfl) ?_
 refine .mo rfl<|.zn<|.block ?_
 refine .loop (X:=Unit) (λ_=>True) (λ_=>[(14,.int .i64 ((0:Nat):Int)),(15,.int .i64 0)]) (λ_=>[d]) (λ_=>0) () ad7 kE.c.c rH ?_
 rintro⟨⟩ _
 refine .sr<|.q .lss<|.zs ?_
 refine .cond rfl (λe=>?_) λe=>?_
 ·exfalso;simp at e
 refine .exit<|aP<|aV<|aR<|ct _ .none (.one [0] _) ?_
 ·exact⟨d,by simp[take],f⟩
theorem sq(R:aA):Spec prog 106 [] R [] λu H'=>∃T,H'=[T]/\∃b,u=pT b/\T=(bl b [.bool true,sZ,.int .i64 0] 253):=by
 refine Spec.body func106 rfl results106 ntmps106 rfl ?_
 refine .sr<|.ag rfl<|.z ?_
 refine .q .dR ?_
 refine .cJ rfl (λa=>?_)
 refine .az rfl ?_
 refine .ret (aZ _ (.one (.tmp rfl)) (.one [0] _) ?_)
 ·exact⟨_,rfl,_,rfl,rfl⟩
theorem sn(b:Nat)(R:aA) [pc:PC R (pT b) [.bool true,sZ,.int .i64 0]]:Spec prog 164 [pT b] R [] λu H'=>u=.bool true/\H'=[]:=by
 refine Spec.body func164 rfl results164 ntmps164 rfl ?_
 refine .sr<|.ag rfl<|.z<|.mo rfl<|.q (.jL rfl rfl) ?_
 refine .mo rfl<|.gt rfl ?_
 refine .mo rfl<|.gt rfl ?_
 refine .nc rfl<|.gt rfl ?_
 refine .fa rfl<|.gt rfl ?_
 refine .lo rfl<|.q .ed<|.az rfl ?_
 refine .ret (br rfl ?_)
 ·exact⟨rfl,rfl⟩
theorem GH(b:Nat)(R:aA) [pc:PC R (pT b) [.bool true,sZ,.int .i64 0]]:Spec prog 91 [pT b] R [] λu H'=>u=.int .i64 0/\H'=[]:=by
 refine Spec.body func91 rfl results91 ntmps91 rfl ?_
 refine .sr<|.ag rfl<|.zs<|.sr<|.mo rfl ?_
 refine .bc (sn b _) (λv a=>?_)
 subst a
 refine .q .not<|.zn<|.bB<|.kn<|.sr<|.mo rfl<|.nc rfl<|.fa rfl<|.lo rfl<|.az rfl ?_
 refine .ret (br rfl ?_)
 ·exact⟨rfl,rfl⟩
theorem GK(b:Nat)(R:aA) [pc:PC R (pT b) [.bool true,sZ,.int .i64 0]]:Spec prog 93 [pT b] R [] λu H'=>u=sZ/\H'=[]:=by
 refine Spec.body func93 rfl results93 ntmps93 rfl ?_
 refine .sr<|.ag rfl<|.zs<|.sr<|.mo rfl ?_
 refine .bc (sn b _) (λv d=>?_)
 subst d
 refine .q .not<|.zn<|.bB<|.kn<|.sr<|.ag rfl<|.zs<|.sr<|.mo rfl<|.nc rfl<|.fa rfl<|.lo rfl<|.q (.fw rfl) ?_
 refine .mo rfl<|.zn<|.block ?_
 refine .loop (X:=Unit) (λ_=>True) (λ_=>[(3,sZ),(13,.int .i64 ((0:Nat):Int)),(14,.int .i64 0)]) (λ_=>[]) (λ_=>0) () ad7 kE.c.c.c rH ?_
 rintro⟨⟩ _
 refine .sr<|.q .lss<|.zs ?_
 refine .cond rfl (λa=>?_) λa=>?_
 ·exfalso;simp at a
 refine .exit<|aP<|aV<|aR<|aD<|.sr<|.mo rfl<|.az rfl ?_
 refine .ret (br rfl ?_)
 ·exact⟨rfl,rfl⟩
theorem oO(q a b c:Nat)(R:aA) [pc:PC R (pT q) [pT a,pT b,pT c]]:Spec prog 56 [pT q] R [] λu H'=>u=.bool true/\H'=[]:=by
 refine Spec.body func56 rfl results56 ntmps56 rfl ?_
 refine .sr<|.ag rfl<|.z<|.mo rfl<|.q (.jL rfl rfl) ?_
 refine .mo rfl<|.gt rfl ?_
 refine .mo rfl<|.gt rfl ?_
 refine .nc rfl<|.gt rfl ?_
 refine .fa rfl<|.gt rfl ?_
 refine .lo rfl<|.gt rfl ?_
 refine .q (.jg rfl rfl) ?_
 refine .q .ed<|.az rfl ?_
 refine .ret (br rfl ?_)
 ·exact⟨rfl,rfl⟩
theorem GQ(q a b c:Nat)(R:aA) [pc:PC R (pT q) [pT a,pT b,pT c]]:Spec prog 17 [pT q] R [] λu H'=>u=pT a/\H'=[]:=by
 refine Spec.body func17 rfl results17 ntmps17 rfl ?_
 refine .sr<|.ag rfl<|.zs<|.sr<|.mo rfl ?_
 refine .bc (oO q a b c _) (λv d=>?_)
 subst d
 refine .q .not<|.zn<|.bB<|.kn<|.sr<|.mo rfl<|.nc rfl<|.fa rfl<|.lo rfl<|.az rfl ?_
 refine .ret (br rfl ?_)
 ·exact⟨rfl,rfl⟩
theorem Fv(R:aA):Spec prog 54 [] R [] λu H'=>∃Tq Ta Tb Tc,H'=[Tq,Ta,Tb,Tc]/\∃q a b c,u=pT q/\Tq=(bl q [pT a,pT b,pT c] 51)/\CI a [] [] [] [] 0 0 Ta/\SI b ⟨[],0,0⟩ Tb/\Tc=(bl c [.bool true,sZ,.int .i64 0] 253):=by
 refine Spec.body func54 rfl results54 ntmps54 rfl ?_
 refine .sr<|.ag rfl<|.z ?_
 refine .cL (Fp _) (λu Ta d=>?_)
 obtain⟨a,rfl,e⟩:=d
 refine .cL (sm _) (λu Tb d=>?_)
 obtain⟨b,rfl,f⟩:=d
 refine .cL (sq _) (λu Tc d=>?_)
 obtain⟨c,rfl,g⟩:=d
 refine .q .dR ?_
 refine .cJ rfl (λh=>?_)
 refine .az rfl ?_
 refine .ret (aZ _ (.one (.tmp rfl)) (cu [0,2,1,0]) ?_)
 ·exact⟨_,_,_,_,rfl,_,a,b,c,rfl,rfl,e,f,g⟩
def oz:fN:=⟨1,7,⟨⟨#[]⟩,⟨#[]⟩,[],[]⟩,⟨#[]⟩,⟨#[]⟩,⟨#[]⟩,⟨#[]⟩,[],⟨#[]⟩,⟨#[]⟩,[],[],[],[],[],0⟩
abbrev sD(q a b c:Nat):ay:=(bl q [pT a,pT b,pT c] 51)
theorem rD(e:Int)(R:aA):Spec prog 57 [.int .i64 e] R [] λu H'=>u=.agg [.string ⟨#[]⟩,.string ⟨#[]⟩,.int .u64 0,.int .i64 e].toArray/\H'=[]:=by
 refine Spec.body func57 rfl results57 ntmps57 rfl ?_
 refine .sr ?_
 refine .dz (λa=>?_)
 refine .z<|.mo rfl ?_
 refine .q .dR ?_
 refine .dx rfl rfl<|.zn ?_
 refine .ret (aZ _ (.one (.hN rfl rfl)) (.none _) ?_)
 ·exact⟨rfl,rfl⟩
theorem FA(q a b c:Nat)(f e:ay)(j:CI a [] [] [] [] 0 0 f)(k:SI b ⟨[],0,0⟩ e)(R:aA):Spec prog 16 [pT q,.agg (dZ ko oz).toArray] R [sD q a b c,f,e] λu H'=>∃Ta',H'=[sD q a b c,Ta',e]/\u=.agg [.string ⟨#[]⟩,.string ⟨#[]⟩,.int .u64 0,.int .i64 0].toArray/\CI a [] [] [] [] 0 7 Ta':=by
 obtain⟨A,B,C,t,w,m⟩:=k.view (R:=sg e) λp s=>s
 have z:cg (dZ ko oz):=⟨gI.cK (R:=λ_ _=>False) ⟨⟨rfl,rfl,RS.jN,RS.jN⟩,RS.jN,RS.jN,RS.jN,RS.jN,RS.jN,RS.jN⟩⟩
 refine Spec.body func16 rfl results16 ntmps16 rfl ?_
 refine .sr ?_
 refine .cJ rfl (λx=>?_)
 refine .dz (λy=>?_)
 refine .zs<|.sr<|.mo rfl ?_
 refine .bc (oO q a b c _) (λv d=>?_)
 subst d
 refine .q .not<|.zn<|.bB<|.kn<|.seq<|.bF [] mixed ?_
 refine .tO 0 rfl .move<|.tO 1 rfl (.nilCheck rfl)<|.tO 2 rfl (.fieldAddr rfl)<|.tO 3 rfl (.bO rfl)<|.tO 4 rfl .move<|.tO 5 rfl (.nilCheck rfl)<|.tO 6 rfl (.fieldAddr rfl)<|.tO 7 rfl (.bO rfl) ?_
 refine .sT 8 rfl ?_
 refine .bc (m.mono λb o n=>.inr (by have r:(b,o)∈e:=n;simp[r])).head (λv d=>?_)
 subst d
 refine .nil (Next.sub ?_)
 refine .tO 9 rfl .assign<|.tO 10 rfl .assign ?_
 refine RA.nil (by kernel_rfl) ?_
 refine aD<|.seq<|.sr<|.fa rfl<|.lo rfl<|.zn<|.block<|.sr<|.q (.cast (v':=.bool true) .cA rfl) ?_
 refine .az rfl<|.dG<|.sr<|.mo rfl<|.fa rfl<|.lo rfl ?_
 refine .bb (FI a [] [] [] [] 0 0 f j (by decide) (by decide) 7 _) (λv h d=>?_)
 obtain⟨rfl,_,g⟩:=d
 have i:il 7 0=0:=by decide
 rw[i]at g⊢
 obtain⟨_,l⟩:=g rfl
 refine .bc (rD _ _) (λv d=>?_)
 subst d
 refine .dx rfl rfl<|.zn ?_
 refine .ret (bg (aT (aZ _ (.one (.hN rfl rfl)) (cu [2,2,2]) ?_)))
 ·exact⟨h,rfl,rfl,l⟩
theorem Fb(q a:Nat)(b c d:Value)(R:aA) [pc:PC R (pT q) [pT a,b,c,d]]:Spec prog 73 [pT q] R [] λv H'=>v=pT a/\H'=[]:=by
 refine Spec.body func73 rfl results73 ntmps73 rfl ?_
 refine .sr<|.ag rfl<|.zs<|.sr<|.mo rfl ?_
 refine .bc (ma q a b c d _) (λv e=>?_)
 subst e
 refine .q .not<|.zn<|.bB<|.kn<|.sr<|.mo rfl<|.nc rfl<|.fa rfl<|.lo rfl<|.az rfl ?_
 refine .ret (br rfl ?_)
 ·exact⟨rfl,rfl⟩
theorem rG(q a g:Nat)(b d:Value)(R:aA) [pc:PC R (pT q) [pT a,b,pT g,d]]:Spec prog 82 [pT q] R [] λv H'=>v=pT g/\H'=[]:=by
 refine Spec.body func82 rfl results82 ntmps82 rfl ?_
 refine .sr<|.ag rfl<|.zs<|.sr<|.mo rfl ?_
 refine .bc (ma q a b _ d _) (λv c=>?_)
 subst c
 refine .q .not<|.zn<|.bB<|.kn<|.sr<|.mo rfl<|.nc rfl<|.fa rfl<|.lo rfl<|.az rfl ?_
 refine .ret (br rfl ?_)
 ·exact⟨rfl,rfl⟩
theorem rq{α β:Type}{f:α->β}{l:List α}(h:(l.map f).Perm []):l=[]:=by
 have:=h.length_eq
 simpa using this
theorem Fs(q a b c:Nat)(m n:ay)(Y:CI a [] [] [] [] 0 7 m)(Z:SI b ⟨[],0,0⟩ n)(R:aA)(hq:PC R (pT q) [pT a,pT b,pT c])(h:∀p∈m,R p.1 p.2)(rb:∀p∈n,R p.1 p.2)(hc:PC R (pT c) [.bool true,sZ,.int .i64 0]):
  Spec prog 20 [pT q] R [] λu H'=>∃T,H'=[T]/\∃xs:List UInt8,OS 5 1 dt u xs T/\0<xs.length:=by
 obtain⟨ps,vf,vr,Mf,Mr,l⟩:=Z.view (R:=R) rb
 obtain⟨g,i,j,Q,r,s,rfl,hR,t,A⟩:=Y
 have pa:PC R (pT a) [pT g,pT i,pT j,.int .i64 7]:=PC.of (E:=178) (fr:=(0,0)) (h _ (List.mem_cons_self))
 have p0:=nj (x:=0) (by decide)
 have p7:=nj (x:=7) (by decide)
 have q7:=rK 7
 refine Spec.body func20 rfl results20 ntmps20 rfl ?_
 refine .sr<|.ag rfl<|.zs<|.sr<|.mo rfl ?_
 refine .bc (oO q a b c _) (λv d=>?_)
 subst d
 refine .q .not<|.zn<|.bB<|.kn<|.sr ?_
 refine .cL (Hx _) (λu B e=>?_)
 obtain⟨w,rfl,b0⟩:=e
 refine .ag rfl<|.z<|.mo rfl<|.mo rfl<|.nc rfl<|.fa rfl<|.lo rfl ?_
 refine .bc (rC a g _ _ _ _) (λv d=>?_)
 subst d
 refine .q (.gg (a:=7) rfl (by decide)) ?_
 refine .bb (iZ w _ B b0 7 (by decide) (by simp) _) (λu C e=>?_)
 obtain⟨rfl,b1⟩:=e
 refine .z<|.mo rfl<|.mo rfl<|.nc rfl<|.fa rfl<|.lo rfl ?_
 refine .bc (Fb a g _ _ _ _) (λv d=>?_)
 subst d
 refine .cL (ue g [] Q hR (by simp) _ (λp f=>.inl (h p (by simp[f])))) (λu D1 e=>?_)
 obtain⟨l1,Do,Di,rfl,a0,_,c2,_⟩:=e
 obtain rfl:=rq c2
 obtain⟨S,k1,rfl,_⟩:=a0.shape
 refine .bb (Fi w _ C b1 (by simp only[ad8,ad9];omega) S k1 _) (λu H b4=>?_)
 refine .z<|.mo rfl<|.mo rfl<|.nc rfl<|.fa rfl<|.lo rfl ?_
 refine .bc (ru a g i _ _ _) (λv d=>?_)
 subst d
 refine .cL (Ey i [] [] r t (by simp) (by simp) _ (λp f=>.inl (h p (by simp[f])))) (λu D2 e=>?_)
 obtain⟨l2,d0,c7,rfl,a6,_,c3,_⟩:=e
 obtain rfl:=rq c3
 obtain⟨U,k2,rfl,_⟩:=a6.shape
 refine .bb (Fk w _ H b4 (by simp only[ad8,ad9];omega) U k2 _) (λu I b5=>?_)
 refine .z<|.mo rfl<|.mo rfl<|.nc rfl<|.fa rfl<|.lo rfl ?_
 refine .bc (ru a g i _ _ _) (λv d=>?_)
 subst d
 refine .cL (Ex i [] [] r t (by simp) _ (λp f=>.inl (h p (by simp[f])))) (λu D3 e=>?_)
 obtain⟨l3,d1,c8,rfl,a7,_,c4,_⟩:=e
 obtain rfl:l3=[]:=by have:=c4.length_eq;simpa[gl,dc]using this
 obtain⟨V,k3,rfl,_⟩:=a7.shape
 refine .bb (Fj w _ I b5 (by simp only[ad8,ad9];omega) V k3 _) (λu J b6=>?_)
 refine .z<|.mo rfl<|.mo rfl<|.nc rfl<|.fa rfl<|.lo rfl ?_
 refine .bc (rG a g j _ _ _) (λv d=>?_)
 subst d
 refine .bc (Hq j [] 0 s A _ (λp f=>.inl (h p (by simp[f])))) (λv d=>?_)
 subst d
 refine .q (.gg (a:=0) rfl (by decide)) ?_
 refine .bb (iZ w _ J b6 0 (by decide) (by simp only[ad8,ad9];omega) _) (λu K e=>?_)
 obtain⟨rfl,b7⟩:=e
 refine .z<|.mo rfl<|.mo rfl<|.nc rfl<|.fa rfl<|.lo rfl ?_
 refine .bc (rG a g j _ _ _) (λv d=>?_)
 subst d
 refine .cL (Hr j [] 0 s A (by simp) _ (λp f=>.inl (h p (by simp[f])))) (λu D4 e=>?_)
 obtain⟨l4,d2,c9,rfl,a8,_,c5,_⟩:=e
 obtain rfl:l4=[]:=by have:=c5.length_eq;simpa[kv,cM]using this
 obtain⟨W,k4,rfl,_⟩:=a8.shape
 refine .bb (Fm w _ K b7 (by simp only[ad8,ad9];omega) W k4 _) (λu L b8=>?_)
 refine .zs<|.bF [6,12] mixed ?_
 refine .tO 0 rfl .move<|.tO 1 rfl .move<|.tO 2 rfl (.nilCheck rfl)<|.tO 3 rfl (.fieldAddr rfl)<|.tO 4 rfl (.bO rfl)<|.tK 7 rfl .move ?_
 refine .tK 8 rfl (.ox rfl) ?_
 refine .tK 9 rfl (.hY rfl) ?_
 refine .tK 10 rfl (.bO rfl) ?_
 refine .sT 5 rfl ?_
 refine .bc (l.mono λb o k=>.inl k).head (λv d=>?_)
 subst d
 refine .nil (Next.sub ?_)
 refine .sT 6 rfl ?_
 refine .bb (iZ w _ L b8 0 (by decide) (by simp only[ad8,ad9];omega) _) (λu M e=>?_)
 obtain⟨rfl,b9⟩:=e
 refine .nil (Next.mod rfl ?_)
 refine .sT 11 rfl ?_
 refine .bc (l.mono λb o k=>.inl k).EH (λv d=>?_)
 subst d
 refine .nil (Next.mod rfl ?_)
 refine .sT 12 rfl ?_
 refine .bb (iZ w _ M b9 0 (by decide) (by simp only[ad8,ad9];omega) _) (λu N e=>?_)
 obtain⟨rfl,c0⟩:=e
 refine .nil (Next.mod rfl ?_)
 refine RA.nil (by kernel_rfl) ?_
 refine aD<|.sr<|.mo rfl<|.mo rfl<|.nc rfl<|.fa rfl<|.lo rfl ?_
 refine .cL (F9 (l.mono λb o k=>.inl k) (by simp)) (λu D5 e=>?_)
 obtain⟨l5,a9,c6,_⟩:=e
 obtain rfl:l5=[]:=List.Perm.eq_nil c6
 obtain⟨X,k5,rfl,_⟩:=a9.shape
 refine .bb (Fl w _ N c0 (by simp only[ad8,ad9];omega) X k5 _) (λu O c1=>?_)
 refine .z<|.mo rfl<|.mo rfl<|.nc rfl<|.fa rfl<|.lo rfl ?_
 refine .bc (GH c _) (λv d=>?_)
 subst d
 refine .q (.gg (a:=0) rfl (by decide)) ?_
 refine .bb (iZ w _ O c1 0 (by decide) (by simp only[ad8,ad9];omega) _) (λu D e=>?_)
 obtain⟨rfl,b2⟩:=e
 refine .z<|.mo rfl<|.mo rfl<|.nc rfl<|.fa rfl<|.lo rfl ?_
 refine .bc (GK c _) (λv d=>?_)
 subst d
 refine .bb (Fo w _ D b2 (by simp only[ad8,ad9];omega) none 0 _) (λu F b3=>?_)
 refine .z<|.mo rfl ?_
 refine .cL (Hu w _ F b3 (by simp only[ad8,ad9];omega) _ (λp f=>.inr (by simp[f]))) (λu G y=>?_)
 have iO:=y.aL
 refine .az rfl ?_
 refine .ret (aZ _ (.one (.tmp rfl)) (.one [0] _) ?_)
 ·exact⟨G,by simp[take],_,y,by simp only[ad8,ad9];omega⟩
theorem Fu(R:aA):Spec prog 13 [] R [] λu H'=>u=.bool true/\H'=[]:=by
 refine Spec.body func13 rfl results13 ntmps13 rfl ?_
 refine .sr<|.ag rfl<|.z ?_
 refine .call [] (Fv _) (λu H' d=>?_)
 obtain⟨A,l,h,w,rfl,q,a,b,c,rfl,rfl,o,k,rfl⟩:=d
 conv=>arg 8;simp only[rest,cq,aea,aeb]
 refine .ag rfl<|.zs<|.sr<|.mo rfl<|.q (.pZ rfl rfl) ?_
 refine .mo rfl<|.gt rfl ?_
 refine .mo rfl<|.gt rfl ?_
 refine .q (.dR (out:=dZ ko oz) rfl rfl) ?_
 refine .gt rfl ?_
 refine .call [0,0,0] (FA q a b c l h o k _) (λu H' d=>?_)
 obtain⟨g,rfl,rfl,j⟩:=d
 conv=>arg 8;simp only[rest,cq,aea,aeb]
 obtain⟨i,m,n,x,y,B,s,_⟩:=id j
 have D:PS g (pT a) [pT i,pT m,pT n,.int .i64 7]:=PS.of (E:=178) (fr:=(0,0)) (by rw[s];simp)
 refine .gt rfl ?_
 refine .q (.Eh underlying53 rfl rfl nX rfl) ?_
 refine .gt rfl ?_
 refine .q (.cast (v':=.bool false) .eb rfl) ?_
 refine .q .dv<|.zn<|.bB<|.kn<|.sr<|.mo rfl ?_
 refine .bc (GQ q a b c _) (λv f=>?_)
 subst f
 refine .bc (rC a i _ _ _ _) (λv f=>?_)
 subst f
 refine .q (.cast (v':=.bool true) .cA rfl) ?_
 refine .mo rfl<|.gt rfl ?_
 refine .mo rfl<|.gt rfl ?_
 refine .cL (Fs q a b c g h j k _ (PC.of (E:=51) (fr:=(0,0)) (.inr (by simp))) (λp e=>.inr (by simp[e])) (λp e=>.inr (by simp[e])) (PC.of (E:=253) (fr:=(0,0)) (.inr (by simp)))) (λu t d=>?_)
 obtain⟨F,r,C⟩:=d
 refine .gt rfl ?_
 refine .q (.fV r) ?_
 refine .gt rfl ?_
 refine .q .gtr<|.q .ed<|.az rfl ?_
 refine .ret (br rfl ?_)
 ·exact⟨congrArg Value.bool (decide_eq_true (by omega)),rfl⟩
theorem Fq{H:Type}{enc:TypeId×Value->H}{W:World}{f:Nat}{cs:List Value}{x:DataW H×List MemPlace}(h:DataW.trod enc prog W 0 (λ_=>true) true f 30 cs=some x):∃(w:OW) (o:fN),cs=dZ w o/\gI (Rw W) w o/\(-9223372036854775808<=o.n/\o.n<=9223372036854775807)/\o.rev<di:=by
 obtain⟨B,a⟩:=lj underlying30 h
 have hc:prog.cellsOf 30=19:=by kernel_rfl
 rw[hc]at B
 have b:prog.cellsOf 2=1:=by kernel_rfl
 have J:prog.cellsOf 3=1:=by kernel_rfl
 have K:prog.cellsOf 9=1:=by kernel_rfl
 have C:prog.cellsOf 22=1:=by kernel_rfl
 have D:prog.cellsOf 24=4:=by kernel_rfl
 have E:prog.cellsOf 25=1:=by kernel_rfl
 have F:prog.cellsOf 26=1:=by kernel_rfl
 have G:prog.cellsOf 27=1:=by kernel_rfl
 have I:prog.cellsOf 28=1:=by kernel_rfl
 match cs,B with
 |[a0,a1,a2,a3,a4,a5,a6,a7,a8,a9,a10,a11,a12,a13,a14,a15,a16,a17,a18],_=>
  obtain⟨n0,y0,d⟩:∃n y,DataW.trod enc prog W 0 (λ_=>true) true n 3 (([a0,a1,a2,a3,a4,a5,a6,a7,a8,a9,a10,a11,a12,a13,a14,a15,a16,a17,a18].drop 0).take (prog.cellsOf 3))=some y:=a 0 _ rfl
  obtain⟨n1,y1,e⟩:∃n y,DataW.trod enc prog W 0 (λ_=>true) true n 2 (([a0,a1,a2,a3,a4,a5,a6,a7,a8,a9,a10,a11,a12,a13,a14,a15,a16,a17,a18].drop 1).take (prog.cellsOf 2))=some y:=a 1 _ rfl
  obtain⟨n2,y2,q⟩:∃n y,DataW.trod enc prog W 0 (λ_=>true) true n 24 (([a0,a1,a2,a3,a4,a5,a6,a7,a8,a9,a10,a11,a12,a13,a14,a15,a16,a17,a18].drop 2).take (prog.cellsOf 24))=some y:=a 2 _ rfl
  obtain⟨n3,y3,r⟩:∃n y,DataW.trod enc prog W 0 (λ_=>true) true n 9 (([a0,a1,a2,a3,a4,a5,a6,a7,a8,a9,a10,a11,a12,a13,a14,a15,a16,a17,a18].drop 6).take (prog.cellsOf 9))=some y:=a 3 _ rfl
  obtain⟨n4,y4,s⟩:∃n y,DataW.trod enc prog W 0 (λ_=>true) true n 9 (([a0,a1,a2,a3,a4,a5,a6,a7,a8,a9,a10,a11,a12,a13,a14,a15,a16,a17,a18].drop 7).take (prog.cellsOf 9))=some y:=a 4 _ rfl
  obtain⟨n5,y5,t⟩:∃n y,DataW.trod enc prog W 0 (λ_=>true) true n 9 (([a0,a1,a2,a3,a4,a5,a6,a7,a8,a9,a10,a11,a12,a13,a14,a15,a16,a17,a18].drop 8).take (prog.cellsOf 9))=some y:=a 5 _ rfl
  obtain⟨n6,y6,u⟩:∃n y,DataW.trod enc prog W 0 (λ_=>true) true n 9 (([a0,a1,a2,a3,a4,a5,a6,a7,a8,a9,a10,a11,a12,a13,a14,a15,a16,a17,a18].drop 9).take (prog.cellsOf 9))=some y:=a 6 _ rfl
  obtain⟨n7,y7,v⟩:∃n y,DataW.trod enc prog W 0 (λ_=>true) true n 22 (([a0,a1,a2,a3,a4,a5,a6,a7,a8,a9,a10,a11,a12,a13,a14,a15,a16,a17,a18].drop 10).take (prog.cellsOf 22))=some y:=a 7 _ rfl
  obtain⟨n8,y8,z⟩:∃n y,DataW.trod enc prog W 0 (λ_=>true) true n 9 (([a0,a1,a2,a3,a4,a5,a6,a7,a8,a9,a10,a11,a12,a13,a14,a15,a16,a17,a18].drop 11).take (prog.cellsOf 9))=some y:=a 8 _ rfl
  obtain⟨n9,y9,A⟩:∃n y,DataW.trod enc prog W 0 (λ_=>true) true n 9 (([a0,a1,a2,a3,a4,a5,a6,a7,a8,a9,a10,a11,a12,a13,a14,a15,a16,a17,a18].drop 12).take (prog.cellsOf 9))=some y:=a 9 _ rfl
  obtain⟨c6,d7,g⟩:∃n y,DataW.trod enc prog W 0 (λ_=>true) true n 25 (([a0,a1,a2,a3,a4,a5,a6,a7,a8,a9,a10,a11,a12,a13,a14,a15,a16,a17,a18].drop 13).take (prog.cellsOf 25))=some y:=a 10 _ rfl
  obtain⟨c7,d8,i⟩:∃n y,DataW.trod enc prog W 0 (λ_=>true) true n 25 (([a0,a1,a2,a3,a4,a5,a6,a7,a8,a9,a10,a11,a12,a13,a14,a15,a16,a17,a18].drop 14).take (prog.cellsOf 25))=some y:=a 11 _ rfl
  obtain⟨c8,d9,j⟩:∃n y,DataW.trod enc prog W 0 (λ_=>true) true n 26 (([a0,a1,a2,a3,a4,a5,a6,a7,a8,a9,a10,a11,a12,a13,a14,a15,a16,a17,a18].drop 15).take (prog.cellsOf 26))=some y:=a 12 _ rfl
  obtain⟨d0,f0,l⟩:∃n y,DataW.trod enc prog W 0 (λ_=>true) true n 26 (([a0,a1,a2,a3,a4,a5,a6,a7,a8,a9,a10,a11,a12,a13,a14,a15,a16,a17,a18].drop 16).take (prog.cellsOf 26))=some y:=a 13 _ rfl
  obtain⟨d1,f1,m⟩:∃n y,DataW.trod enc prog W 0 (λ_=>true) true n 27 (([a0,a1,a2,a3,a4,a5,a6,a7,a8,a9,a10,a11,a12,a13,a14,a15,a16,a17,a18].drop 17).take (prog.cellsOf 27))=some y:=a 14 _ rfl
  obtain⟨c,f2,p⟩:∃n y,DataW.trod enc prog W 0 (λ_=>true) true n 28 (([a0,a1,a2,a3,a4,a5,a6,a7,a8,a9,a10,a11,a12,a13,a14,a15,a16,a17,a18].drop 18).take (prog.cellsOf 28))=some y:=a 15 _ rfl
  simp only[b,J,K,C,D,E,F,G,I,List.drop_zero,List.drop_succ_cons,List.take_succ_cons,List.take_zero]at d e q r s t u v z A g i j l m p
  obtain⟨z0,L⟩:=EL (k:=.i64) d
  obtain⟨z1,M,l1,m1⟩:=og (k:=.i64) e
  obtain⟨r2,b,V,b5⟩:=ud q
  obtain⟨s3,X⟩:=jT r
  obtain⟨s4,Y⟩:=jT s
  obtain⟨s5,Z⟩:=jT t
  obtain⟨s6,e6⟩:=jT u
  obtain⟨v7,l7,e7,b6⟩:=oR v
  obtain⟨s8,e8⟩:=jT z
  obtain⟨s9,e9⟩:=jT A
  obtain⟨d2,b7,N,b0⟩:=pu g
  obtain⟨d3,b8,O,b1⟩:=pu i
  obtain⟨d4,b9,Q,b2,_⟩:=sN j
  obtain⟨d5,c0,S,b3,_⟩:=sN l
  obtain⟨d6,c1,T,b4,_⟩:=tX m
  obtain⟨f3,U,c4,c5⟩:=Hj p
  obtain⟨c,rfl⟩:=Int.eq_ofNat_of_zero_le c4
  cases L;cases M;cases V;cases X;cases Y;cases Z;cases e6;cases e7;cases e8;cases e9;cases N;cases O;cases Q;cases S;cases T;cases U
  exact⟨⟨r2,_,_,_,_,_,_⟩,⟨z0,z1,b,s3,s4,s5,s6,l7,s8,s9,b7,b8,b9,c0,c1,c⟩,rfl,⟨b5,b6,b0,b1,b2,b3,b4⟩,⟨l1,m1⟩,by show c<di;unfold di;omega⟩
theorem FU(b:Nat)(T:ay)(h:eU b none T)(R:aA):Spec prog 245 [pT b,.func (.func 34) #[] #[]] R [T] λu H'=>∃T',H'=[T']/\u=sZ/\eU b none T':=by
 refine Spec.body func245 rfl results245 ntmps245 rfl ?_
 refine .sr<|.ag rfl<|.z<|.ag rfl<|.zs<|.sr<|.mo rfl ?_
 refine .bb (lm b none T h 4096 (by decide) _) (λu a e=>?_)
 obtain⟨n,i,rfl,s,d,o⟩:=e
 obtain rfl:i=none:=by
  cases i with
  |none=>rfl
  |some r=>simp at o
 obtain⟨p,f,t,m⟩:=d.read
 have l:f≠0:=λk=>by have:=m.1 k;simp at this
 refine .mo rfl<|.zn<|.block ?_
 refine .loop (X:=Unit) (λ_=>True) (λ_=>[(0,pT b),(1,.func (.func 34) #[] #[]),(5,sZ),(7,iN n),(8,.int .i64 ((0:Nat):Int))]) (λ_=>[a]) (λ_=>0) () ad7 kE.c.c.c.c.c rH ?_
 rintro⟨⟩ _
 refine .sr<|.q .lss<|.zs ?_
 refine .cond rfl (λj=>?_) λj=>?_
 refine .kn<|.seq<|.block<|.seq<|.sr<|.mo rfl ?_
 refine .bc (jC b p f _) (λu e=>?_)
 subst e
 refine .q .eb<|.zn ?_
 refine .cond rfl (λg=>?_) λg=>?_
 refine .sr<|.az rfl ?_
 refine .ret (aT (bg (aT (cc (bg (aT (aZ _ (.one (.tmp rfl)) (.one [0] _) ?_)))))))
 ·exact⟨a,by simp[take],rfl,d⟩
 ·exact absurd (by simpa using g) l
 refine .exit<|aP<|aV<|aR<|aD<|.sr<|.mo rfl<|.az rfl ?_
 refine .ret (aZ _ (.one (.tmp rfl)) (.one [0] _) ?_)
 ·exact⟨a,by simp[take],rfl,d⟩
theorem FW(b:Nat)(T:ay)(h:eU b none T)(R:aA):Spec prog 247 [pT b,.func (.func 248) #[] #[]] R [T] λu H'=>∃T',H'=[T']/\u=sZ/\eU b none T':=by
 refine Spec.body func247 rfl results247 ntmps247 rfl ?_
 refine .sr<|.ag rfl<|.z<|.ag rfl<|.zs<|.sr<|.mo rfl ?_
 refine .bb (lm b none T h 4096 (by decide) _) (λu a e=>?_)
 obtain⟨n,i,rfl,s,d,o⟩:=e
 obtain rfl:i=none:=by
  cases i with
  |none=>rfl
  |some r=>simp at o
 obtain⟨p,f,t,m⟩:=d.read
 have l:f≠0:=λk=>by have:=m.1 k;simp at this
 refine .mo rfl<|.zn<|.block ?_
 refine .loop (X:=Unit) (λ_=>True) (λ_=>[(0,pT b),(1,.func (.func 248) #[] #[]),(5,sZ),(7,iN n),(8,.int .i64 ((0:Nat):Int))]) (λ_=>[a]) (λ_=>0) () ad7 kE.c.c.c.c.c rH ?_
 rintro⟨⟩ _
 refine .sr<|.q .lss<|.zs ?_
 refine .cond rfl (λj=>?_) λj=>?_
 refine .kn<|.seq<|.block<|.seq<|.sr<|.mo rfl ?_
 refine .bc (jC b p f _) (λu e=>?_)
 subst e
 refine .q .eb<|.zn ?_
 refine .cond rfl (λg=>?_) λg=>?_
 refine .sr<|.az rfl ?_
 refine .ret (aT (bg (aT (cc (bg (aT (aZ _ (.one (.tmp rfl)) (.one [0] _) ?_)))))))
 ·exact⟨a,by simp[take],rfl,d⟩
 ·exact absurd (by simpa using g) l
 refine .exit<|aP<|aV<|aR<|aD<|.sr<|.mo rfl<|.az rfl ?_
 refine .ret (aZ _ (.one (.tmp rfl)) (.one [0] _) ?_)
 ·exact⟨a,by simp[take],rfl,d⟩
theorem FV(b:Nat)(T:ay)(h:eU b none T)(R:aA):Spec prog 249 [pT b,.func (.func 250) #[] #[]] R [T] λu H'=>∃T',H'=[T']/\u=sZ/\eU b none T':=by
 refine Spec.body func249 rfl results249 ntmps249 rfl ?_
 refine .sr<|.ag rfl<|.z<|.ag rfl<|.zs<|.sr<|.mo rfl ?_
 refine .bb (lm b none T h 4096 (by decide) _) (λu a e=>?_)
 obtain⟨n,i,rfl,s,d,o⟩:=e
 obtain rfl:i=none:=by
  cases i with
  |none=>rfl
  |some r=>simp at o
 obtain⟨p,f,t,m⟩:=d.read
 have l:f≠0:=λk=>by have:=m.1 k;simp at this
 refine .mo rfl<|.zn<|.block ?_
 refine .loop (X:=Unit) (λ_=>True) (λ_=>[(0,pT b),(1,.func (.func 250) #[] #[]),(5,sZ),(7,iN n),(8,.int .i64 ((0:Nat):Int))]) (λ_=>[a]) (λ_=>0) () ad7 kE.c.c.c.c.c rH ?_
 rintro⟨⟩ _
 refine .sr<|.q .lss<|.zs ?_
 refine .cond rfl (λj=>?_) λj=>?_
 refine .kn<|.seq<|.block<|.seq<|.sr<|.mo rfl ?_
 refine .bc (jC b p f _) (λu e=>?_)
 subst e
 refine .q .eb<|.zn ?_
 refine .cond rfl (λg=>?_) λg=>?_
 refine .sr<|.az rfl ?_
 refine .ret (aT (bg (aT (cc (bg (aT (aZ _ (.one (.tmp rfl)) (.one [0] _) ?_)))))))
 ·exact⟨a,by simp[take],rfl,d⟩
 ·exact absurd (by simpa using g) l
 refine .exit<|aP<|aV<|aR<|aD<|.sr<|.mo rfl<|.az rfl ?_
 refine .ret (aZ _ (.one (.tmp rfl)) (.one [0] _) ?_)
 ·exact⟨a,by simp[take],rfl,d⟩
theorem FY(b:Nat)(T:ay)(h:eU b none T)(R:aA):Spec prog 252 [pT b,.func (.func 253) #[] #[]] R [T] λu H'=>∃T',H'=[T']/\u=sZ/\eU b none T':=by
 refine Spec.body func252 rfl results252 ntmps252 rfl ?_
 refine .sr<|.ag rfl<|.z<|.ag rfl<|.zs<|.sr<|.mo rfl ?_
 refine .bb (lm b none T h 4096 (by decide) _) (λu a e=>?_)
 obtain⟨n,i,rfl,s,d,o⟩:=e
 obtain rfl:i=none:=by
  cases i with
  |none=>rfl
  |some r=>simp at o
 obtain⟨p,f,t,m⟩:=d.read
 have l:f≠0:=λk=>by have:=m.1 k;simp at this
 refine .mo rfl<|.zn<|.block ?_
 refine .loop (X:=Unit) (λ_=>True) (λ_=>[(0,pT b),(1,.func (.func 253) #[] #[]),(5,sZ),(7,iN n),(8,.int .i64 ((0:Nat):Int))]) (λ_=>[a]) (λ_=>0) () ad7 kE.c.c.c.c.c rH ?_
 rintro⟨⟩ _
 refine .sr<|.q .lss<|.zs ?_
 refine .cond rfl (λj=>?_) λj=>?_
 refine .kn<|.seq<|.block<|.seq<|.sr<|.mo rfl ?_
 refine .bc (jC b p f _) (λu e=>?_)
 subst e
 refine .q .eb<|.zn ?_
 refine .cond rfl (λg=>?_) λg=>?_
 refine .sr<|.az rfl ?_
 refine .ret (aT (bg (aT (cc (bg (aT (aZ _ (.one (.tmp rfl)) (.one [0] _) ?_)))))))
 ·exact⟨a,by simp[take],rfl,d⟩
 ·exact absurd (by simpa using g) l
 refine .exit<|aP<|aV<|aR<|aD<|.sr<|.mo rfl<|.az rfl ?_
 refine .ret (aZ _ (.one (.tmp rfl)) (.one [0] _) ?_)
 ·exact⟨a,by simp[take],rfl,d⟩
theorem FX(b:Nat)(T:ay)(h:eU b none T)(R:aA):Spec prog 255 [pT b,.func (.func 256) #[] #[]] R [T] λu H'=>∃T',H'=[T']/\u=sZ/\eU b none T':=by
 refine Spec.body func255 rfl results255 ntmps255 rfl ?_
 refine .sr<|.ag rfl<|.z<|.ag rfl<|.zs<|.sr<|.mo rfl ?_
 refine .bb (lm b none T h 4096 (by decide) _) (λu a e=>?_)
 obtain⟨n,i,rfl,s,d,o⟩:=e
 obtain rfl:i=none:=by
  cases i with
  |none=>rfl
  |some r=>simp at o
 obtain⟨p,f,t,m⟩:=d.read
 have l:f≠0:=λk=>by have:=m.1 k;simp at this
 refine .mo rfl<|.zn<|.block ?_
 refine .loop (X:=Unit) (λ_=>True) (λ_=>[(0,pT b),(1,.func (.func 256) #[] #[]),(5,sZ),(7,iN n),(8,.int .i64 ((0:Nat):Int))]) (λ_=>[a]) (λ_=>0) () ad7 kE.c.c.c.c.c rH ?_
 rintro⟨⟩ _
 refine .sr<|.q .lss<|.zs ?_
 refine .cond rfl (λj=>?_) λj=>?_
 refine .kn<|.seq<|.block<|.seq<|.sr<|.mo rfl ?_
 refine .bc (jC b p f _) (λu e=>?_)
 subst e
 refine .q .eb<|.zn ?_
 refine .cond rfl (λg=>?_) λg=>?_
 refine .sr<|.az rfl ?_
 refine .ret (aT (bg (aT (cc (bg (aT (aZ _ (.one (.tmp rfl)) (.one [0] _) ?_)))))))
 ·exact⟨a,by simp[take],rfl,d⟩
 ·exact absurd (by simpa using g) l
 refine .exit<|aP<|aV<|aR<|aD<|.sr<|.mo rfl<|.az rfl ?_
 refine .ret (aZ _ (.one (.tmp rfl)) (.one [0] _) ?_)
 ·exact⟨a,by simp[take],rfl,d⟩
theorem FZ(b:Nat)(T:ay)(h:eU b none T)(R:aA):Spec prog 258 [pT b,.func (.func 259) #[] #[]] R [T] λu H'=>∃T',H'=[T']/\u=sZ/\eU b none T':=by
 refine Spec.body func258 rfl results258 ntmps258 rfl ?_
 refine .sr<|.ag rfl<|.z<|.ag rfl<|.zs<|.sr<|.mo rfl ?_
 refine .bb (lm b none T h 4096 (by decide) _) (λu a e=>?_)
 obtain⟨n,i,rfl,s,d,o⟩:=e
 obtain rfl:i=none:=by
  cases i with
  |none=>rfl
  |some r=>simp at o
 obtain⟨p,f,t,m⟩:=d.read
 have l:f≠0:=λk=>by have:=m.1 k;simp at this
 refine .mo rfl<|.zn<|.block ?_
 refine .loop (X:=Unit) (λ_=>True) (λ_=>[(0,pT b),(1,.func (.func 259) #[] #[]),(5,sZ),(7,iN n),(8,.int .i64 ((0:Nat):Int))]) (λ_=>[a]) (λ_=>0) () ad7 kE.c.c.c.c.c rH ?_
 rintro⟨⟩ _
 refine .sr<|.q .lss<|.zs ?_
 refine .cond rfl (λj=>?_) λj=>?_
 refine .kn<|.seq<|.block<|.seq<|.sr<|.mo rfl ?_
 refine .bc (jC b p f _) (λu e=>?_)
 subst e
 refine .q .eb<|.zn ?_
 refine .cond rfl (λg=>?_) λg=>?_
 refine .sr<|.az rfl ?_
 refine .ret (aT (bg (aT (cc (bg (aT (aZ _ (.one (.tmp rfl)) (.one [0] _) ?_)))))))
 ·exact⟨a,by simp[take],rfl,d⟩
 ·exact absurd (by simpa using g) l
 refine .exit<|aP<|aV<|aR<|aD<|.sr<|.mo rfl<|.az rfl ?_
 refine .ret (aZ _ (.one (.tmp rfl)) (.one [0] _) ?_)
 ·exact⟨a,by simp[take],rfl,d⟩
def gG(R:aA)(p:Value):Prop:=p=.pointer none\/∃q,p=pT q/\R q (.cells [.pointer none,.pointer none,.pointer none].toArray 51 (0,0))
theorem gG.rx{R:aA}{H:aS}{p:Value}(h:gG R p):gG (Rx R H) p:=h.imp id λ⟨q,a,b⟩=>⟨q,a,.inl b⟩
theorem gG.one{R:aA}{p:Value}(h:gG R p):One p:=⟨by rcases h with rfl|⟨q,rfl,_⟩<;>rfl⟩
theorem HJ(R:aA):Spec prog 56 [.pointer none] R [] λv H'=>v=.bool false/\H'=[]:=by
 refine Spec.body func56 rfl results56 ntmps56 rfl ?_
 refine .sr<|.ag rfl<|.z<|.mo rfl<|.q (.jg rfl rfl) ?_
 refine .mo rfl<|.gX<|.gX<|.gX<|.gX<|.gX<|.q .dv<|.az rfl ?_
 refine .ret (br rfl ?_)
 ·exact⟨rfl,rfl⟩
theorem HK(q:Nat)(R:aA) [pc:PC R (pT q) [.pointer none,.pointer none,.pointer none]]:Spec prog 56 [pT q] R [] λv H'=>v=.bool false/\H'=[]:=by
 refine Spec.body func56 rfl results56 ntmps56 rfl ?_
 refine .sr<|.ag rfl<|.z<|.mo rfl<|.q (.jg rfl rfl) ?_
 refine .mo rfl<|.gt rfl ?_
 refine .mo rfl<|.gt rfl ?_
 refine .nc rfl<|.gt rfl ?_
 refine .fa rfl<|.gt rfl ?_
 refine .lo rfl<|.gt rfl ?_
 refine .q (.jg rfl rfl) ?_
 refine .q .ed<|.az rfl ?_
 refine .ret (br rfl ?_)
 ·exact⟨rfl,rfl⟩
theorem mz(p:Value)(R:aA)(h:gG R p):Spec prog 56 [p] R [] λv H'=>v=.bool false/\H'=[]:=by
 rcases h with rfl|⟨q,rfl,a⟩
 ·exact HJ R
 ·have b:=PC.of a
  exact HK q R
theorem HI(p:Value)(R:aA)(h:gG R p):Spec prog 17 [p] R [] λv H'=>v=.pointer none/\H'=[]:=by
 have b:=h.one
 refine Spec.body func17 rfl results17 ntmps17 rfl ?_
 refine .sr<|.ag rfl<|.zs<|.sr<|.mo rfl ?_
 refine .bc (mz p _ h.rx) (λv a=>?_)
 subst a
 refine .q .not<|.zn<|.dG<|.sr<|.az rfl ?_
 refine .ret (aT (br rfl ?_))
 ·exact⟨rfl,rfl⟩
theorem HM(p:Value)(R:aA)(h:gG R p):Spec prog 18 [p] R [] λv H'=>v=.pointer none/\H'=[]:=by
 have b:=h.one
 refine Spec.body func18 rfl results18 ntmps18 rfl ?_
 refine .sr<|.ag rfl<|.zs<|.sr<|.mo rfl ?_
 refine .bc (mz p _ h.rx) (λv a=>?_)
 subst a
 refine .q .not<|.zn<|.dG<|.sr<|.az rfl ?_
 refine .ret (aT (br rfl ?_))
 ·exact⟨rfl,rfl⟩
theorem HL(p:Value)(R:aA)(h:gG R p):Spec prog 19 [p] R [] λv H'=>v=.pointer none/\H'=[]:=by
 have b:=h.one
 refine Spec.body func19 rfl results19 ntmps19 rfl ?_
 refine .sr<|.ag rfl<|.zs<|.sr<|.mo rfl ?_
 refine .bc (mz p _ h.rx) (λv a=>?_)
 subst a
 refine .q .not<|.zn<|.dG<|.sr<|.az rfl ?_
 refine .ret (aT (br rfl ?_))
 ·exact⟨rfl,rfl⟩
theorem tc(p:Value)(R:aA)(h:gG R p):Spec prog 20 [p] R [] λv H'=>v=sZ/\H'=[]:=by
 have b:=h.one
 refine Spec.body func20 rfl results20 ntmps20 rfl ?_
 refine .sr<|.ag rfl<|.zs<|.sr<|.mo rfl ?_
 refine .bc (mz p _ h.rx) (λv a=>?_)
 subst a
 refine .q .not<|.zn<|.dG<|.sr<|.az rfl ?_
 refine .ret (aT (br rfl ?_))
 ·exact⟨rfl,rfl⟩
theorem HG(p:Value)(w:OW)(o:fN)(R:aA)(h:gG R p){R':aA}(ho:gI R' w o):Spec prog 16 [p,.agg (dZ w o).toArray] R [] λv H'=>v=.agg [.string ⟨#[]⟩,.string ⟨#[]⟩,.int .u64 0,.int .i64 1].toArray/\H'=[]:=by
 have d:=h.one
 have e:cg (dZ w o):=⟨ho.cK⟩
 refine Spec.body func16 rfl results16 ntmps16 rfl ?_
 refine .sr ?_
 refine .cJ rfl (λb=>?_)
 refine .dz (λc=>?_)
 refine .zs<|.sr<|.mo rfl ?_
 refine .bc (mz p _ h.rx) (λv a=>?_)
 subst a
 refine .q .not<|.zn<|.dG<|.sr ?_
 refine .bc (rD _ _) (λv a=>?_)
 subst a
 refine .dx rfl rfl<|.zn ?_
 refine .ret (aT (aZ _ (.one (.hN rfl rfl)) (.none _) ?_))
 ·exact⟨rfl,rfl⟩
theorem GL(n:Int)(R:aA):Spec prog 260 [sZ,.int .i64 n] R [] λv H'=>∃p e,v=.tuple [.pointer p,.int .i64 e].toArray/\H'=[]:=by
 refine Spec.body func260 rfl results260 ntmps260 rfl ?_
 refine .sr<|.ag rfl<|.ag rfl<|.z ?_
 refine .cL (sq _) (λu g f=>?_)
 obtain⟨b,rfl,rfl⟩:=f
 refine .ag rfl<|.zs<|.sr<|.mo rfl<|.q .lss<|.zn ?_
 refine .cond rfl (λd=>?_) λd=>?_
 refine .sr<|.ag rfl<|.az rfl ?_
 refine .ret (aT (aZ _ (.two (.tmp rfl) (.tmp rfl)) (.none _) ?_))
 ·exact⟨_,_,rfl,rfl⟩
 refine .kn<|.seq<|.sr<|.mo rfl<|.q (.fw rfl) ?_
 refine .mo rfl<|.zn<|.block ?_
 refine .loop (X:=Unit) (λ_=>True) (λ_=>[(1,.int .i64 n),(6,pT b),(12,sZ),(13,.int .i64 ((0:Nat):Int)),(14,.int .i64 0)]) (λ_=>[bl b [.bool true,sZ,.int .i64 0] 253]) (λ_=>0) () ad7 kE.c.c.c.c.c rH ?_
 rintro⟨⟩ _
 refine .sr<|.q .lss<|.zs ?_
 refine .cond rfl (λa=>?_) λa=>?_
 ·exfalso;simp at a
 refine .exit<|aP<|aV<|aR<|aD<|.sr<|.mo rfl<|.mo rfl<|.nc rfl<|.fa rfl<|.cO rfl rfl<|.z<|.mo rfl<|.ag rfl<|.az rfl ?_
 refine .ret (aZ _ (.two (.tmp rfl) (.tmp rfl)) (.none _) ?_)
 ·exact⟨_,_,rfl,rfl⟩
theorem FB(R:aA):Spec prog 257 [sZ] R [] λv H'=>v=.tuple [sZ,.bool true].toArray/\H'=[]:=by
 refine Spec.body func257 rfl results257 ntmps257 rfl ?_
 refine .sr<|.ag rfl<|.ag rfl<|.z<|.ag rfl<|.zs<|.sr<|.mo rfl<|.q (.fw rfl) ?_
 refine .mo rfl<|.zn<|.block ?_
 refine .loop (X:=Unit) (λ_=>True) (λ_=>[(4,sZ),(9,sZ),(10,.int .i64 ((0:Nat):Int)),(11,.int .i64 0)]) (λ_=>[]) (λ_=>0) () ad7 kE.c.c.c.c rH ?_
 rintro⟨⟩ _
 refine .sr<|.q .lss<|.zs ?_
 refine .cond rfl (λa=>?_) λa=>?_
 ·exfalso;simp at a
 refine .exit<|aP<|aV<|aR<|aD<|.sr<|.mo rfl<|.ag rfl<|.az rfl ?_
 refine .ret (aZ _ (.two (.tmp rfl) (.tmp rfl)) (.none _) ?_)
 ·exact⟨rfl,rfl⟩
theorem uq{s:Option (List UInt8)}{x:Nat}(h:(some ([]:List UInt8)).bind gm=s.map λr=>(x,r)):s=none:=by
 cases s with
 |none=>rfl
 |some r=>exact absurd h (by simp[gm,kp])
theorem mL{s:Option (List UInt8)}{x:Nat}(h:(none:Option (List UInt8)).bind gm=s.map λr=>(x,r)):s=none:=by
 cases s with
 |none=>rfl
 |some r=>simp at h
theorem Fy(b:Nat)(T:ay)(h:eU b (some []) T)(R:aA):Spec prog 166 [pT b] R [T] λu H'=>u=.pointer none/\H'=[]:=by
  refine Spec.body func166 rfl results166 ntmps166 rfl ?_
  refine .sr<|.ag rfl<|.z<|.mo rfl ?_
  refine .bb (lq b _ T h _) (λu o a=>?_)
  obtain⟨x1,s1,rfl,a0,K,E⟩:=a
  obtain rfl:=uq E
  refine .q .ez<|.ag rfl<|.z<|.mo rfl ?_
  refine .bb (FU b o K _) (λu v a=>?_)
  obtain⟨rfl,M⟩:=a
  refine .cL (ET (sZ) [] _ RS.jM (λp c=>by cases c) (λp c=>by cases c)) (λu V a=>?_)
  obtain⟨g2,rfl⟩:∃g,u=.tuple [pT g,.int .i64 0].toArray:=by
    rcases a with⟨_,g,d,_⟩|⟨d,_⟩
    ·exact⟨g,d⟩
    ·exact absurd d (by decide)
  refine .mo rfl<|.q .extract<|.q .extract<|.ag rfl<|.ag rfl<|.zs<|.sr<|.mo rfl<|.q (.cast (v':=.bool false) .eb rfl) ?_
  refine .zn<|.bB<|.kn<|.sr<|.mo rfl ?_
  refine .bb (FW b v M _) (λu w a=>?_)
  obtain⟨rfl,l⟩:=a
  refine .mo rfl ?_
  refine .bb (FV b w l _) (λu x a=>?_)
  obtain⟨rfl,m⟩:=a
  refine .cL (EC (sZ) (sZ) [] [] _ RS.jM (λp c=>by cases c) (λp c=>by cases c) RS.jM (λp c=>by cases c) (λp c=>by cases c)) (λu W a=>?_)
  obtain⟨g4,rfl⟩:∃g,u=.tuple [pT g,.int .i64 0].toArray:=by
    rcases a with⟨_,g,d,_⟩|⟨d,_⟩
    ·exact⟨g,d⟩
    ·exact absurd d (by simp[dX,gK,jt])
  refine .mo rfl<|.q .extract<|.q .extract<|.ag rfl<|.ag rfl<|.zs<|.sr<|.mo rfl<|.q (.cast (v':=.bool false) .eb rfl) ?_
  refine .zn<|.bB<|.kn<|.sr<|.mo rfl ?_
  refine .bb (lq b _ x m _) (λu y a=>?_)
  obtain⟨x5,s5,rfl,a2,N,H⟩:=a
  obtain rfl:=mL H
  refine .q .ez<|.ag rfl<|.z<|.mo rfl ?_
  refine .bb (FY b y N _) (λu A a=>?_)
  obtain⟨rfl,O⟩:=a
  refine .mo rfl ?_
  refine .cL (Hs (sZ) [] _ _ RS.jM (λp c=>by cases c) (λp c=>by cases c)) (λu X a=>?_)
  obtain⟨p6,e6,rfl⟩:∃p e,u=.tuple [.pointer p,.int .i64 e].toArray:=by
    rcases a with⟨_,g,d,_⟩|⟨_,d⟩
    ·exact⟨_,_,d⟩
    ·exact⟨_,_,d⟩
  refine .mo rfl<|.q .extract<|.q .extract<|.ag rfl<|.ag rfl<|.zs<|.sr<|.mo rfl<|.q .eb<|.zn ?_
  refine .cond rfl (λl=>?_) λl=>?_
  refine .sr<|.az rfl ?_
  refine .ret (aT (br rfl ?_))
  ·exact⟨rfl,rfl⟩
  refine .kn<|.sr<|.mo rfl ?_
  refine .bb (lq b _ A O _) (λu B a=>?_)
  obtain⟨x7,s7,rfl,a3,Q,I⟩:=a
  obtain rfl:=mL I
  refine .mo rfl ?_
  refine .bb (lq b _ B Q _) (λu C a=>?_)
  obtain⟨x8,s8,rfl,a4,S,J⟩:=a
  obtain rfl:=mL J
  refine .ag rfl<|.ag rfl<|.z<|.mo rfl ?_
  refine .bb (FX b C S _) (λu D a=>?_)
  obtain⟨rfl,d⟩:=a
  refine .mo rfl<|.mo rfl ?_
  refine .cL (GS (sZ) [] _ _ _ RS.jM (λp c=>by cases c)) (λu Y a=>?_)
  obtain⟨p9,e9,rfl⟩:∃p e,u=.tuple [.pointer p,.int .i64 e].toArray:=by
    obtain⟨p,e,j,k⟩:=a
    rcases k with⟨_,_,g,rfl,_⟩|⟨_,_,rfl⟩
    ·exact⟨_,_,j⟩
    ·exact⟨_,_,j⟩
  refine .mo rfl<|.q .extract<|.q .extract<|.ag rfl<|.ag rfl<|.zs<|.sr<|.mo rfl<|.q .eb<|.zn ?_
  refine .cond rfl (λm=>?_) λm=>?_
  refine .sr<|.az rfl ?_
  refine .ret (aT (br rfl ?_))
  ·exact⟨rfl,rfl⟩
  refine .kn<|.sr<|.mo rfl ?_
  refine .bb (lq b _ D d _) (λu r a=>?_)
  obtain⟨a7,a6,rfl,a1,j,F⟩:=a
  obtain rfl:=mL F
  refine .q .ez<|.ag rfl<|.z<|.mo rfl ?_
  refine .bb (FZ b r j _) (λu s a=>?_)
  obtain⟨rfl,k⟩:=a
  refine .bc (FB _) (λu a=>?_)
  subst a
  refine .mo rfl<|.q .extract<|.q .extract<|.ag rfl<|.ag rfl<|.z<|.mo rfl<|.mo rfl ?_
  refine .call [] (GL _ _) (λu H' a=>?_)
  obtain⟨a5,Z,rfl,rfl⟩:=a
  conv=>arg 8;simp only[rest,cq,aea,aeb]
  refine .mo rfl<|.q .extract<|.q .extract<|.ag rfl<|.ag rfl<|.zs<|.sr<|.mo rfl<|.q .not<|.mo rfl ?_
  refine .split (t:=81) rfl (λi=>?_) (λi=>?_)
  ·simp at i
  refine .gT i<|.mo rfl<|.gT i<|.q .eb<|.q (.bq i) ?_
  refine .mo rfl ?_
  refine .split (t:=85) rfl (λf=>?_) (λf=>?_)
  refine .gF f<|.gF f<|.gF f<|.q (.bu f) ?_
  refine .zn<|.dG<|.sr<|.az rfl ?_
  refine .ret (aT (br rfl ?_))
  ·exact⟨rfl,rfl⟩
  refine .gT f<|.mo rfl<|.gT f ?_
  refine .bc (F2 b none s k _ (λp c=>.inr (by simp[c]))) (λu a=>?_)
  obtain⟨G,rfl,U⟩:=a
  refine .gT f<|.q .eb<|.q (.bq f) ?_
  refine .zn ?_
  refine .cond rfl (λn=>?_) λn=>?_
  refine .sr<|.az rfl ?_
  refine .ret (aT (br rfl ?_))
  ·exact⟨rfl,rfl⟩
  ·exfalso
   first
     |(simp at n;done)
     |(have L:G=0:=by simpa using n
       exact absurd (U.1 L) (by simp))
theorem Fx(R:aA):Spec prog 95 [sZ] R [] λu H'=>u=.tuple [.pointer none,.int .i64 4].toArray/\H'=[]:=by
 refine Spec.body func95 rfl results95 ntmps95 rfl ?_
 refine .sr<|.ag rfl<|.ag rfl<|.z<|.mo rfl ?_
 refine .cL (F8 (sZ) [] _ RS.oy (by simp)) (λu T a=>?_)
 obtain⟨b,rfl,c⟩:=a
 refine .call [0] (Fy b T c _) (λu H' a=>?_)
 obtain⟨rfl,rfl⟩:=a
 conv=>arg 8;simp only[rest,cq,aea,aeb]
 refine .ag rfl<|.zs<|.sr<|.mo rfl<|.q (.pZ rfl rfl) ?_
 refine .mo rfl<|.gX<|.gX<|.gX<|.gX<|.gX<|.q .ed<|.zn<|.dG<|.sr<|.ag rfl<|.az rfl ?_
 refine .ret (aT (aZ _ (.two (.tmp rfl) (.tmp rfl)) (.none _) ?_))
 ·exact⟨rfl,rfl⟩
theorem HH(p:Value)(R:aA)(h:gG R p):Spec prog 21 [p] R [] λv H'=>v=.pointer none/\H'=[]:=by
 have b:=h.one
 refine Spec.body func21 rfl results21 ntmps21 rfl ?_
 refine .sr<|.ag rfl<|.z<|.mo rfl ?_
 refine .bc (tc p _ h.rx) (λv a=>?_)
 subst a
 refine .bc (Fx _) (λv a=>?_)
 subst a
 refine .mo rfl<|.q .extract<|.q .extract<|.ag rfl<|.ag rfl<|.z<|.mo rfl<|.az rfl ?_
 refine .ret (br rfl ?_)
 ·exact⟨rfl,rfl⟩
theorem Fw(w:OW)(o:fN)(R:aA)(h:gI R w o):Spec prog 5 [.agg (dZ w o).toArray] R [] λv H'=>v=.bool true/\H'=[]:=by
 have I:cg (dZ w o):=⟨h.cK⟩
 have x:dh [.s,.s,.i .u64,.i .i64] [.string ⟨#[]⟩,.string ⟨#[]⟩,.int .u64 0,.int .i64 1]:=⟨ad7,ad7,rfl,rfl,ad7⟩
 refine Spec.body func5 rfl results5 ntmps5 rfl ?_
 refine .sr ?_
 refine .cJ rfl (λj=>?_)
 refine .ag rfl<|.zs<|.sr<|.az rfl<|.block ?_
 refine .loop (X:=Nat) (λk=>k<=2) (λk=>[(1,pT j),(3,iN k)]) (λ_=>[bl j (dZ w o) 30]) (λk=>2-k) 0 (by omega) kE.c.c rH ?_
 intro k H
 refine .seq<|.sr<|.mo rfl<|.q .lss<|.zn ?_
 refine .cond rfl (λg=>?_) λg=>?_
 refine .kn<|.seq<|.block<|.sr<|.ag rfl<|.zs ?_
 refine bp.cut (X:=Value×ay) (λy=>One y.1/\(y.1=.pointer none\/∃q,y.1=pT q/\(q,.cells [.pointer none,.pointer none,.pointer none].toArray 51 (0,0))∈y.2)) (λy=>[(1,pT j),(3,iN k),(4,y.1)]) (λy=>[y.2,bl j (dZ w o) 30]) ?_ ?_
 refine .sr<|.mo rfl<|.q .cA<|.zn ?_
 refine .cond rfl (λl=>?_) λl=>?_
 refine .region ?_
 refine .q .dR ?_
 refine .cJ rfl (λd=>?_)
 refine .ag rfl<|.nil ?_
 ·first
   |exact ax (pT d,bl d [.pointer none,.pointer none,.pointer none] 51) ⟨⟨rfl⟩,.inr ⟨d,rfl,by simp⟩⟩ kE.c.c.c rH
   |exact ax (.pointer none,[]) ⟨⟨rfl⟩,.inl rfl⟩ kE.c.c.c (bV.du (by simp))
 refine .skip ?_
 ·first
   |exact ax (pT d,bl d [.pointer none,.pointer none,.pointer none] 51) ⟨⟨rfl⟩,.inr ⟨d,rfl,by simp⟩⟩ kE.c.c.c rH
   |exact ax (.pointer none,[]) ⟨⟨rfl⟩,.inl rfl⟩ kE.c.c.c (bV.du (by simp))
 intro y E
 obtain⟨p,T⟩:=y
 obtain⟨F,z⟩:=E
 simp only at F z⊢
 have f:∀(m:aA) (H':aS),T∈H'->gG (Rx m H') p:=λm H' B=>z.imp id λ⟨q,g,l⟩=>⟨q,g,.inr (List.mem_flatten.2 ⟨T,B,l⟩)⟩
 refine aD<|.sr<|.mo rfl<|.q (.aE rfl) ?_
 refine .cL (E3 w o _ (h.mono λb o C=>.inl C)) (λu G D=>?_)
 obtain⟨A,rfl,r⟩:=D
 have J:cg (dZ A o.fh):=⟨r.cK⟩
 refine .bc (HG p A o.fh _ (f _ _ (by simp)) r) (λv a=>?_)
 subst a
 refine .q .dR ?_
 refine .q (.cast (v':=.bool false) (.rk rfl rfl x x) (by simp[dS,ju,cF])) ?_
 refine .mo rfl<|.gt rfl ?_
 refine .mo rfl<|.gt rfl ?_
 refine .bc (HI p _ (f _ _ (by simp))) (λv a=>?_)
 subst a
 refine .gt rfl ?_
 refine .q (.jg rfl rfl) ?_
 refine .q .dv<|.mo rfl<|.gt rfl ?_
 refine .mo rfl<|.gt rfl ?_
 refine .bc (HM p _ (f _ _ (by simp))) (λv a=>?_)
 subst a
 refine .gt rfl ?_
 refine .q (.jg rfl rfl) ?_
 refine .q .dv<|.mo rfl<|.gt rfl ?_
 refine .mo rfl<|.gt rfl ?_
 refine .bc (HL p _ (f _ _ (by simp))) (λv a=>?_)
 subst a
 refine .gt rfl ?_
 refine .q (.jg rfl rfl) ?_
 refine .q .dv<|.mo rfl<|.gt rfl ?_
 refine .mo rfl<|.gt rfl ?_
 refine .bc (tc p _ (f _ _ (by simp))) (λv a=>?_)
 subst a
 refine .gt rfl ?_
 refine .q (.fw rfl) ?_
 refine .gt rfl ?_
 refine .q .gtr<|.q .dv<|.mo rfl ?_
 refine .split (t:=40) rfl (λe=>?_) (λe=>?_)
 ·simp at e
 refine .gT e<|.mo rfl<|.gT e ?_
 refine .bc (HH p _ (f _ _ (by simp))) (λv a=>?_)
 subst a
 refine .gT e<|.q (.jg rfl rfl) ?_
 refine .q (.bq e) ?_
 refine .zn<|.bB<|.skip<|bi<|aD<|.region<|.mo rfl ?_
 refine .q (.inc (n:=k) (by omega)) ?_
 refine .ag rfl<|.nil ?_
 ·exact aN (k+1) (by simp at g;omega) (by simp at g;omega) kE.c.c (cu [2])
 refine .exit<|aP<|aV<|aR<|aD<|.sr ?_
 refine .bc (Fu _) (λv a=>?_)
 subst a
 refine .az rfl ?_
 refine .ret (br rfl ?_)
 ·exact⟨rfl,rfl⟩
end Go.Proofs.YtgppncmdpcefhaaGreatDoor
