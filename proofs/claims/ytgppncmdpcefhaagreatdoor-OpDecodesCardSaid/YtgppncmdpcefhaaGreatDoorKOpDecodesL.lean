/- What the law 'OpDecodes' uses. No condition. -/
import Derived.Test.YtgppncmdpcefhaaGreatDoorKOpDecodesJ
import Derived.Test.YtgppncmdpcefhaaGreatDoorKOpDecodesK
namespace Go.Proofs.YtgppncmdpcefhaaGreatDoor
set_option linter.defProp false
def acu:=@List.length_append
def acv:=@List.getD_cons_zero
def acw:=@List.getD_cons_succ
def acx:=@Nat.zero_le
def acy:=@List.cons_append
def acz:=@List.nil_append
def acA:=@List.take_length
def acB:=@List.length_nil
def acC:=@List.append_assoc
def acD:=@congrArg
def acE:=@decide_eq_true
def acF:=@List.take_add_one
open Tryz
set_option linter.unusedVariables false
set_option linter.unusedSimpArgs false
set_option maxRecDepth 4000
structure OW where
 cr:CR
 vs:Value
 vx:Value
 vy:Value
 vm:Value
 vn:Value
 vc:Value
def dX(w:OW)(o:dJ):List Value:=[.int .i64 o.kind,.int .i64 o.n,.string w.cr.id,.string w.cr.dY,w.cr.vu,w.cr.vs,.string o.user,.string o.id,.string o.dY,.string o.uri,w.vs,.string o.word,.string o.text,w.vx,w.vy,w.vm,w.vn,w.vc,.int .u64 (o.rev:Nat)]
structure ft(R:aC)(w:OW)(o:dJ):Prop where
 c:eT R w.cr o.cl
 s:RS R 1 di w.vs o.scopes
 x:RS R 1 bZ w.vx o.x
 y:RS R 1 bZ w.vy o.y
 m:RS R 7 bs.enc w.vm o.cD
 n:RS R 7 bs.enc w.vn o.no
 g:RS R 8 cN.enc w.vc o.cs
theorem ft.mono{R R':aC}{w:OW}{o:dJ}(h:ft R w o)(a:∀b x,R b x->R' b x):ft R' w o:=⟨h.c.mono a,h.s.mono a,h.x.mono a,h.y.mono a,h.m.mono a,h.n.mono a,h.g.mono a⟩
theorem ft.dx{R:aC}{w:OW}{o:dJ}(h:ft R w o):∀u∈dX w o,aF u=true:=by
 have b:=h.s.aF.h
 have d:=h.x.aF.h
 have e:=h.y.aF.h
 have f:=h.m.aF.h
 have i:=h.n.aF.h
 have j:=h.g.aF.h
 have k:=h.c.u.aF.h
 have l:=h.c.s.aF.h
 intro u a
 simp only[dX,List.mem_cons,List.not_mem_nil,or_false]at a
 rcases a with rfl|rfl|rfl|rfl|rfl|rfl|rfl|rfl|rfl|rfl|rfl|rfl|rfl|rfl|rfl|rfl|rfl|rfl|rfl<;>first|rfl|assumption
theorem gI{α:Type}{enc:α->List UInt8}{l:List α}{i:Nat}{z:α}(h:l[i]? =some z):(l.take (i+1)).flatMap enc=(l.take i).flatMap enc++enc z:=by
 rw[acF,h];simp
theorem gJ{α:Type}{enc:α->List UInt8}{l:List α}(i:Nat):((l.take i).flatMap enc).length<=(l.flatMap enc).length:=by
 conv=>rhs;rw[<-List.take_append_drop i l]
 rw[List.flatMap_append,acu];omega
theorem mZ(b:Nat)(xs:List UInt8)(T:ay)(h:cT b xs T)(v:Value)(l:List ByteArray)(R:aC)(d:RS R 1 di v l)(n:(xs++cF cv l).length<=1000000000000):Spec prog 26 [pT b,v] R [T] λu H'=>∃T',H'=[T']/\cT b (xs++cF cv l) T':=by
 have D:=d.aF
 have C:=d.le
 unfold cF at n
 simp only[acu]at n
 have o:l.length<bW:=by unfold bW;omega
 refine Spec.body func26 rfl results26 ntmps26 rfl ?_
 refine .sr<|.mo rfl<|.mo rfl<|.q (.dw d) ?_
 refine .q (.dQ (a:=l.length) rfl o) ?_
 refine .aQ (ey b xs T h l.length o (by omega) _) (λu s g=>?_)
 obtain⟨rfl,w⟩:=g
 refine .z<|.mo rfl<|.q (.dw d) ?_
 refine .mo rfl<|.zn<|.block ?_
 refine .loop (X:=Nat×ay) (λy=>y.1<=l.length/\cT b (xs++put l.length++(l.take y.1).flatMap cv) y.2) (λy=>[(0,pT b),(11,v),(12,iN l.length),(13,iN y.1)]) (λy=>[y.2]) (λy=>l.length-y.1) (0,s) ⟨acx _,by simpa using w⟩ kE.c.c.c.c rH ?_
 rintro⟨i,j⟩ ⟨B,e⟩
 simp only at B e⊢
 refine .sr<|.q .lss<|.zs ?_
 refine .cond rfl (λf=>?_) λf=>?_
 have p:i<l.length:=cO f
 obtain⟨z,r⟩:=eo p
 have k:=gI (enc:=cv) r
 have m:=gJ (enc:=cv) (l:=l) (i+1)
 rw[k]at m
 simp only[acu]at m
 refine .kn<|.seq<|.block<|.sr ?_
 refine .dm i d r (λE=>?_)
 refine .lo rfl<|.az rfl<|.region<|.mo rfl<|.mo rfl ?_
 refine .aQ (ff b _ j e z _ (by simp only[acu];omega)) (λu t g=>?_)
 obtain⟨rfl,x⟩:=g
 refine .nil<|bg<|aI<|.region ?_
 refine .ia (i+1) .add ?_
 refine .mo rfl<|.nil ?_
 ·exact aS (i+1,t) ⟨p,by simp only;rw[k, <-acC];exact x⟩ (by simp only;omega) kE.c.c.c.c rH
 have A:i=l.length:=by have:=bc f;omega
 rw[A,acA,acC]at e
 refine .exit<|aT<|aW<|aU<|cz _ .none (.one [0] _) ?_
 ·exact⟨j,by simp[take],e⟩
theorem oR(b:Nat)(xs:List UInt8)(T:ay)(h:cT b xs T)(t:bs)(R:aC)(s:(xs++cI t).length<=1000000000000):Spec prog 28 [pT b,.agg t.enc.toArray] R [T] λu H'=>∃T',H'=[T']/\cT b (xs++cI t) T':=by
 obtain⟨w,v,x,C,B,y,A⟩:=t
 simp only[cI,acu]at s
 refine Spec.body func28 rfl results28 ntmps28 rfl ?_
 refine .sr ?_
 refine .cQ rfl (λD=>?_)
 refine .z<|.fa rfl<|.q (.loadT rfl) ?_
 refine .dM (λE=>?_)
 refine .dA rfl rfl<|.zn<|.jE [2] [4,8,11,14,18,22,25] mixed ?_
 conv=>arg 3;simp only[take,rest,bM,acv,acw]
 conv=>arg 5;simp only[take,rest,bM,acv,acw]
 conv=>arg 9;simp only[take,rest,bM,acv,acw]
 refine .tO 0 rfl .move<|.tO 1 rfl (.fieldAddr rfl)<|.tO 2 rfl (.fieldAddr rfl)<|.tO 3 rfl (.cj rfl) ?_
 refine .tK 5 rfl (.ee rfl) ?_
 refine .tK 6 rfl (.ee rfl) ?_
 refine .tK 7 rfl (.cj rfl) ?_
 refine .tK 9 rfl (.ee rfl) ?_
 refine .tK 10 rfl (.cj rfl) ?_
 refine .tK 12 rfl (.ee rfl) ?_
 refine .tK 13 rfl (.cj rfl) ?_
 refine .tK 15 rfl (.ee rfl) ?_
 refine .tK 16 rfl (.ee rfl) ?_
 refine .tK 17 rfl (.cj rfl) ?_
 refine .tK 19 rfl (.ee rfl) ?_
 refine .tK 20 rfl (.ee rfl) ?_
 refine .tK 21 rfl (.cj rfl) ?_
 refine .tK 23 rfl (.ee rfl) ?_
 refine .tK 24 rfl (.cj rfl) ?_
 refine .sT 4 rfl ?_
 refine .aQ (ff b xs T h w _ (by simp only[acu];omega)) (λu c a=>?_)
 obtain⟨rfl,k⟩:=a
 refine .nil (Next.mod rfl ?_)
 refine .sT 8 rfl ?_
 refine .aQ (ff b _ c k v _ (by simp only[acu];omega)) (λu d a=>?_)
 obtain⟨rfl,l⟩:=a
 refine .nil (Next.mod rfl ?_)
 refine .sT 11 rfl ?_
 refine .aQ (ff b _ d l x _ (by simp only[acu];omega)) (λu e a=>?_)
 obtain⟨rfl,m⟩:=a
 refine .nil (Next.mod rfl ?_)
 refine .sT 14 rfl ?_
 refine .aQ (ff b _ e m C _ (by simp only[acu];omega)) (λu f a=>?_)
 obtain⟨rfl,n⟩:=a
 refine .nil (Next.mod rfl ?_)
 refine .sT 18 rfl ?_
 refine .aQ (ff b _ f n B _ (by simp only[acu];omega)) (λu g a=>?_)
 obtain⟨rfl,o⟩:=a
 refine .nil (Next.mod rfl ?_)
 refine .sT 22 rfl ?_
 refine .aQ (ff b _ g o y _ (by simp only[acu];omega)) (λu i a=>?_)
 obtain⟨rfl,p⟩:=a
 refine .nil (Next.mod rfl ?_)
 refine .sT 25 rfl ?_
 refine .aQ (ff b _ i p A _ (by simp only[acu];omega)) (λu j a=>?_)
 obtain⟨rfl,r⟩:=a
 refine .nil (Next.mod rfl ?_)
 refine RA.nil (by kernel_rfl) ?_
 refine cz _ .none (.one [0] _) ?_
 ·exact⟨j,by simp[take],by simpa[cI]using r⟩
theorem Bt(b:Nat)(xs:List UInt8)(T:ay)(h:cT b xs T)(r:CR)(c:dy)(R:aC)(g:eT R r c)(q:(xs++eY c).length<=1000000000000):Spec prog 24 [pT b,.agg r.cells.toArray] R [T] λu H'=>∃T',H'=[T']/\cT b (xs++eY c) T':=by
 have w:cB r.cells:=⟨g.dx⟩
 obtain⟨z,A,t,s⟩:=r
 obtain⟨e,f,a,d⟩:=g
 simp only at e f a d
 subst e;subst f
 have x:=a.aF
 have y:=d.aF
 simp only[eY,acu]at q
 refine Spec.body func24 rfl results24 ntmps24 rfl ?_
 refine .sr ?_
 refine .cQ rfl (λv=>?_)
 refine .zs<|.jE [1] [3,6] mixed ?_
 conv=>arg 3;simp only[take,rest,bM,acv,acw]
 conv=>arg 5;simp only[take,rest,bM,acv,acw]
 conv=>arg 9;simp only[take,rest,bM,acv,acw]
 refine .tO 0 rfl .move<|.tO 1 rfl (.fieldAddr rfl)<|.tO 2 rfl (.cj rfl) ?_
 refine .tK 4 rfl (.ee rfl) ?_
 refine .tK 5 rfl (.cj rfl) ?_
 refine .sT 3 rfl ?_
 refine .aQ (ff b xs T h c.id _ (by simp only[acu];omega)) (λu i a=>?_)
 obtain⟨rfl,m⟩:=a
 refine .nil (Next.mod rfl ?_)
 refine .sT 6 rfl ?_
 refine .aQ (ff b _ i m c.dY _ (by simp only[acu];omega)) (λu j a=>?_)
 obtain⟨rfl,n⟩:=a
 refine .nil (Next.mod rfl ?_)
 refine RA.nil (by kernel_rfl) ?_
 refine aI<|.sr ?_
 conv=>arg 8;simp only[rest,bM,acy,acz]
 refine .mo rfl<|.fa rfl<|.lo rfl ?_
 refine .aQ (mZ b _ j n t c.iK _ a (by simp only[acu];omega)) (λu k o=>?_)
 refine .zn<|.region<|.mo rfl<|.fa rfl<|.lo rfl ?_
 refine .aQ (mZ b _ k o s c.scopes _ d (by simp only[acu];omega)) (λu l p=>?_)
 refine .nil<|cz _ .none (.one [0] _) ?_
 ·exact⟨l,by simp[take],by simpa[eY]using p⟩
def gH(o:dJ):List UInt8:=put (uw o.kind)++put (uw o.n)++eY o.cl++cv o.user++cv o.id++cv o.dY++cv o.uri++cF cv o.scopes++cv o.word++cv o.text++ew o.x++ew o.y
theorem lg(o:dJ):fI o=gH o++cF cI o.cD++cF cI o.no++cF dF o.cs++put o.rev:=rfl
def mI(p:Value×List bs):List Value:=[p.1]
def hZ(p:Value×List bs):List UInt8:=cF cI p.2
theorem qP(w:OW)(o:dJ)(R:aC)(h:ft R w o)(hr:o.rev<bW)(Y:(fI o).length<=1000000000000):Spec prog 6 [.agg (dX w o).toArray] R [] λu H'=>∃T,H'=[T]/\OS 5 1 bZ u (fI o) T:=by
 have i1:cB (dX w o):=⟨h.dx⟩
 obtain⟨⟨D,E,I,H⟩,G,J,K,f,r,F⟩:=w
 have W:eT R ⟨D,E,I,H⟩ o.cl:=h.c
 have hs:RS R 1 di G o.scopes:=h.s
 have hx:RS R 1 bZ J o.x:=h.x
 have hy:RS R 1 bZ K o.y:=h.y
 have hm:RS R 7 bs.enc f o.cD:=h.m
 have hn:RS R 7 bs.enc r o.no:=h.n
 have B:RS R 8 cN.enc F o.cs:=h.g
 have j1:=hs.aF
 have j2:=hx.aF
 have j3:=hy.aF
 have j4:=hm.aF
 have j5:=hn.aF
 have j6:=B.aF
 have j7:=W.u.aF
 have j8:=W.s.aF
 simp only at j7 j8
 have f3:=B.le
 have f2:(gH o).length+(cF cI o.cD).length+(cF cI o.no).length+(cF dF o.cs).length+(put o.rev).length<=1000000000000:=by
  rw[lg]at Y
  simp only[acu]at Y
  omega
 have Q:=f2
 simp only[gH,acu]at Q
 have pl (l:List UInt8):(ew l).length=(put l.length).length+l.length:=by unfold ew;rw[acu]
 have p1:=pl o.x
 have p2:=pl o.y
 refine Spec.body func6 rfl results6 ntmps6 rfl ?_
 refine .sr ?_
 refine .cQ rfl (λv=>?_)
 refine .ag rfl<|.z ?_
 refine .bY (pP _) (λu T0 d=>?_)
 obtain⟨b,rfl,c8⟩:=d
 refine .ag rfl<|.zs<|.jE [0] [4,8] mixed ?_
 conv=>arg 3;simp only[take,rest,bM,acv,acw]
 conv=>arg 5;simp only[take,rest,bM,acv,acw]
 conv=>arg 9;simp only[take,rest,bM,acv,acw]
 refine .tO 0 rfl .move<|.tO 1 rfl (.fieldAddr rfl)<|.tO 2 rfl (.cj rfl) ?_
 refine .cA 3 rfl (.cast (v':=.int .u64 (uw o.kind:Nat)) (.dT) (acD (Value.int .u64) (ma o.kind))) (by kernel_rfl) ?_
 refine .tK 5 rfl (.ee rfl) ?_
 refine .tK 6 rfl (.cj rfl) ?_
 refine .take 7 rfl (.cast (v':=.int .u64 (uw o.n:Nat)) (.dT) (acD (Value.int .u64) (ma o.n))) (by kernel_rfl) ?_
 refine .sT 4 rfl ?_
 refine .aQ (ey b _ T0 c8 (uw o.kind) (jK _) (by simp) _) (λu T1 d=>?_)
 obtain⟨rfl,c9⟩:=d
 refine .nil (Next.mod rfl ?_)
 refine .sT 8 rfl ?_
 refine .aQ (ey b _ T1 c9 (uw o.n) (jK _) (by simp only[acu,acB];omega) _) (λu T2 d=>?_)
 obtain⟨rfl,d6⟩:=d
 refine .nil (Next.mod rfl ?_)
 refine RA.nil (by kernel_rfl) ?_
 refine aI<|.sr ?_
 conv=>arg 8;simp only[rest,bM,acy,acz]
 refine .mo rfl<|.fa rfl<|.q (.loadT rfl) ?_
 refine .aQ (Bt b _ T2 d6 ⟨D,E,I,H⟩ o.cl _ W (by simp only[acu,acB];omega)) (λu T3 d9=>?_)
 refine .zs<|.jE [0] [3,6,9,12] mixed ?_
 conv=>arg 3;simp only[take,rest,bM,acv,acw]
 conv=>arg 5;simp only[take,rest,bM,acv,acw]
 conv=>arg 9;simp only[take,rest,bM,acv,acw]
 refine .tO 0 rfl .move<|.tO 1 rfl (.fieldAddr rfl)<|.tO 2 rfl (.cj rfl) ?_
 refine .tK 4 rfl (.ee rfl) ?_
 refine .tK 5 rfl (.cj rfl) ?_
 refine .tK 7 rfl (.ee rfl) ?_
 refine .tK 8 rfl (.cj rfl) ?_
 refine .tK 10 rfl (.ee rfl) ?_
 refine .tK 11 rfl (.cj rfl) ?_
 refine .sT 3 rfl ?_
 refine .aQ (ff b _ T3 d9 o.user _ (by simp only[acu,acB];omega)) (λu T4 d=>?_)
 obtain⟨rfl,e0⟩:=d
 refine .nil (Next.mod rfl ?_)
 refine .sT 6 rfl ?_
 refine .aQ (ff b _ T4 e0 o.id _ (by simp only[acu,acB];omega)) (λu T5 d=>?_)
 obtain⟨rfl,e1⟩:=d
 refine .nil (Next.mod rfl ?_)
 refine .sT 9 rfl ?_
 refine .aQ (ff b _ T5 e1 o.dY _ (by simp only[acu,acB];omega)) (λu T6 d=>?_)
 obtain⟨rfl,e2⟩:=d
 refine .nil (Next.mod rfl ?_)
 refine .sT 12 rfl ?_
 refine .aQ (ff b _ T6 e2 o.uri _ (by simp only[acu,acB];omega)) (λu T7 d=>?_)
 obtain⟨rfl,e3⟩:=d
 refine .nil (Next.mod rfl ?_)
 refine RA.nil (by kernel_rfl) ?_
 refine aI<|.sr ?_
 conv=>arg 8;simp only[rest,bM,acy,acz]
 refine .mo rfl<|.fa rfl<|.lo rfl ?_
 refine .aQ (mZ b _ T7 e3 G o.scopes _ hs (by simp only[acu,acB];omega)) (λu T8 e4=>?_)
 refine .zs<|.jE [0] [3,6,9,12] mixed ?_
 conv=>arg 3;simp only[take,rest,bM,acv,acw]
 conv=>arg 5;simp only[take,rest,bM,acv,acw]
 conv=>arg 9;simp only[take,rest,bM,acv,acw]
 refine .tO 0 rfl .move<|.tO 1 rfl (.fieldAddr rfl)<|.tO 2 rfl (.cj rfl) ?_
 refine .tK 4 rfl (.ee rfl) ?_
 refine .tK 5 rfl (.cj rfl) ?_
 refine .tK 7 rfl (.ee rfl) ?_
 refine .tK 8 rfl (.cj rfl) ?_
 refine .tK 10 rfl (.ee rfl) ?_
 refine .tK 11 rfl (.cj rfl) ?_
 refine .sT 3 rfl ?_
 refine .aQ (ff b _ T8 e4 o.word _ (by simp only[acu,acB];omega)) (λu T9 d=>?_)
 obtain⟨rfl,e5⟩:=d
 refine .nil (Next.mod rfl ?_)
 refine .sT 6 rfl ?_
 refine .aQ (ff b _ T9 e5 o.text _ (by simp only[acu,acB];omega)) (λu c0 d=>?_)
 obtain⟨rfl,d0⟩:=d
 refine .nil (Next.mod rfl ?_)
 refine .sT 9 rfl ?_
 refine .aQ (nv b _ c0 d0 J o.x _ hx.rx (by simp only[acu,acB];omega)) (λu c1 d=>?_)
 obtain⟨rfl,d1⟩:=d
 refine .nil (Next.mod rfl ?_)
 refine .sT 12 rfl ?_
 refine .aQ (nv b _ c1 d1 K o.y _ hy.rx (by simp only[acu,acB];omega)) (λu a0 d=>?_)
 obtain⟨rfl,a6⟩:=d
 have hW:cT b (gH o) a0:=by simpa[gH]using a6
 clear Q p1 p2 pl a6
 refine .nil (Next.mod rfl ?_)
 refine RA.nil (by kernel_rfl) ?_
 refine aI<|.seq<|.sr ?_
 conv=>arg 8;simp only[rest,bM,acy,acz]
 refine .fa rfl<|.lo rfl<|.fa rfl<|.lo rfl ?_
 refine .iR [f,r] (ho:=by simp[j4.h,j5.h]) (λA=>?_)
 refine .q (.eR rfl) ?_
 refine .mo rfl<|.zn<|.block ?_
 have a5:OS 26 1 mI (.slice (some ⟨A,0,none⟩) 2 2) [(f,o.cD),(r,o.no)] (bl A [f,r] 26):=OS.lits rfl (by simp[mI]) (by simp[mI,j4.h,j5.h])
 obtain⟨e,L⟩:∃e,e=[(f,o.cD),(r,o.no)]:=⟨_,rfl⟩
 rw[<-L]at a5
 have e7:∀p∈e,RS R 7 bs.enc p.1 p.2:=by rw[L];simp[hm,hn]
 have f4:e.length=2:=by rw[L];rfl
 have b3:e.flatMap hZ=cF cI o.cD++cF cI o.no:=by rw[L];simp[hZ]
 refine .loop (X:=Nat×ay) (λy=>y.1<=2/\cT b (gH o++(e.take y.1).flatMap hZ) y.2) (λy=>[(1,pT v),(3,pT b),(58,.slice (some ⟨A,0,none⟩) 2 2),(59,.int .i64 ((2:Nat):Int)),(60,iN y.1)]) (λy=>[bl A [f,r] 26,y.2,bl v (dX ⟨⟨D,E,I,H⟩,G,J,K,f,r,F⟩ o) 32]) (λy=>2-y.1) (0,a0) ⟨acx _,by simpa using hW⟩ kE.c.c.c.c.c rH ?_
 rintro⟨i,a1⟩ ⟨hi,M⟩
 simp only at hi M⊢
 refine .sr<|.q .lss<|.zs ?_
 refine .cond rfl (λS=>?_) λS=>?_
 have f1:i<e.length:=by have h9:=bp S;omega
 obtain⟨p,Z⟩:=eo f1
 have C:=e7 p (aG Z)
 have f7:=C.aF
 have g1:=C.le
 have b0:=gI (enc:=hZ) Z
 have b2:=gJ (enc:=hZ) (l:=e) (i+1)
 rw[b0,b3]at b2
 simp only[acu]at b2
 have f6:(hZ p).length=(put p.2.length).length+(p.2.flatMap cI).length:=by simp[hZ,cF]
 refine .kn<|.seq<|.block<|.sr ?_
 refine .ar i a5 Z (λf8=>?_)
 refine .lo rfl<|.ag rfl<|.z<|.mo rfl<|.mo rfl<|.q (.dw C) ?_
 refine .q (.dQ (a:=p.2.length) rfl (by unfold bW;omega)) ?_
 refine .aQ (ey b _ a1 M p.2.length (by unfold bW;omega) (by simp only[acu];omega) _) (λu c2 d=>?_)
 obtain⟨rfl,d2⟩:=d
 refine .z<|.mo rfl<|.q (.dw C) ?_
 refine .mo rfl<|.zn<|.block ?_
 refine .loop (X:=Nat×ay) (λy=>y.1<=p.2.length/\cT b (gH o++(e.take i).flatMap hZ++put p.2.length++(p.2.take y.1).flatMap cI) y.2) (λy=>[(1,pT v),(3,pT b),(58,.slice (some ⟨A,0,none⟩) 2 2),(59,.int .i64 ((2:Nat):Int)),(60,iN i),(69,p.1),(70,iN p.2.length),(71,iN y.1)]) (λy=>[bl A [f,r] 26,y.2,bl v (dX ⟨⟨D,E,I,H⟩,G,J,K,f,r,F⟩ o) 32]) (λy=>p.2.length-y.1) (0,c2) ⟨acx _,by simpa using d2⟩ kE.c.c.c.c.c.c.c.c rH ?_
 rintro⟨j,a2⟩ ⟨hj,N⟩
 simp only at hj N⊢
 refine .sr<|.q .lss<|.zs ?_
 refine .cond rfl (λU=>?_) λU=>?_
 have b4:j<p.2.length:=cO U
 obtain⟨t,ht⟩:=eo b4
 have b6:=gI (enc:=cI) ht
 have b8:=gJ (enc:=cI) (l:=p.2) (j+1)
 rw[b6]at b8
 simp only[acu]at b8
 refine .kn<|.seq<|.block<|.sr ?_
 refine .dm j C ht (λf9=>?_)
 refine .q (.aD rfl) ?_
 refine .dM (λb7=>?_)
 refine .dA rfl rfl<|.zn<|.region<|.mo rfl<|.q (.aD rfl) ?_
 refine .aQ (oR b _ a2 N t _ (by simp only[acu];omega)) (λu c3 d3=>?_)
 refine .nil<|bg<|aI<|.region ?_
 refine .ia (j+1) .add ?_
 refine .mo rfl<|.nil ?_
 ·exact aS (j+1,c3) ⟨b4,by simp only;rw[b6, <-acC];exact d3⟩ (by simp only;omega) kE.c.c.c.c.c.c.c.c (cw [1,1,1])
 have e9:j=p.2.length:=by have:=bc U;omega
 rw[e9,acA]at N
 refine .exit<|aT<|aW<|aU<|bg<|aI<|.region ?_
 refine .ia (i+1) .add ?_
 refine .mo rfl<|.nil ?_
 ·exact aS (i+1,a2) ⟨by simp only;omega,by simp only;rw[b0, <-acC];simpa[hZ,cF]using N⟩ (by simp only;omega) kE.c.c.c.c.c rH
 have e8:i=e.length:=by have:=bc S;omega
 rw[e8,acA,b3]at M
 have f5:(cF dF o.cs).length=(put o.cs.length).length+(o.cs.flatMap dF).length:=by simp[cF]
 refine .exit<|aT<|aW<|aU<|aI<|.sr<|.mo rfl<|.fa rfl<|.lo rfl<|.q (.dw B) ?_
 refine .q (.dQ (a:=o.cs.length) rfl (by unfold bW;omega)) ?_
 refine .aQ (ey b _ a1 M o.cs.length (by unfold bW;omega) (by simp only[acu];omega) _) (λu c4 d=>?_)
 obtain⟨rfl,d4⟩:=d
 refine .zs<|.sr<|.fa rfl<|.lo rfl<|.q (.dw B) ?_
 refine .mo rfl<|.zn<|.block ?_
 refine .loop (X:=Nat×ay) (λy=>y.1<=o.cs.length/\cT b (gH o++(cF cI o.cD++cF cI o.no)++put o.cs.length++(o.cs.take y.1).flatMap dF) y.2) (λy=>[(1,pT v),(3,pT b),(87,F),(88,iN o.cs.length),(89,iN y.1)]) (λy=>[y.2,bl v (dX ⟨⟨D,E,I,H⟩,G,J,K,f,r,F⟩ o) 32]) (λy=>o.cs.length-y.1) (0,c4) ⟨acx _,by simpa using d4⟩ kE.c.c.c.c.c (cw [1,1]) ?_
 rintro⟨k,a3⟩ ⟨hk,O⟩
 simp only at hk O⊢
 refine .sr<|.q .lss<|.zs ?_
 refine .cond rfl (λV=>?_) λV=>?_
 have b5:k<o.cs.length:=cO V
 obtain⟨c,a9⟩:=eo b5
 have a7:=gI (enc:=dF) a9
 have a8:=gJ (enc:=dF) (l:=o.cs) (k+1)
 rw[a7]at a8
 simp only[dF,acu]at a8
 obtain⟨cp,ct⟩:=c
 refine .kn<|.seq<|.block<|.sr ?_
 refine .dm k B a9 (λg0=>?_)
 refine .q (.aD rfl) ?_
 refine .dM (λb9=>?_)
 refine .dA rfl rfl<|.z<|.mo rfl<|.fa rfl<|.lo rfl ?_
 refine .aQ (CN b _ a3 O cp (by simp only[acu,dF]at *;omega) _) (λu c5 d=>?_)
 obtain⟨rfl,d5⟩:=d
 refine .zn<|.region<|.mo rfl<|.fa rfl<|.q (.loadT rfl) ?_
 refine .aQ (oR b _ c5 d5 ct _ (by simp only[acu,dF]at *;omega)) (λu c6 d7=>?_)
 refine .nil<|bg<|aI<|.region ?_
 refine .ia (k+1) .add ?_
 refine .mo rfl<|.nil ?_
 ·exact aS (k+1,c6) ⟨b5,by simp only;rw[a7];simpa[dF]using d7⟩ (by simp only;omega) kE.c.c.c.c.c (cw [1,1])
 have f0:k=o.cs.length:=by have:=bc V;omega
 rw[f0,acA]at O
 refine .exit<|aT<|aW<|aU<|aI<|.sr<|.mo rfl<|.fa rfl<|.lo rfl ?_
 refine .aQ (ey b _ a3 O o.rev hr (by simp only[acu];omega) _) (λu a4 d=>?_)
 obtain⟨rfl,d8⟩:=d
 have e6:cT b (fI o) a4:=by
  rw[lg]
  simpa[cF]using d8
 refine .bY (pN b _ a4 e6 Y _ (λp Q=>.inr (by simp[Q]))) (λu c7 hO=>?_)
 have iO:=hO.aF
 refine .az rfl ?_
 refine .ret (bb _ (.one (.tmp rfl)) (.one [0] _) ?_)
 ·exact⟨c7,by simp[take],hO⟩
def fF(s:Option (List UInt8)):Prop:=∀xs,s=some xs->xs.length<=1000000000
theorem fF.next{α:Type}{rd:List UInt8->Option (α×List UInt8)}{enc:α->List UInt8}{ok:α->Prop}(c:eA rd enc ok){s b:Option (List UInt8)}{a:α}(d:fF s)(h:s.bind rd=b.map λr=>(a,r)):fF b:=λf e=>by
 subst e
 cases s with
 |none=>simp at h
 |some ys=>
  simp only[Option.bind_some,Option.map_some]at h
  obtain⟨rfl,_⟩:=(c.h ys a f).1 h
  have:=d _ rfl
  rw[acu]at this
  omega
theorem m4{α:Type}{rd:List UInt8->Option (α×List UInt8)}{s a:Option (List UInt8)}{n:Nat}(h:s.bind (fM 4096)=a.map λr=>(n,r)):s.bind (eZ rd)=(a.bind (eM rd n)).map λq=>([]++q.1,q.2):=by
 unfold eZ
 rw[cU h]
 cases a with
 |none=>rfl
 |some r=>
  simp only[Option.bind_some]
  cases eM rd n r<;>rfl
theorem m2{α:Type}{rd:List UInt8->Option (α×List UInt8)}{s:Option (List UInt8)}{pre:List α}:(s.bind (eM rd 0)).map (λq=>(pre++q.1,q.2))=s.map λr=>(pre,r):=by
 cases s with
 |none=>rfl
 |some r=>simp[eM]
theorem m0(b:Nat)(s:Option (List UInt8))(T:ay)(h:dp b s T)(Q:fF s)(R:aC):Spec prog 36 [pT b,.func (.func 35) #[] #[]] R [T] λu H'=>∃T' T2,H'=[T',T2]/\∃(l:List ByteArray) (s':Option (List UInt8)),OS 9 1 di u l T2/\dp b s' T'/\s.bind (eZ dG)=s'.map λr=>(l,r):=by
 refine Spec.eg (H':=[T,[]]) (by simp) ?_
 refine Spec.body func36 rfl results36 ntmps36 rfl ?_
 refine .sr<|.ag rfl<|.z<|.ag rfl<|.zs<|.sr<|.mo rfl ?_
 refine .aQ (kz b s T h 4096 (by decide) _) (λu E g=>?_)
 obtain⟨n,W,rfl,hn,H,C⟩:=g
 have N:=Q.next (gY 4096) C
 have V:=m4 (rd:=dG) C
 refine .mo rfl<|.zn<|.block ?_
 refine .loop (X:=Nat×List ByteArray×Option (List UInt8)×Value×ay×ay) (λy=>y.1<=n/\y.2.1.length=y.1/\OS 9 1 di y.2.2.2.1 y.2.1 y.2.2.2.2.1/\dp b y.2.2.1 y.2.2.2.2.2/\fF y.2.2.1/\s.bind (eZ dG)=(y.2.2.1.bind (eM dG (n-y.1))).map λq=>(y.2.1++q.1,q.2)) (λy=>[(0,pT b),(1,.func (.func 35) #[] #[]),(5,y.2.2.2.1),(7,iN n),(8,iN y.1)]) (λy=>[y.2.2.2.2.2,y.2.2.2.2.1]) (λy=>n-y.1) (0,[],W,sZ,[],E) ⟨acx _,rfl,OS.nil,H,N,V⟩ kE.c.c.c.c.c rH ?_
 rintro⟨i,m,k,vo,To,t⟩ ⟨L,A,j,d,p,e⟩
 simp only at L A j d p e⊢
 have iO:=j.aF
 obtain⟨vk,v,pk,K⟩:=d.read
 refine .sr<|.q .lss<|.zs ?_
 refine .cond rfl (λo=>?_) λo=>?_
 have S:i<n:=cO o
 refine .kn<|.seq<|.block<|.seq<|.sr<|.mo rfl ?_
 refine .bx (iI b vk v _) (λu g=>?_)
 subst g
 refine .q .eS<|.zn ?_
 refine .cond rfl (λw=>?_) λw=>?_
 have J:v≠0:=by simpa using w
 have U:k=none:=by
  cases k with
  |none=>rfl
  |some xs=>exact absurd (K.2 rfl) J
 rw[U]at e d
 refine .sr<|.az rfl ?_
 refine .ret (bq (bu (bq (cH (bu (bq (bb _ (.one (.tmp rfl)) ((cw [0]).trans (bJ.cW (H':=[t,[]]) (by simp[take]))) ?_)))))))
 ·exact⟨_,_,rfl,[],none,OS.nil,d,by rw[e];rfl⟩
 refine .kn<|.region<|.mo rfl<|.mo rfl<|.mo rfl ?_
 refine .mw (f:=35) (first:=[]) (captured:=[]) (vs:=[pT b]) (fe b k t d p _) (λu F g=>?_)
 obtain⟨a,Y,rfl,I,D⟩:=g
 have O:=p.next ed D
 have B:=m3 (n:=n-(i+1)) (pre:=m) D
 rw[show n-(i+1)+1=n-i by omega]at B
 refine .jg (λa0=>?_)
 refine .append j (RS.lits (xs:=[a]) rfl (by simp[di]) (by simp[di,aF])) (by simp;omega) (λZ G x=>?_)
 have i5:=x.aF
 refine .ag rfl<|.nil<|bg<|aI<|.region ?_
 refine .ia (i+1) .add ?_
 refine .mo rfl<|.nil ?_
 ·exact aS (i+1,m++[a],Y,Z,G,F) ⟨S,by simp[A],x,I,O,e.trans B⟩ (by simp only;omega) kE.c.c.c.c.c (cw [1,1])
 have M:i=n:=by have:=bc o;omega
 rw[M,Nat.sub_self,m2]at e
 refine .exit<|aT<|aW<|aU<|aI<|.sr<|.mo rfl<|.az rfl ?_
 refine .ret (bb _ (.one (.tmp rfl)) rH ?_)
 ·exact⟨_,_,rfl,m,k,j,d,e⟩
theorem n5(b:Nat)(s:Option (List UInt8))(T:ay)(h:dp b s T)(k:fF s)(R:aC):Spec prog 39 [pT b] R [T] λu H'=>∃T',H'=[T']/\∃(a:bs) (s':Option (List UInt8)),u=.agg a.enc.toArray/\dp b s' T'/\s.bind gk=s'.map λr=>(a,r):=by
 refine Spec.body func39 rfl results39 ntmps39 rfl ?_
 refine .sr ?_
 refine .dM (λb2=>?_)
 refine .z ?_
 refine .dM (λb3=>?_)
 refine .z<|.mo rfl ?_
 refine .aQ (fe b s T h k _) (λu t c=>?_)
 obtain⟨C,V,rfl,K,d⟩:=c
 have l:=k.next ed d
 refine .mo rfl ?_
 refine .aQ (fe b V t K l _) (λu v c=>?_)
 obtain⟨D,W,rfl,L,e⟩:=c
 have m:=l.next ed e
 refine .q .ek ?_
 refine .fa rfl<|.dA rfl rfl<|.z<|.mo rfl ?_
 refine .aQ (fe b W v L m _) (λu w c=>?_)
 obtain⟨E,X,rfl,M,f⟩:=c
 have n:=m.next ed f
 refine .fa rfl<|.cC rfl rfl<|.z<|.mo rfl ?_
 refine .aQ (fe b X w M n _) (λu x c=>?_)
 obtain⟨F,Y,rfl,N,g⟩:=c
 have o:=n.next ed g
 refine .fa rfl<|.fa rfl<|.cC rfl rfl<|.z<|.mo rfl ?_
 refine .aQ (fe b Y x N o _) (λu y c=>?_)
 obtain⟨G,Z,rfl,O,i⟩:=c
 have p:=o.next ed i
 refine .mo rfl ?_
 refine .aQ (fe b Z y O p _) (λu A c=>?_)
 obtain⟨H,s6,rfl,Q,j⟩:=c
 have U:=p.next ed j
 refine .q .ek ?_
 refine .fa rfl<|.fa rfl<|.dA rfl rfl<|.z<|.mo rfl ?_
 refine .aQ (fe b s6 A Q U _) (λu B c=>?_)
 obtain⟨I,s7,rfl,S,J⟩:=c
 refine .fa rfl<|.fa rfl<|.cC rfl rfl<|.z<|.q (.aD rfl)<|.dA rfl rfl<|.zn ?_
 refine .ret (bb _ (.one (.gd rfl rfl)) (.one [2] _) ?_)
 ·refine⟨B,by simp[take,bM],⟨C,D,E,F,G,H,I⟩,s7,rfl,S,?_⟩
  unfold gk
  rw[cU d,cU e,cU f,cU g,cU i,cU j,cU J,jS]
theorem Ay(b:Nat)(s:Option (List UInt8))(T:ay)(h:dp b s T)(w:fF s)(R:aC):Spec prog 41 [pT b] R [T] λu H'=>∃T',H'=[T']/\∃(a:cN) (s':Option (List UInt8)),u=.agg a.enc.toArray/\dp b s' T'/\s.bind ib=s'.map λr=>(a,r):=by
 refine Spec.body func41 rfl results41 ntmps41 rfl ?_
 refine .sr ?_
 refine .dM (λB=>?_)
 refine .z<|.mo rfl ?_
 refine .aQ (Bz b s T h _) (λu e c=>?_)
 obtain⟨f,y,rfl,t,d⟩:=c
 have x:=w.next nM d
 refine .ag rfl<|.z<|.mo rfl<|.mo rfl ?_
 refine .aQ (n5 b y e t x _) (λu g c=>?_)
 obtain⟨⟨i,j,k,l,m,n,o⟩,A,rfl,v,p⟩:=c
 refine .q .ek ?_
 refine .dA rfl rfl<|.zn ?_
 refine .ret (bb _ (.one (.gd rfl rfl)) (.one [1] _) ?_)
 ·refine⟨g,by simp[take,bM],⟨f,⟨i,j,k,l,m,n,o⟩⟩,A,rfl,v,?_⟩
  unfold ib
  rw[cU d,cU p,jS]
theorem oU(b:Nat)(s:Option (List UInt8))(T:ay)(h:dp b s T)(Q:fF s)(R:aC):Spec prog 38 [pT b,.func (.func 39) #[] #[]] R [T] λu H'=>∃T' T2,H'=[T',T2]/\∃(l:List bs) (s':Option (List UInt8)),OS 73 7 bs.enc u l T2/\dp b s' T'/\s.bind (eZ gk)=s'.map λr=>(l,r):=by
 refine Spec.eg (H':=[T,[]]) (by simp) ?_
 refine Spec.body func38 rfl results38 ntmps38 rfl ?_
 refine .sr<|.ag rfl<|.z<|.ag rfl<|.zs<|.sr<|.mo rfl ?_
 refine .aQ (kz b s T h 4096 (by decide) _) (λu E g=>?_)
 obtain⟨n,W,rfl,hn,H,C⟩:=g
 have N:=Q.next (gY 4096) C
 have V:=m4 (rd:=gk) C
 refine .mo rfl<|.zn<|.block ?_
 refine .loop (X:=Nat×List bs×Option (List UInt8)×Value×ay×ay) (λy=>y.1<=n/\y.2.1.length=y.1/\OS 73 7 bs.enc y.2.2.2.1 y.2.1 y.2.2.2.2.1/\dp b y.2.2.1 y.2.2.2.2.2/\fF y.2.2.1/\s.bind (eZ gk)=(y.2.2.1.bind (eM gk (n-y.1))).map λq=>(y.2.1++q.1,q.2)) (λy=>[(0,pT b),(1,.func (.func 39) #[] #[]),(5,y.2.2.2.1),(7,iN n),(8,iN y.1)]) (λy=>[y.2.2.2.2.2,y.2.2.2.2.1]) (λy=>n-y.1) (0,[],W,sZ,[],E) ⟨acx _,rfl,OS.nil,H,N,V⟩ kE.c.c.c.c.c rH ?_
 rintro⟨i,m,k,vo,To,t⟩ ⟨L,A,j,d,p,e⟩
 simp only at L A j d p e⊢
 have iO:=j.aF
 obtain⟨vk,v,pk,K⟩:=d.read
 refine .sr<|.q .lss<|.zs ?_
 refine .cond rfl (λo=>?_) λo=>?_
 have S:i<n:=cO o
 refine .kn<|.seq<|.block<|.seq<|.sr<|.mo rfl ?_
 refine .bx (iI b vk v _) (λu g=>?_)
 subst g
 refine .q .eS<|.zn ?_
 refine .cond rfl (λw=>?_) λw=>?_
 have J:v≠0:=by simpa using w
 have U:k=none:=by
  cases k with
  |none=>rfl
  |some xs=>exact absurd (K.2 rfl) J
 rw[U]at e d
 refine .sr<|.az rfl ?_
 refine .ret (bq (bu (bq (cH (bu (bq (bb _ (.one (.tmp rfl)) ((cw [0]).trans (bJ.cW (H':=[t,[]]) (by simp[take]))) ?_)))))))
 ·exact⟨_,_,rfl,[],none,OS.nil,d,by rw[e];rfl⟩
 refine .kn<|.region<|.mo rfl<|.mo rfl<|.mo rfl ?_
 refine .mw (f:=39) (first:=[]) (captured:=[]) (vs:=[pT b]) (n5 b k t d p _) (λu F g=>?_)
 obtain⟨a,Y,rfl,I,D⟩:=g
 have O:=p.next jU D
 have B:=m3 (n:=n-(i+1)) (pre:=m) D
 rw[show n-(i+1)+1=n-i by omega]at B
 refine .iQ (λa0=>?_)
 refine .append j (RS.lits (xs:=[a]) rfl (by simp[bs.enc]) (by have:=(bs.one a).h;simpa using this)) (by simp;omega) (λZ G x=>?_)
 have i5:=x.aF
 refine .ag rfl<|.nil<|bg<|aI<|.region ?_
 refine .ia (i+1) .add ?_
 refine .mo rfl<|.nil ?_
 ·exact aS (i+1,m++[a],Y,Z,G,F) ⟨S,by simp[A],x,I,O,e.trans B⟩ (by simp only;omega) kE.c.c.c.c.c (cw [1,1])
 have M:i=n:=by have:=bc o;omega
 rw[M,Nat.sub_self,m2]at e
 refine .exit<|aT<|aW<|aU<|aI<|.sr<|.mo rfl<|.az rfl ?_
 refine .ret (bb _ (.one (.tmp rfl)) rH ?_)
 ·exact⟨_,_,rfl,m,k,j,d,e⟩
theorem Bx(b:Nat)(s:Option (List UInt8))(T:ay)(h:dp b s T)(Q:fF s)(R:aC):Spec prog 40 [pT b,.func (.func 41) #[] #[]] R [T] λu H'=>∃T' T2,H'=[T',T2]/\∃(l:List cN) (s':Option (List UInt8)),OS 76 8 cN.enc u l T2/\dp b s' T'/\s.bind (eZ ib)=s'.map λr=>(l,r):=by
 refine Spec.eg (H':=[T,[]]) (by simp) ?_
 refine Spec.body func40 rfl results40 ntmps40 rfl ?_
 refine .sr<|.ag rfl<|.z<|.ag rfl<|.zs<|.sr<|.mo rfl ?_
 refine .aQ (kz b s T h 4096 (by decide) _) (λu E g=>?_)
 obtain⟨n,W,rfl,hn,H,C⟩:=g
 have N:=Q.next (gY 4096) C
 have V:=m4 (rd:=ib) C
 refine .mo rfl<|.zn<|.block ?_
 refine .loop (X:=Nat×List cN×Option (List UInt8)×Value×ay×ay) (λy=>y.1<=n/\y.2.1.length=y.1/\OS 76 8 cN.enc y.2.2.2.1 y.2.1 y.2.2.2.2.1/\dp b y.2.2.1 y.2.2.2.2.2/\fF y.2.2.1/\s.bind (eZ ib)=(y.2.2.1.bind (eM ib (n-y.1))).map λq=>(y.2.1++q.1,q.2)) (λy=>[(0,pT b),(1,.func (.func 41) #[] #[]),(5,y.2.2.2.1),(7,iN n),(8,iN y.1)]) (λy=>[y.2.2.2.2.2,y.2.2.2.2.1]) (λy=>n-y.1) (0,[],W,sZ,[],E) ⟨acx _,rfl,OS.nil,H,N,V⟩ kE.c.c.c.c.c rH ?_
 rintro⟨i,m,k,vo,To,t⟩ ⟨L,A,j,d,p,e⟩
 simp only at L A j d p e⊢
 have iO:=j.aF
 obtain⟨vk,v,pk,K⟩:=d.read
 refine .sr<|.q .lss<|.zs ?_
 refine .cond rfl (λo=>?_) λo=>?_
 have S:i<n:=cO o
 refine .kn<|.seq<|.block<|.seq<|.sr<|.mo rfl ?_
 refine .bx (iI b vk v _) (λu g=>?_)
 subst g
 refine .q .eS<|.zn ?_
 refine .cond rfl (λw=>?_) λw=>?_
 have J:v≠0:=by simpa using w
 have U:k=none:=by
  cases k with
  |none=>rfl
  |some xs=>exact absurd (K.2 rfl) J
 rw[U]at e d
 refine .sr<|.az rfl ?_
 refine .ret (bq (bu (bq (cH (bu (bq (bb _ (.one (.tmp rfl)) ((cw [0]).trans (bJ.cW (H':=[t,[]]) (by simp[take]))) ?_)))))))
 ·exact⟨_,_,rfl,[],none,OS.nil,d,by rw[e];rfl⟩
 refine .kn<|.region<|.mo rfl<|.mo rfl<|.mo rfl ?_
 refine .mw (f:=41) (first:=[]) (captured:=[]) (vs:=[pT b]) (Ay b k t d p _) (λu F g=>?_)
 obtain⟨a,Y,rfl,I,D⟩:=g
 have O:=p.next my D
 have B:=m3 (n:=n-(i+1)) (pre:=m) D
 rw[show n-(i+1)+1=n-i by omega]at B
 refine .iQ (λa0=>?_)
 refine .append j (RS.lits (xs:=[a]) rfl (by simp[cN.enc,bs.enc]) (by have:=(cN.one a).h;simpa using this)) (by simp;omega) (λZ G x=>?_)
 have i5:=x.aF
 refine .ag rfl<|.nil<|bg<|aI<|.region ?_
 refine .ia (i+1) .add ?_
 refine .mo rfl<|.nil ?_
 ·exact aS (i+1,m++[a],Y,Z,G,F) ⟨S,by simp[A],x,I,O,e.trans B⟩ (by simp only;omega) kE.c.c.c.c.c (cw [1,1])
 have M:i=n:=by have:=bc o;omega
 rw[M,Nat.sub_self,m2]at e
 refine .exit<|aT<|aW<|aU<|aI<|.sr<|.mo rfl<|.az rfl ?_
 refine .ret (bb _ (.one (.tmp rfl)) rH ?_)
 ·exact⟨_,_,rfl,m,k,j,d,e⟩
theorem Az(b:Nat)(s:Option (List UInt8))(T:ay)(h:dp b s T)(l:fF s)(R:aC):Spec prog 34 [pT b] R [T] λu H'=>∃T' T2,H'=[T',T2]/\∃(r:CR) (a:dy) (s':Option (List UInt8)),u=.agg r.cells.toArray/\eT (sg T2) r a/\dp b s' T'/\s.bind ky=s'.map λr=>(a,r):=by
 refine Spec.body func34 rfl results34 ntmps34 rfl ?_
 refine .sr ?_
 refine .dM (λL=>?_)
 refine .z<|.mo rfl ?_
 refine .aQ (fe b s T h l _) (λu o c=>?_)
 obtain⟨d,G,rfl,B,f⟩:=c
 have m:=l.next ed f
 refine .mo rfl ?_
 refine .aQ (fe b G o B m _) (λu T2 c=>?_)
 obtain⟨e,H,rfl,C,g⟩:=c
 have n:=m.next ed g
 refine .q .ek ?_
 refine .dM (λM=>?_)
 refine .dA rfl rfl<|.z<|.mo rfl ?_
 refine .call [2] (m0 b H T2 C n _) (λu H' c=>?_)
 obtain⟨p,t,rfl,x,I,j,D,i⟩:=c
 conv=>arg 8;simp only[rest,bM,acy,acz]
 have F:=n.next (gW ed) i
 have N:=j.aF
 refine .fa rfl<|.cC rfl rfl<|.z<|.mo rfl ?_
 refine .call [0] (m0 b I p D F _) (λK H' c=>?_)
 obtain⟨v,w,rfl,y,J,k,E,A⟩:=c
 conv=>arg 8;simp only[rest,bM,acy,acz]
 have O:=k.aF
 refine .fa rfl<|.cC rfl rfl<|.z<|.q (.aD rfl)<|.dA rfl rfl<|.zn ?_
 refine .ret (bb _ (.one (.gd rfl rfl)) ((cw [0,0,0]).trans (bJ.cW (H':=[v,w++t]) (by simp[take,bM]))) ?_)
 ·refine⟨_,_,rfl,⟨d,e,u,K⟩,⟨d,e,x,y⟩,J,rfl,⟨rfl,rfl,j.sg.right,k.sg.left⟩,E,?_⟩
  unfold ky
  rw[cU f,cU g,cU i,cU A,jS]
theorem RS.eW{α:Type}{R:aC}{sz:Nat}{enc:α->List Value}:RS R sz enc (sZ) ([]:List α):=(OS.nil (E:=0) (sz:=sz) (enc:=enc)).rs λp a=>(by cases a)
def jz:OW:=⟨⟨⟨#[]⟩,⟨#[]⟩,sZ,sZ⟩,sZ,sZ,sZ,sZ,sZ,sZ⟩
theorem ft.zero(R:aC):ft R jz hP:=⟨⟨rfl,rfl,RS.eW,RS.eW⟩,RS.eW,RS.eW,RS.eW,RS.eW,RS.eW,RS.eW⟩
theorem qG(v:Value)(xs:List UInt8)(R:aC)(h:RS R 1 bZ v xs)(hl:xs.length<=1000000000):Spec prog 8 [v] R [] λu H'=>∃T,H'=[T]/\∃(w:OW) (o:dJ) (e:Int),u=.tuple [.agg (dX w o).toArray,.int .i64 e].toArray/\ft (sg T) w o/\((e=0/\iH xs=some (o,[]))\/(e=4/\o=hP/\∀o',iH xs≠some (o',[]))):=by
 have iv:=h.aF
 have l0:fF (some xs):=λys hy=>by cases hy;exact hl
 refine Spec.body func8 rfl results8 ntmps8 rfl ?_
 refine .sr ?_
 refine .dM (λb2=>?_)
 refine .ag rfl<|.z<|.mo rfl ?_
 refine .bY (BJ v xs _ h.rx (by omega)) (λu T0 a=>?_)
 obtain⟨b,rfl,h0⟩:=a
 refine .ag rfl<|.z ?_
 refine .dM (λb5=>?_)
 refine .z<|.mo rfl ?_
 refine .aQ (kz b _ T0 h0 255 (by decide) _) (λu T1 a=>?_)
 obtain⟨k,s1,rfl,hk,f,B⟩:=a
 have l1:=l0.next (gY 255) B
 refine .mo rfl ?_
 refine .aQ (lK b s1 T1 f _) (λu T2 a=>?_)
 obtain⟨n,s2,rfl,hn,h2,I⟩:=a
 have l2:=l1.next lc I
 refine .q .dT<|.fa rfl<|.cC rfl rfl<|.fa rfl<|.cC rfl rfl<|.z<|.mo rfl ?_
 refine .call [1] (Az b s2 T2 h2 l2 _) (λu H' a=>?_)
 obtain⟨T3,D3,rfl,⟨c1,c2,c4,c3⟩,t,s3,rfl,j,h3,J⟩:=a
 conv=>arg 7;simp only[CR.cells]
 conv=>arg 8;simp only[rest,bM,acy,acz,cg]
 have l3:=l2.next nL J
 have i3:=j.u.aF
 have i4:=j.s.aF
 simp only at i3 i4
 refine .fa rfl<|.dA rfl rfl<|.z<|.mo rfl ?_
 refine .aQ (fe b s3 T3 h3 l3 _) (λu T4 a=>?_)
 obtain⟨us,s4,rfl,h4,K⟩:=a
 have l4:=l3.next ed K
 refine .mo rfl ?_
 refine .aQ (fe b s4 T4 h4 l4 _) (λu T5 a=>?_)
 obtain⟨a0,s5,rfl,h5,L⟩:=a
 have l5:=l4.next ed L
 refine .mo rfl ?_
 refine .aQ (fe b s5 T5 h5 l5 _) (λu T6 a=>?_)
 obtain⟨se,s6,rfl,h6,M⟩:=a
 have l6:=l5.next ed M
 refine .mo rfl ?_
 refine .aQ (fe b s6 T6 h6 l6 _) (λu T7 a=>?_)
 obtain⟨ur,s7,rfl,h7,N⟩:=a
 have l7:=l6.next ed N
 refine .fa rfl<|.cC rfl rfl<|.fa rfl<|.cC rfl rfl<|.fa rfl<|.cC rfl rfl<|.fa rfl<|.cC rfl rfl<|.z<|.mo rfl ?_
 refine .call [0] (m0 b s7 T7 h7 l7 _) (λv8 H' a=>?_)
 obtain⟨T8,D8,rfl,sc,s8,Y,h8,O⟩:=a
 conv=>arg 8;simp only[rest,bM,acy,acz,cg]
 have l8:=l7.next (gW ed) O
 have i8:=Y.aF
 refine .fa rfl<|.cC rfl rfl<|.z<|.mo rfl ?_
 refine .aQ (fe b s8 T8 h8 l8 _) (λu T9 a=>?_)
 obtain⟨wo,s9,rfl,h9,Q⟩:=a
 have l9:=l8.next ed Q
 refine .mo rfl ?_
 refine .aQ (fe b s9 T9 h9 l9 _) (λu b3 a=>?_)
 obtain⟨te,d3,rfl,c6,C⟩:=a
 have a1:=l9.next ed C
 refine .fa rfl<|.cC rfl rfl<|.fa rfl<|.cC rfl rfl<|.z<|.mo rfl ?_
 refine .call [0] (m1 b d3 b3 c6 a1 _) (λd9 H' a=>?_)
 obtain⟨b4,a7,rfl,x,d4,S,c7,D⟩:=a
 conv=>arg 8;simp only[rest,bM,acy,acz,cg]
 have a2:=a1.next kZ D
 have f4:=S.aF
 refine .mo rfl ?_
 refine .call [0] (m1 b d4 b4 c7 a2 _) (λe0 H' a=>?_)
 obtain⟨b6,a8,rfl,y,d5,U,c8,E⟩:=a
 conv=>arg 8;simp only[rest,bM,acy,acz,cg]
 have a3:=a2.next kZ E
 have f5:=U.aF
 refine .fa rfl<|.cC rfl rfl<|.fa rfl<|.cC rfl rfl<|.z<|.mo rfl ?_
 refine .call [0] (oU b d5 b6 c8 a3 _) (λf0 H' a=>?_)
 obtain⟨b7,a9,rfl,mu,d6,V,c9,F⟩:=a
 conv=>arg 8;simp only[rest,bM,acy,acz,cg]
 have a4:=a3.next (gW jU) F
 have f6:=V.aF
 refine .mo rfl ?_
 refine .call [0] (oU b d6 b7 c9 a4 _) (λf1 H' a=>?_)
 obtain⟨b8,b0,rfl,no,d7,W,d0,G⟩:=a
 conv=>arg 8;simp only[rest,bM,acy,acz,cg]
 have a5:=a4.next (gW jU) G
 have f7:=W.aF
 refine .fa rfl<|.cC rfl rfl<|.fa rfl<|.cC rfl rfl<|.z<|.mo rfl ?_
 refine .call [0] (Bx b d7 b8 d0 a5 _) (λf2 H' a=>?_)
 obtain⟨b9,b1,rfl,A,d8,X,d1,H⟩:=a
 conv=>arg 8;simp only[rest,bM,acy,acz,cg]
 have f9:=a5.next (gW my) H
 have f8:=X.aF
 refine .fa rfl<|.cC rfl rfl<|.z<|.mo rfl ?_
 refine .aQ (lK b d8 b9 d1 _) (λu c0 a=>?_)
 obtain⟨a6,m,rfl,f3,d2,c5⟩:=a
 have i:iH xs=m.map λr=>((⟨(k:Int),IntKind.i64.wrap (n:Int),t,us,a0,se,ur,sc,wo,te,x,y,mu,no,A,a6⟩:dJ),r):=by
  have:(some xs).bind iH=iH xs:=rfl
  rw[<-this]
  unfold iH
  rw[cU B,cU I,cU J,cU K,cU L,cU M,cU N,cU O,cU Q,cU C,cU D,cU E,cU F,cU G,cU H,cU c5,jS]
 refine .fa rfl<|.cC rfl rfl<|.zs<|.sr ?_
 conv=>arg 8;simp only[cg]
 refine .mo rfl ?_
 refine .bx (BD b m c0 d2 _ (λp hp=>.inr (by simp[hp]))) (λu a=>?_)
 obtain⟨e,rfl,Z⟩:=a
 refine .q .eS<|.zn ?_
 refine .cond rfl (λf=>?_) λf=>?_
 refine .sr ?_
 refine .q .ek ?_
 refine .dA rfl rfl<|.ag rfl<|.nil ?_
 conv=>arg 4;simp only[cg]
 refine aI ?_
 refine .ret (bq (bb _ (.two (.gd rfl rfl) (.tmp rfl)) (.one [1,1,1,1,1,1,1] _) ?_))
 ·have l:e≠0:=by simpa using f
  refine⟨_,rfl,jz,hP,4,rfl,ft.zero _,.inr ⟨rfl,rfl,λo' g=>l (Z.2 ?_)⟩⟩
  rw[i]at g
  cases m with
  |none=>cases g
  |some r=>
   simp only[Option.map_some,Option.some.injEq,Prod.mk.injEq]at g
   rw[g.2]
 refine .kn<|.sr<|.q (.aD rfl)<|.dA rfl rfl<|.ag rfl<|.nil ?_
 conv=>arg 4;simp only[cg]
 refine aI ?_
 refine .ret (bb _ (.two (.gd rfl rfl) (.tmp rfl)) (.one [1,1,1,1,1,1,1] _) ?_)
 ·have l:e=0:=by simpa using f
  have hs:=Z.1 l
  rw[hs]at i
  refine⟨_,rfl,⟨⟨c1,c2,c4,c3⟩,v8,d9,e0,f0,f1,f2⟩,⟨(k:Int),IntKind.i64.wrap (n:Int),t,us,a0,se,ur,sc,wo,te,x,y,mu,no,A,a6⟩,0,rfl,⟨?_,?_,?_,?_,?_,?_,?_⟩,.inl ⟨rfl,i⟩⟩
  ·exact j.mono λb o c=>by have d:(b,o)∈D3:=c;simp[sg,take,bM,d]
  ·exact Y.sg.mono λb o c=>by have d:(b,o)∈D8:=c;simp[sg,take,bM,d]
  ·exact S.sg.mono λb o c=>by have d:(b,o)∈a7:=c;simp[sg,take,bM,d]
  ·exact U.sg.mono λb o c=>by have d:(b,o)∈a8:=c;simp[sg,take,bM,d]
  ·exact V.sg.mono λb o c=>by have d:(b,o)∈a9:=c;simp[sg,take,bM,d]
  ·exact W.sg.mono λb o c=>by have d:(b,o)∈b0:=c;simp[sg,take,bM,d]
  ·exact X.sg.mono λb o c=>by have d:(b,o)∈b1:=c;simp[sg,take,bM,d]
theorem gD:∀(x:Nat),x<bW->∀(R:aC),Spec prog 43 [.int .u64 (x:Nat)] R [] λv H'=>∃T,H'=[T]/\OS 5 1 bZ v (put x) T:=by
 intro x
 induction x using Nat.strongRecOn with
 |_ x ih=>
 intro g R
 by_cases d:x<128
 ·rw[iF d]
  refine Spec.body func43 rfl results43 ntmps43 rfl ?_
  refine .sr<|.ag rfl<|.zs<|.sr<|.mo rfl<|.q .lss<|.zn ?_
  refine .cond rfl (λb=>?_) λb=>?_
  refine .sr<|.mo rfl<|.q (.lU (a:=x) rfl) ?_
  refine .jg (λj=>?_)
  refine .az rfl ?_
  refine .ret (bq (bb _ (.one (.tmp rfl)) (.one [0] _) ?_))
  ·exact⟨_,rfl,OS.lits (xs:=[UInt8.ofNat x]) rfl (by simp[bZ]) (by simp[bZ,aF])⟩
  ·exfalso;have:=bc b;omega
 ·rw[jA d]
  have k:=ja (x:=x/128) (by omega)
  refine Spec.body func43 rfl results43 ntmps43 rfl ?_
  refine .sr<|.ag rfl<|.zs<|.sr<|.mo rfl<|.q .lss<|.zn ?_
  refine .cond rfl (λb=>?_) λb=>?_
  ·exfalso;have:=bp b;omega
  refine .kn<|.sr<|.mo rfl ?_
  refine .q (.BC 128 rfl rfl (by decide)) ?_
  refine .q (aV.cast (v':=.int .u64 ((128+x % 128:Nat):Int)) (.add rfl rfl) (acD (Value.int .u64) (lZ (n:=128+x % 128) (by unfold bW;omega)))) ?_
  refine .q (.lU (a:=128+x % 128) rfl) ?_
  refine .jg (λi=>?_)
  refine .mo rfl ?_
  refine .q (.Bw 128 rfl rfl (by decide) g) ?_
  refine .bY (ih (x/128) (by omega) (by omega) _) (λu h f=>?_)
  refine .append (OS.lits (xs:=[UInt8.ofNat (128+x % 128)]) (enc:=bZ) (sz:=1) (cs:=[.int .u8 ((UInt8.ofNat (128+x % 128)).toNat:Int)]) rfl (by simp[bZ]) (by simp[bZ,aF])) f.rx (by simp;omega) (λm e c=>?_)
  have l:=c.aF
  refine .az rfl ?_
  refine .ret (bb _ (.one (.tmp rfl)) (.one [1] _) ?_)
  ·exact⟨e,by simp[take,bM],c⟩
theorem mA(v:Value)(l:List UInt8)(R:aC)(b:RS R 1 bZ v l)(g:l.length<=1000000000000):Spec prog 47 [v] R [] λu H'=>∃T,H'=[T]/\OS 5 1 bZ u (ew l) T:=by
 have j:=b.aF
 have h:=ja (x:=l.length) (by unfold bW;omega)
 refine Spec.body func47 rfl results47 ntmps47 rfl ?_
 refine .sr<|.ag rfl<|.z<|.mo rfl<|.q (.dw b) ?_
 refine .q (.dQ (a:=l.length) rfl (by unfold bW;omega)) ?_
 refine .bY (gD l.length (by unfold bW;omega) _) (λu f e=>?_)
 refine .mo rfl ?_
 refine .append e b.rx (by simp;omega) (λk d c=>?_)
 have i:=c.aF
 refine .az rfl ?_
 refine .ret (bb _ (.one (.tmp rfl)) (.one [0] _) ?_)
 ·exact⟨d,by simp[take],c⟩
theorem iU(s:ByteArray)(R:aC)(c:(cv s).length<=1000000000000):Spec prog 45 [.string s] R [] λu H'=>∃T,H'=[T]/\OS 5 1 bZ u (cv s) T:=by
 have i:s.data.toList.length<=1000000000000:=by
  unfold cv ew at c
  simp only[acu]at c
  omega
 have j:s.size<=1000000000000:=by
  have:s.data.toList.length=s.size:=by rw[Array.length_toList];rfl
  omega
 refine Spec.body func45 rfl results45 ntmps45 rfl ?_
 refine .sr<|.ag rfl<|.z<|.mo rfl ?_
 refine .pz (s:=s) (by unfold maxLen;omega) (λv d f=>?_)
 refine .bY (mA v s.data.toList _ (f.mono λb o g=>.inr (by have h:(b,o)∈d:=g;simp[h])) i) (λu e a=>?_)
 have k:=a.aF
 refine .az rfl ?_
 refine .ret (bb _ (.one (.tmp rfl)) (.one [0] _) ?_)
 ·exact⟨e,by simp[take],a⟩
theorem mD(v:Value)(l:List ByteArray)(R:aC)(d:RS R 1 di v l)(j:(cF cv l).length<=1000000000000):Spec prog 46 [v] R [] λu H'=>∃T,H'=[T]/\OS 5 1 bZ u (cF cv l) T:=by
 have F:=d.aF
 have C:=d.le
 unfold cF at j
 simp only[acu]at j
 have k:l.length<bW:=by unfold bW;omega
 refine Spec.body func46 rfl results46 ntmps46 rfl ?_
 refine .sr<|.ag rfl<|.z<|.mo rfl<|.q (.dw d) ?_
 refine .q (.dQ (a:=l.length) rfl k) ?_
 refine .bY (gD l.length k _) (λu o s=>?_)
 refine .ag rfl<|.zs<|.sr<|.az rfl<|.block ?_
 refine .loop (X:=Nat×Value×ay) (λy=>y.1<=l.length/\OS 5 1 bZ y.2.1 (put l.length++(l.take y.1).flatMap cv) y.2.2) (λy=>[(0,v),(3,y.2.1),(4,iN y.1)]) (λy=>[y.2.2]) (λy=>l.length-y.1) (0,u,o) ⟨acx _,by simpa using s⟩ kE.c.c.c rH ?_
 rintro⟨i,I,r⟩ ⟨x,b⟩
 simp only at x b⊢
 have E:=b.aF
 refine .seq<|.sr<|.mo rfl<|.mo rfl<|.q (.dw d) ?_
 refine .q .lss<|.zn ?_
 refine .cond rfl (λe=>?_) λe=>?_
 have m:i<l.length:=cO e
 obtain⟨z,n⟩:=eo m
 have g:=gI (enc:=cv) n
 have h:=gJ (enc:=cv) (l:=l) (i+1)
 rw[g]at h
 simp only[acu]at h
 refine .kn<|.seq<|.block<|.region<|.mo rfl<|.mo rfl<|.mo rfl ?_
 refine .dm i d n (λG=>?_)
 refine .lo rfl ?_
 refine .bY (iU z _ (by omega)) (λH B t=>?_)
 refine .append b t.rx (by simp only[acu];omega) (λA p f=>?_)
 have D:=f.aF
 refine .ag rfl<|.nil<|bg<|aI<|.region<|.mo rfl ?_
 refine .ia (i+1) .add ?_
 refine .ag rfl<|.nil ?_
 ·exact aS (i+1,A,p) ⟨m,by simp only;rw[g, <-acC];exact f⟩ (by simp only;omega) kE.c.c.c (cw [1])
 have w:i=l.length:=by have:=bc e;omega
 rw[w,acA]at b
 refine .exit<|aT<|aW<|aU<|aI<|.sr<|.mo rfl<|.az rfl ?_
 refine .ret (bb _ (.one (.tmp rfl)) (.one [0] _) ?_)
 ·exact⟨r,by simp[take],b⟩
theorem qH(f:Bool)(R:aC):Spec prog 49 [.bool f] R [] λu H'=>∃T,H'=[T]/\OS 5 1 bZ u (lC f) T:=by
 refine Spec.body func49 rfl results49 ntmps49 rfl ?_
 refine .sr<|.ag rfl<|.zs<|.sr<|.mo rfl<|.zn ?_
 refine .cond rfl (λc=>?_) λc=>?_
 refine .sr ?_
 refine .bY (gD 1 (by decide) _) (λu b a=>?_)
 have d:=a.aF
 refine .az rfl ?_
 refine .ret (bq (bb _ (.one (.tmp rfl)) (.one [0] _) ?_))
 ·rw[c]
  exact⟨b,by simp[take],a⟩
 refine .kn<|.sr ?_
 refine .bY (gD 0 (by decide) _) (λu b a=>?_)
 have d:=a.aF
 refine .az rfl ?_
 refine .ret (bb _ (.one (.tmp rfl)) (.one [0] _) ?_)
 ·rw[c]
  exact⟨b,by simp[take],a⟩
def bs.seven(t:bs):List ByteArray:=[t.os,t.oi,t.rel,t.us,t.ss,t.si,t.sr]
theorem Bs(t:bs):cI t=t.seven.flatMap cv:=by simp[cI,bs.seven]
theorem mE(t:bs)(R:aC)(r:(cI t).length<=1000000000000):Spec prog 48 [.agg t.enc.toArray] R [] λu H'=>∃T,H'=[T]/\OS 5 1 bZ u (cI t) T:=by
 rw[Bs]at r⊢
 refine Spec.body func48 rfl results48 ntmps48 rfl ?_
 refine .sr ?_
 refine .cQ rfl (λx=>?_)
 refine .ag rfl<|.z<|.fa rfl<|.fa rfl<|.lo rfl<|.fa rfl<|.fa rfl<|.lo rfl<|.fa rfl<|.lo rfl<|.fa rfl<|.fa rfl<|.lo rfl<|.fa rfl<|.fa rfl<|.fa rfl<|.lo rfl<|.fa rfl<|.fa rfl<|.fa rfl<|.lo rfl<|.fa rfl<|.fa rfl<|.lo rfl ?_
 refine .iR [_,_,_,_,_,_,_] (λb=>?_)
 refine .ag rfl<|.z<|.ag rfl<|.zs<|.sr<|.az rfl<|.block ?_
 have m:OS 9 1 di (.slice (some ⟨b,0,none⟩) 7 7) t.seven (bl b t.enc 9):=OS.lits rfl (by simp[di]) (by simp[di,aF])
 have A:t.seven.length=7:=rfl
 refine .loop (X:=Nat×Value×ay) (λy=>y.1<=7/\OS 5 1 bZ y.2.1 ((t.seven.take y.1).flatMap cv) y.2.2) (λy=>[(3,.slice (some ⟨b,0,none⟩) 7 7),(4,y.2.1),(5,iN y.1)]) (λy=>[bl b t.enc 9,y.2.2]) (λy=>7-y.1) (0,sZ,[]) ⟨acx _,OS.nil⟩ kE.c.c.c ((cw [0]).trans (bJ.cW (by simp[take,bs.enc]))) ?_
 rintro⟨i,F,k⟩ ⟨p,a⟩
 simp only at p a⊢
 have C:=a.aF
 refine .seq<|.sr<|.mo rfl<|.mo rfl<|.q (.eR rfl) ?_
 refine .q .lss<|.zn ?_
 refine .cond rfl (λd=>?_) λd=>?_
 have s:i<t.seven.length:=cO d
 obtain⟨z,h⟩:=eo s
 have f:=gI (enc:=cv) h
 have g:=gJ (enc:=cv) (l:=t.seven) (i+1)
 rw[f]at g
 simp only[acu]at g
 refine .kn<|.seq<|.block<|.region<|.mo rfl<|.mo rfl<|.mo rfl ?_
 refine .ar i m h (λD=>?_)
 refine .lo rfl ?_
 refine .bY (iU z _ (by omega)) (λE w n=>?_)
 refine .append a n.rx (by omega) (λv j e=>?_)
 have B:=e.aF
 refine .ag rfl<|.nil<|bg<|aI<|.region<|.mo rfl ?_
 refine .ia (i+1) .add ?_
 refine .ag rfl<|.nil ?_
 ·exact aS (i+1,v,j) ⟨by simp only;omega,by simp only;rw[f];exact e⟩ (by simp only;omega) kE.c.c.c (cw [1,1])
 have o:i=t.seven.length:=by have:=bc d;omega
 rw[o,acA]at a
 refine .exit<|aT<|aW<|aU<|aI<|.sr<|.mo rfl<|.az rfl ?_
 refine .ret (bb _ (.one (.tmp rfl)) (.one [1] _) ?_)
 ·exact⟨k,by simp[take,bM],a⟩
theorem qF(r:CR)(c:dy)(R:aC)(j:eT R r c)(o:(eY c).length<=1000000000000):Spec prog 44 [.agg r.cells.toArray] R [] λu H'=>∃T,H'=[T]/\OS 5 1 bZ u (eY c) T:=by
 have B:cB r.cells:=⟨j.dx⟩
 obtain⟨I,J,q,p⟩:=r
 obtain⟨d,e,b,a⟩:=j
 simp only at d e b a
 subst d;subst e
 have C:=b.aF
 have D:=a.aF
 simp only[eY,acu]at o
 refine Spec.body func44 rfl results44 ntmps44 rfl ?_
 refine .sr ?_
 refine .cQ rfl (λA=>?_)
 refine .ag rfl<|.z<|.fa rfl<|.lo rfl ?_
 refine .bY (iU c.id _ (by omega)) (λK s f=>?_)
 have E:=f.aF
 refine .ag rfl<|.z<|.mo rfl<|.fa rfl<|.lo rfl ?_
 refine .bY (iU c.dY _ (by omega)) (λL t l=>?_)
 refine .append f l.rx (by omega) (λM v g=>?_)
 have F:=g.aF
 refine .ag rfl<|.z<|.mo rfl<|.fa rfl<|.lo rfl ?_
 refine .bY (mD q c.iK _ b.rx (by omega)) (λN w m=>?_)
 refine .append g m.rx (by simp only[acu];omega) (λO x h=>?_)
 have G:=h.aF
 refine .ag rfl<|.z<|.mo rfl<|.fa rfl<|.lo rfl ?_
 refine .bY (mD p c.scopes _ a.rx (by omega)) (λQ y n=>?_)
 refine .append h n.rx (by simp only[acu];omega) (λS k i=>?_)
 have H:=i.aF
 refine .az rfl ?_
 refine .ret (bb _ (.one (.tmp rfl)) (.one [3] _) ?_)
 ·exact⟨k,by simp[take,bM],by simpa[eY]using i⟩
def dJ.four(o:dJ):List ByteArray:=[o.user,o.id,o.dY,o.uri]
def iV(o:dJ):List UInt8:=put (uw o.kind)++put (uw o.n)++eY o.cl
def iA(o:dJ):List UInt8:=iV o++o.four.flatMap cv++cF cv o.scopes++cv o.word++cv o.text++ew o.x++ew o.y
theorem nN(o:dJ):iA o=gH o:=by simp[iA,iV,gH,dJ.four]
theorem mB(w:OW)(o:dJ)(R:aC)(h:ft R w o)(hr:o.rev<bW)(hl:(fI o).length<=1000000000000):Spec prog 10 [.agg (dX w o).toArray] R [] λu H'=>∃T,H'=[T]/\OS 5 1 bZ u (fI o) T:=by
 have i1:cB (dX w o):=⟨h.dx⟩
 obtain⟨⟨E,F,J,I⟩,H,K,L,S,U,Q⟩:=w
 have hc:eT R ⟨E,F,J,I⟩ o.cl:=h.c
 have hs:RS R 1 di H o.scopes:=h.s
 have hx:RS R 1 bZ K o.x:=h.x
 have hy:RS R 1 bZ L o.y:=h.y
 have M:RS R 7 bs.enc S o.cD:=h.m
 have N:RS R 7 bs.enc U o.no:=h.n
 have D:RS R 8 cN.enc Q o.cs:=h.g
 have j1:=hs.aF
 have j2:=hx.aF
 have j3:=hy.aF
 have j4:=M.aF
 have j5:=N.aF
 have j6:=D.aF
 have j7:=hc.u.aF
 have j8:=hc.s.aF
 simp only at j7 j8
 have d2:=D.le
 have d9:=M.le
 have e0:=N.le
 have c9:(iA o).length+(cF cI o.cD).length+(cF cI o.no).length+(cF dF o.cs).length+(put o.rev).length<=1000000000000:=by
  rw[lg, <-nN]at hl
  simp only[acu]at hl
  omega
 have hp:=c9
 simp only[iA,iV,acu]at hp
 have pl (l:List UInt8):(ew l).length=(put l.length).length+l.length:=by unfold ew;rw[acu]
 have p1:=pl o.x
 have p2:=pl o.y
 refine Spec.body func10 rfl results10 ntmps10 rfl ?_
 refine .sr ?_
 refine .cQ rfl (λA=>?_)
 refine .ag rfl<|.z<|.fa rfl<|.lo rfl<|.q (.cast (v':=.int .u64 (uw o.kind:Nat)) (.dT) (acD (Value.int .u64) (ma o.kind))) ?_
 refine .bY (gD (uw o.kind) (jK _) _) (λu1 T1 a0=>?_)
 have k1:=a0.aF
 refine .ag rfl<|.z<|.mo rfl<|.fa rfl<|.lo rfl<|.q (.cast (v':=.int .u64 (uw o.n:Nat)) (.dT) (acD (Value.int .u64) (ma o.n))) ?_
 refine .bY (gD (uw o.n) (jK _) _) (λZ V v=>?_)
 refine .append a0 v.rx (by omega) (λu3 T3 Y=>?_)
 have k3:=Y.aF
 refine .ag rfl<|.z<|.mo rfl<|.fa rfl<|.q (.loadT rfl) ?_
 refine .bY (qF ⟨E,F,J,I⟩ o.cl _ (hc.mono λb o hb=>.inl hb) (by omega)) (λu4 T4 b6=>?_)
 refine .append Y b6.rx (by simp only[acu];omega) (λu5 T5 a2=>?_)
 have k5:=a2.aF
 have b7:OS 5 1 bZ u5 (iV o) T5:=a2
 refine .ag rfl<|.z<|.fa rfl<|.lo rfl<|.fa rfl<|.lo rfl<|.fa rfl<|.lo rfl<|.fa rfl<|.lo rfl ?_
 refine .iR [_,_,_,_] (λW=>?_)
 refine .ag rfl<|.zs<|.sr<|.az rfl<|.block ?_
 have b5:OS 9 1 di (.slice (some ⟨W,0,none⟩) 4 4) o.four (bl W [.string o.user,.string o.id,.string o.dY,.string o.uri] 9):=OS.lits rfl (by simp[di]) (by simp[di,aF])
 have d7:o.four.length=4:=rfl
 have d3:(iV o).length=(put (uw o.kind)).length+(put (uw o.n)).length+(eY o.cl).length:=by simp[iV];omega
 refine .loop (X:=Nat×Value×ay) (λy=>y.1<=4/\OS 5 1 bZ y.2.1 (iV o++(o.four.take y.1).flatMap cv) y.2.2) (λy=>[(1,pT A),(3,y.2.1),(4,.slice (some ⟨W,0,none⟩) 4 4),(5,iN y.1)]) (λy=>[bl W [.string o.user,.string o.id,.string o.dY,.string o.uri] 9,y.2.2,bl A (dX ⟨⟨E,F,J,I⟩,H,K,L,S,U,Q⟩ o) 30]) (λy=>4-y.1) (0,u5,T5) ⟨acx _,by simpa using b7⟩ kE.c.c.c.c (cw [0,2,2]) ?_
 rintro⟨i,vo,To⟩ ⟨hi,d⟩
 simp only at hi d⊢
 have O:=d.aF
 refine .seq<|.sr<|.mo rfl<|.mo rfl<|.q (.eR rfl) ?_
 refine .q .lss<|.zn ?_
 refine .cond rfl (λh1=>?_) λh1=>?_
 have t:i<o.four.length:=cO h1
 obtain⟨z,e⟩:=eo t
 have p:=gI (enc:=cv) e
 have r:=gJ (enc:=cv) (l:=o.four) (i+1)
 rw[p]at r
 simp only[acu]at r
 refine .kn<|.seq<|.block<|.region<|.mo rfl<|.mo rfl<|.mo rfl ?_
 refine .ar i b5 e (λe4=>?_)
 refine .lo rfl ?_
 refine .bY (iU z _ (by omega)) (λZ V v=>?_)
 refine .append d v.rx (by simp only[acu];omega) (λG C f=>?_)
 have i9:=f.aF
 refine .ag rfl<|.nil<|bg<|aI<|.region<|.mo rfl ?_
 refine .ia (i+1) .add ?_
 refine .ag rfl<|.nil ?_
 ·exact aS (i+1,G,C) ⟨by simp only;omega,by simp only;rw[p, <-acC];exact f⟩ (by simp only;omega) kE.c.c.c.c (cw [1,1,1])
 have B:i=o.four.length:=by have:=bc h1;omega
 rw[B,acA]at d
 refine .exit<|aT<|aW<|aU<|aI<|.sr<|.mo rfl<|.fa rfl<|.lo rfl ?_
 refine .bY (mD H o.scopes _ hs.rx (by omega)) (λw1 S1 b8=>?_)
 refine .append d b8.rx (by simp only[acu];omega) (λw2 S2 a4=>?_)
 have q2:=a4.aF
 refine .ag rfl<|.z<|.mo rfl<|.fa rfl<|.lo rfl ?_
 refine .bY (iU o.word _ (by omega)) (λw3 S3 b9=>?_)
 refine .append a4 b9.rx (by simp only[acu];omega) (λw4 S4 a5=>?_)
 have q4:=a5.aF
 refine .ag rfl<|.z<|.mo rfl<|.fa rfl<|.lo rfl ?_
 refine .bY (iU o.text _ (by omega)) (λw5 S5 c0=>?_)
 refine .append a5 c0.rx (by simp only[acu];omega) (λw6 S6 a6=>?_)
 have q6:=a6.aF
 refine .ag rfl<|.z<|.mo rfl<|.fa rfl<|.lo rfl ?_
 refine .bY (mA K o.x _ hx.rx (by omega)) (λw7 S7 c1=>?_)
 refine .append a6 c1.rx (by simp only[acu];omega) (λw8 S8 a7=>?_)
 have q8:=a7.aF
 refine .ag rfl<|.z<|.mo rfl<|.fa rfl<|.lo rfl ?_
 refine .bY (mA L o.y _ hy.rx (by omega)) (λw9 S9 c2=>?_)
 refine .append a7 c2.rx (by simp only[acu];omega) (λd1 b3 a3=>?_)
 have e6:=a3.aF
 have c3:OS 5 1 bZ d1 (iA o) b3:=a3
 have d5:(cF cI o.cD).length=(put o.cD.length).length+(o.cD.flatMap cI).length:=by simp[cF]
 have d6:(cF cI o.no).length=(put o.no.length).length+(o.no.flatMap cI).length:=by simp[cF]
 have d4:(cF dF o.cs).length=(put o.cs.length).length+(o.cs.flatMap dF).length:=by simp[cF]
 clear hp p1 p2 pl
 refine .ag rfl<|.z<|.mo rfl<|.fa rfl<|.lo rfl<|.q (.dw M) ?_
 refine .q (.dQ (a:=o.cD.length) rfl (by unfold bW;omega)) ?_
 refine .bY (gD o.cD.length (by unfold bW;omega) _) (λy1 Y1 c4=>?_)
 refine .append c3 c4.rx (by omega) (λy2 Y2 a8=>?_)
 have z2:=a8.aF
 refine .ag rfl<|.zs<|.sr<|.az rfl<|.block ?_
 refine .loop (X:=Nat×Value×ay) (λy=>y.1<=o.cD.length/\OS 5 1 bZ y.2.1 (iA o++put o.cD.length++(o.cD.take y.1).flatMap cI) y.2.2) (λy=>[(1,pT A),(3,y.2.1),(6,iN y.1)]) (λy=>[y.2.2,bl A (dX ⟨⟨E,F,J,I⟩,H,K,L,S,U,Q⟩ o) 30]) (λy=>o.cD.length-y.1) (0,y2,Y2) ⟨acx _,by simpa using a8⟩ kE.c.c.c (cw [7,7]) ?_
 rintro⟨j,vo,To⟩ ⟨hj,d⟩
 simp only at hj d⊢
 have O:=d.aF
 refine .seq<|.sr<|.mo rfl<|.fa rfl<|.lo rfl<|.q (.dw M) ?_
 refine .q .lss<|.zn ?_
 refine .cond rfl (λh2=>?_) λh2=>?_
 have t:j<o.cD.length:=cO h2
 obtain⟨z,e⟩:=eo t
 have p:=gI (enc:=cI) e
 have r:=gJ (enc:=cI) (l:=o.cD) (j+1)
 rw[p]at r
 simp only[acu]at r
 refine .kn<|.seq<|.block<|.region<|.mo rfl<|.fa rfl<|.lo rfl<|.mo rfl ?_
 refine .dm j M e (λe5=>?_)
 refine .q (.aD rfl) ?_
 refine .bY (mE z _ (by omega)) (λZ V v=>?_)
 refine .append d v.rx (by simp only[acu];omega) (λG C f=>?_)
 have i9:=f.aF
 refine .ag rfl<|.nil<|bg<|aI<|.region<|.mo rfl ?_
 refine .ia (j+1) .add ?_
 refine .ag rfl<|.nil ?_
 ·exact aS (j+1,G,C) ⟨t,by simp only;rw[p, <-acC];exact f⟩ (by simp only;omega) kE.c.c.c (cw [1,1])
 have B:j=o.cD.length:=by have:=bc h2;omega
 rw[B,acA]at d
 refine .exit<|aT<|aW<|aU<|aI<|.sr<|.mo rfl<|.fa rfl<|.lo rfl<|.q (.dw N) ?_
 refine .q (.dQ (a:=o.no.length) rfl (by unfold bW;omega)) ?_
 refine .bY (gD o.no.length (by unfold bW;omega) _) (λy3 Y3 c5=>?_)
 refine .append d c5.rx (by simp only[acu];omega) (λy4 Y4 a9=>?_)
 have z4:=a9.aF
 clear d O
 refine .ag rfl<|.zs<|.sr<|.az rfl<|.block ?_
 refine .loop (X:=Nat×Value×ay) (λy=>y.1<=o.no.length/\OS 5 1 bZ y.2.1 (iA o++put o.cD.length++o.cD.flatMap cI++put o.no.length++(o.no.take y.1).flatMap cI) y.2.2) (λy=>[(1,pT A),(3,y.2.1),(7,iN y.1)]) (λy=>[y.2.2,bl A (dX ⟨⟨E,F,J,I⟩,H,K,L,S,U,Q⟩ o) 30]) (λy=>o.no.length-y.1) (0,y4,Y4) ⟨acx _,by simpa using a9⟩ kE.c.c.c (cw [1,1]) ?_
 rintro⟨k,vo,To⟩ ⟨hk,d⟩
 simp only at hk d⊢
 have O:=d.aF
 refine .seq<|.sr<|.mo rfl<|.fa rfl<|.lo rfl<|.q (.dw N) ?_
 refine .q .lss<|.zn ?_
 refine .cond rfl (λh3=>?_) λh3=>?_
 have t:k<o.no.length:=cO h3
 obtain⟨z,e⟩:=eo t
 have p:=gI (enc:=cI) e
 have r:=gJ (enc:=cI) (l:=o.no) (k+1)
 rw[p]at r
 simp only[acu]at r
 refine .kn<|.seq<|.block<|.region<|.mo rfl<|.fa rfl<|.lo rfl<|.mo rfl ?_
 refine .dm k N e (λe1=>?_)
 refine .q (.aD rfl) ?_
 refine .bY (mE z _ (by omega)) (λZ V v=>?_)
 refine .append d v.rx (by simp only[acu];omega) (λG C f=>?_)
 have i9:=f.aF
 refine .ag rfl<|.nil<|bg<|aI<|.region<|.mo rfl ?_
 refine .ia (k+1) .add ?_
 refine .ag rfl<|.nil ?_
 ·exact aS (k+1,G,C) ⟨t,by simp only;rw[p, <-acC];exact f⟩ (by simp only;omega) kE.c.c.c (cw [1,1])
 have B:k=o.no.length:=by have:=bc h3;omega
 rw[B,acA]at d
 refine .exit<|aT<|aW<|aU<|aI<|.sr<|.mo rfl<|.fa rfl<|.lo rfl<|.q (.dw D) ?_
 refine .q (.dQ (a:=o.cs.length) rfl (by unfold bW;omega)) ?_
 refine .bY (gD o.cs.length (by unfold bW;omega) _) (λy5 Y5 c6=>?_)
 refine .append d c6.rx (by simp only[acu];omega) (λy6 Y6 b0=>?_)
 have z6:=b0.aF
 clear d O
 refine .ag rfl<|.zs<|.sr<|.az rfl<|.block ?_
 refine .loop (X:=Nat×Value×ay) (λy=>y.1<=o.cs.length/\OS 5 1 bZ y.2.1 (iA o++put o.cD.length++o.cD.flatMap cI++put o.no.length++o.no.flatMap cI++put o.cs.length++(o.cs.take y.1).flatMap dF) y.2.2) (λy=>[(1,pT A),(3,y.2.1),(8,iN y.1)]) (λy=>[y.2.2,bl A (dX ⟨⟨E,F,J,I⟩,H,K,L,S,U,Q⟩ o) 30]) (λy=>o.cs.length-y.1) (0,y6,Y6) ⟨acx _,by simpa using b0⟩ kE.c.c.c (cw [1,1]) ?_
 rintro⟨m,vo,To⟩ ⟨c8,d⟩
 simp only at c8 d⊢
 have O:=d.aF
 refine .seq<|.sr<|.mo rfl<|.fa rfl<|.lo rfl<|.q (.dw D) ?_
 refine .q .lss<|.zn ?_
 refine .cond rfl (λh4=>?_) λh4=>?_
 have t:m<o.cs.length:=cO h4
 obtain⟨⟨zp,zt⟩,e⟩:=eo t
 have p:=gI (enc:=dF) e
 have r:=gJ (enc:=dF) (l:=o.cs) (m+1)
 rw[p]at r
 simp only[acu,dF]at r
 refine .kn<|.seq<|.block<|.sr<|.mo rfl<|.fa rfl<|.lo rfl<|.mo rfl ?_
 refine .dm m D e (λe2=>?_)
 refine .fa rfl<|.lo rfl ?_
 refine .bY (qH zp _) (λZ V v=>?_)
 refine .append d v.rx (by simp only[acu,dF]at *;omega) (λG C f=>?_)
 have i9:=f.aF
 refine .az rfl<|.region<|.mo rfl<|.fa rfl<|.lo rfl<|.mo rfl ?_
 refine .dm m D e (λe3=>?_)
 refine .fa rfl<|.q (.loadT rfl) ?_
 refine .bY (mE zt _ (by simp only[dF]at *;omega)) (λu3 T3 Y=>?_)
 refine .append f Y.rx (by simp only[acu,dF]at *;omega) (λd0 b4 a1=>?_)
 have d8:=a1.aF
 refine .ag rfl<|.nil<|bg<|aI<|.region<|.mo rfl ?_
 refine .ia (m+1) .add ?_
 refine .ag rfl<|.nil ?_
 ·exact aS (m+1,d0,b4) ⟨t,by simp only;rw[p];simpa[dF]using a1⟩ (by simp only;omega) kE.c.c.c (cw [2,2])
 have B:m=o.cs.length:=by have:=bc h4;omega
 rw[B,acA]at d
 refine .exit<|aT<|aW<|aU<|aI<|.sr<|.mo rfl<|.fa rfl<|.lo rfl ?_
 refine .bY (gD o.rev hr _) (λy7 Y7 c7=>?_)
 refine .append d c7.rx (by simp only[acu];omega) (λy8 Y8 b2=>?_)
 have z8:=b2.aF
 refine .az rfl ?_
 refine .ret (bb _ (.one (.tmp rfl)) (.one [1] _) ?_)
 ·refine⟨Y8,by simp[take,bM],?_⟩
  rw[lg, <-nN]
  simpa[cF]using b2
set_option linter.unusedSimpArgs false
theorem kD(v w:Value)(l m:List UInt8)(R:aC)(h:RS R 1 bZ v l)(b:RS R 1 bZ w m):Spec prog 9 [v,w] R [] λu H'=>u=.bool (decide (l=m))/\H'=[]:=by
 have A:=h.aF
 have B:=b.aF
 have z:=h.le
 refine Spec.body func9 rfl results9 ntmps9 rfl ?_
 refine .sr<|.ag rfl<|.zs<|.sr<|.mo rfl<|.q (.dw h) ?_
 refine .mo rfl<|.q (.dw b) ?_
 refine .q .eS<|.zn ?_
 refine .cond rfl (λf=>?_) λf=>?_
 refine .sr<|.az rfl ?_
 refine .ret (bq (cf rfl ?_))
 ·refine⟨acD Value.bool ?_,rfl⟩
  have o:¬l=m:=λe=>by subst e;simp at f
  exact(decide_eq_false o).symm
 have x:l.length=m.length:=by
  have:=f
  simp only[bne_eq_false_iff_eq]at this
  omega
 refine .kn<|.seq<|.sr<|.az rfl<|.block ?_
 refine .loop (X:=Nat) (λi=>i<=l.length/\l.take i=m.take i) (λi=>[(0,v),(1,w),(5,iN i)]) (λ_=>[]) (λi=>l.length-i) 0 ⟨acx _,rfl⟩ kE.c.c.c rH ?_
 rintro i ⟨y,n⟩
 refine .seq<|.sr<|.mo rfl<|.mo rfl<|.q (.dw h) ?_
 refine .q .lss<|.zn ?_
 refine .cond rfl (λg=>?_) λg=>?_
 have p:i<l.length:=cO g
 obtain⟨c,k⟩:=eo p
 obtain⟨d,a⟩:∃d,m[i]? =some d:=⟨_,aE (by omega)⟩
 refine .kn<|.seq<|.block<|.seq ?_
 refine .BB mixed (by kernel_rfl) ?_
 refine .mo rfl<|.mo rfl ?_
 refine .dm i h k (λC=>?_)
 refine .lo rfl<|.mo rfl<|.mo rfl ?_
 refine .dm i b a (λD=>?_)
 refine .lo rfl<|.q .eS<|.zn ?_
 refine .cond rfl (λj=>?_) λj=>?_
 refine .sr<|.az rfl ?_
 refine .ret (bu (bq (cH (bu (bq (cf rfl ?_))))))
 ·refine⟨acD Value.bool ?_,rfl⟩
  have o:¬l=m:=λe=>by
   subst e
   rw[k]at a
   cases a
   simp at j
  exact(decide_eq_false o).symm
 refine .skip<|bg<|aI<|.region<|.mo rfl ?_
 refine .ia (i+1) .add ?_
 refine .ag rfl<|.nil ?_
 ·exact aS (i+1) ⟨p,by
   have s:c=d:=by
    have r:=j
    simp only[bne_eq_false_iff_eq]at r
    exact UInt8.toNat_inj.1 (by omega)
   rw[acF,acF,k,a,n,s]⟩ (by omega) kE.c.c.c rH
 have t:i=l.length:=by have:=bc g;omega
 refine .exit<|aT<|aW<|aU<|aI<|.sr<|.az rfl ?_
 refine .ret (cf rfl ?_)
 ·refine⟨acD Value.bool ?_,rfl⟩
  rw[t,acA,x,acA]at n
  exact(acE n).symm
def c5(o:dJ)(cr:CR)(vs vx vy:Value)(tx:ByteArray)(a b c:Value):List Value:=[.int .i64 o.kind,.int .i64 o.n,.string cr.id,.string cr.dY,cr.vu,cr.vs,.string (short o.user 40),.string (short o.id 40),.string (short o.dY 70),.string (short o.uri 210),vs,.string (short o.word 140),.string tx,vx,vy,a,b,c,.int .u64 (o.rev:Nat)]
theorem oN(w:OW)(o:dJ)(R:aC){R':aC}(h:ft R' w o):Spec prog 12 [.agg (dX w o).toArray] R [] λu H'=>u=.agg (dX w o).toArray/\H'=[]:=by
 have O:cB (dX w o):=⟨h.dx⟩
 obtain⟨⟨I,J,L,K⟩,U,V,W,S,T,Q⟩:=w
 have a:=h.c
 have f:=h.s
 have i:=h.x
 have j:=h.y
 have d:=h.m
 have e:=h.n
 have b:=h.g
 simp only at a f i j d e b
 have k:=a.u.aF
 have l:=a.s.aF
 simp only at k l
 obtain⟨C,p,rfl⟩:=f.val
 obtain⟨D,r,rfl⟩:=i.val
 obtain⟨E,t,rfl⟩:=j.val
 obtain⟨F,v,rfl⟩:=d.val
 obtain⟨G,A,rfl⟩:=e.val
 obtain⟨H,B,rfl⟩:=b.val
 refine Spec.body func12 rfl results12 ntmps12 rfl ?_
 refine .sr ?_
 refine .cQ rfl (λM=>?_)
 refine .dM (λN=>?_)
 refine .z<|.fa rfl<|.lo rfl<|.fa rfl<|.lo rfl<|.fa rfl<|.q (.loadT rfl) ?_
 refine .fa rfl<|.lo rfl<|.fa rfl<|.lo rfl<|.fa rfl<|.lo rfl<|.fa rfl<|.lo rfl<|.fa rfl<|.lo rfl<|.fa rfl<|.lo rfl<|.fa rfl<|.lo rfl<|.fa rfl<|.lo rfl<|.fa rfl<|.lo rfl<|.fa rfl<|.lo rfl<|.fa rfl<|.lo rfl<|.fa rfl<|.lo rfl<|.fa rfl<|.lo rfl ?_
 refine .q (.ek (out:=dX ⟨⟨I,J,L,K⟩,.slice C o.scopes.length p,.slice D o.x.length r,.slice E o.y.length t,.slice F o.cD.length v,.slice G o.no.length A,.slice H o.cs.length B⟩ o) rfl (by simp[ep,cg,dX])) ?_
 refine .dA rfl rfl<|.zn ?_
 refine .ret (bb _ (.one (.gd rfl rfl)) (.none _) ?_)
 ·exact⟨rfl,rfl⟩
theorem oJ:(fI hP).length<=60000:=by
 have a:put 0=[0]:=iF (by decide)
 simp[fI,hP,eY,cv,ew,cF,a,uw]
theorem Ba(F:∀R:aC,Spec prog 13 [] R [] λu H'=>u=.bool true/\H'=[])(v:Value)(xs:List UInt8)(R:aC)(h:RS R 1 bZ v xs):
  Spec prog 4 [v] R [] λu H'=>u=.bool true/\H'=[]:=by
 have T:=h.aF
 refine Spec.body func4 rfl results4 ntmps4 rfl ?_
 refine .sr<|.ag rfl<|.z<|.mo rfl ?_
 refine .bx (qE v xs 600 R _ h (by decide)) (λu a=>?_)
 have S:=a.aF
 obtain⟨d,B⟩:∃d,d=xs.take 600:=⟨_,rfl⟩
 have J:d.length<=600:=by rw[B];simp;omega
 rw[<-B]at a
 refine .ag rfl<|.z<|.mo rfl ?_
 refine .bY (qD u d _ a.rx (by omega)) (λx M m=>?_)
 have Q:=m.aF
 refine .ag rfl<|.z<|.mo rfl ?_
 refine .bY (qG x d _ m.rx (by omega)) (λV n I=>?_)
 obtain⟨f,c,p,rfl,e,C⟩:=I
 have O:cB (dX f c):=⟨e.dx⟩
 refine .mo rfl<|.q .extract<|.q .extract ?_
 refine .dM (λN=>?_)
 refine .dA rfl rfl<|.ag rfl<|.zs<|.sr<|.mo rfl<|.q .eS<|.zn ?_
 refine .cond rfl (λs=>?_) λs=>?_
 have D:p≠0:=by simpa using s
 obtain⟨rfl,rfl⟩:p=4/\c=hP:=by
  rcases C with⟨l,_⟩|⟨l,t,_⟩
  ·exact absurd l D
  ·exact⟨l,t⟩
 refine .sr<|.mo rfl<|.q (.cast (v':=.bool true) .cL rfl) ?_
 refine .mo rfl<|.gt rfl ?_
 refine .q (.aD rfl)<|.gt rfl ?_
 refine .bx (oN f hP _ e) (λu a=>?_)
 subst a
 refine .gt rfl ?_
 refine .bY (mB f hP _ (e.mono λb o j=>.inr (by have k:(b,o)∈n:=j;simp[k])) (by decide) (by have:=oJ;omega)) (λy G g=>?_)
 have K:=g.aF
 refine .gt rfl ?_
 refine .q .ek ?_
 refine .gt rfl ?_
 refine .bY (mB jz hP _ (ft.zero _) (by decide) (by have:=oJ;omega)) (λA H i=>?_)
 have L:=i.aF
 refine .gt rfl ?_
 refine .bx (kD y A _ _ _ g.rx i.rx) (λu a=>?_)
 rw[acE rfl]at a
 subst a
 refine .q .eX<|.mo rfl<|.gt rfl ?_
 refine .mo rfl<|.gt rfl ?_
 refine .mo rfl<|.gt rfl ?_
 refine .bx (kD x u _ _ _ m.rx a.rx) (λu a=>?_)
 rw[acE rfl]at a
 subst a
 refine .q .eX<|.mo rfl<|.gt rfl ?_
 refine .bx (F _) (λu a=>?_)
 subst a
 refine .q .eX<|.az rfl ?_
 refine .ret (bq (cf rfl ?_))
 ·exact⟨rfl,rfl⟩
 have D:p=0:=by simpa using s
 obtain⟨w,E⟩:d=fI c/\c.n8:=by
  rcases C with⟨_,t⟩|⟨l,_⟩
  ·have:=(qw.h d c []).1 t
   simpa using this
  ·omega
 have U:(fI c).length<=600:=by rw[<-w];exact J
 refine .kn<|.sr<|.q (.aD rfl) ?_
 refine .bx (oN f c _ e) (λu a=>?_)
 subst a
 refine .bY (mB f c _ (e.mono λb o j=>.inr (by have k:(b,o)∈n:=j;simp[k])) E.r (by omega)) (λy G g=>?_)
 have K:=g.aF
 refine .mo rfl ?_
 refine .bx (kD y u _ _ _ g.rx a.rx) (λu a=>?_)
 rw[acE w.symm]at a
 subst a
 refine .mo rfl<|.gt rfl ?_
 refine .q (.aD rfl)<|.gt rfl ?_
 refine .bY (qP f c _ (e.mono λb o j=>.inr (by have k:(b,o)∈n:=j;simp[k])) E.r (by omega)) (λA H i=>?_)
 have L:=i.aF
 refine .gt rfl ?_
 refine .mo rfl<|.gt rfl ?_
 refine .bx (kD A u _ _ _ i.rx a.rx) (λu a=>?_)
 rw[acE w.symm]at a
 subst a
 refine .q .eX<|.mo rfl<|.gt rfl ?_
 refine .mo rfl<|.gt rfl ?_
 refine .mo rfl<|.gt rfl ?_
 refine .bx (kD x u _ _ _ m.rx a.rx) (λu a=>?_)
 rw[acE rfl]at a
 subst a
 refine .q .eX<|.mo rfl<|.gt rfl ?_
 refine .bx (F _) (λu a=>?_)
 subst a
 refine .q .eX<|.az rfl ?_
 refine .ret (cf rfl ?_)
 ·exact⟨rfl,rfl⟩
end Go.Proofs.YtgppncmdpcefhaaGreatDoor
