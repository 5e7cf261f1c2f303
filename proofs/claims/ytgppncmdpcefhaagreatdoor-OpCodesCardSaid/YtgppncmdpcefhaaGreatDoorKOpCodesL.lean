/- What the law 'OpCodes' uses. No condition. -/
import Derived.Test.YtgppncmdpcefhaaGreatDoorKOpCodesJ
import Derived.Test.YtgppncmdpcefhaaGreatDoorKOpCodesK
namespace Go.Proofs.YtgppncmdpcefhaaGreatDoor
set_option linter.defProp false
def acy:=@List.length_append
def acz:=@Nat.zero_le
def acA:=@List.take_length
def acB:=@List.getD_cons_zero
def acC:=@List.getD_cons_succ
def acD:=@List.cons_append
def acE:=@List.nil_append
def acF:=@List.length_nil
def acG:=@congrArg
def acH:=@List.append_assoc
def acI:=@List.take_add_one
def acJ:=@List.take_of_length_le
open Tryz
set_option linter.unusedVariables false
set_option linter.unusedSimpArgs false
set_option maxRecDepth 4000
structure OW where
 cr:CR
 vs:Value
 vx:Value
 vy:Value
 vm:Value
 vn:Value
 vc:Value
def cI(w:OW)(o:cC):List Value:=[.int .i64 o.kind,.int .i64 o.n,.string w.cr.id,.string w.cr.dc,w.cr.vu,w.cr.vs,.string o.user,.string o.id,.string o.dc,.string o.uri,w.vs,.string o.word,.string o.text,w.vx,w.vy,w.vm,w.vn,w.vc,.int .u64 (o.rev:Nat)]
structure eC(R:aC)(w:OW)(o:cC):Prop where
 c:ek R w.cr o.cl
 s:RS R 1 cR w.vs o.scopes
 x:RS R 1 ca w.vx o.x
 y:RS R 1 ca w.vy o.y
 m:RS R 7 bc.enc w.vm o.cj
 n:RS R 7 bc.enc w.vn o.no
 g:RS R 8 cg.enc w.vc o.cs
theorem eC.mono{R R':aC}{w:OW}{o:cC}(h:eC R w o)(a:∀b x,R b x->R' b x):eC R' w o:=⟨h.c.mono a,h.s.mono a,h.x.mono a,h.y.mono a,h.m.mono a,h.n.mono a,h.g.mono a⟩
theorem eC.cL{R:aC}{w:OW}{o:cC}(h:eC R w o):∀u∈cI w o,aB u=true:=by
 have b:=h.s.aB.h
 have d:=h.x.aB.h
 have e:=h.y.aB.h
 have f:=h.m.aB.h
 have i:=h.n.aB.h
 have j:=h.g.aB.h
 have k:=h.c.u.aB.h
 have l:=h.c.s.aB.h
 intro u a
 simp only[cI,List.mem_cons,List.not_mem_nil,or_false]at a
 rcases a with rfl|rfl|rfl|rfl|rfl|rfl|rfl|rfl|rfl|rfl|rfl|rfl|rfl|rfl|rfl|rfl|rfl|rfl|rfl<;>first|rfl|assumption
theorem gW{α:Type}{enc:α->List UInt8}{l:List α}{i:Nat}{z:α}(h:l[i]? =some z):(l.take (i+1)).flatMap enc=(l.take i).flatMap enc++enc z:=by
 rw[acI,h];simp
theorem gY{α:Type}{enc:α->List UInt8}{l:List α}(i:Nat):((l.take i).flatMap enc).length<=(l.flatMap enc).length:=by
 conv=>rhs;rw[<-List.take_append_drop i l]
 rw[List.flatMap_append,acy];omega
theorem ny(b:Nat)(xs:List UInt8)(T:ax)(h:de b xs T)(v:Value)(l:List ByteArray)(R:aC)(d:RS R 1 cR v l)(n:(xs++cD cf l).length<=1000000000000):Spec prog 26 [pT b,v] R [T] λu H'=>∃T',H'=[T']/\de b (xs++cD cf l) T':=by
 have D:=d.aB
 have C:=d.le
 unfold cD at n
 simp only[acy]at n
 have o:l.length<bP:=by unfold bP;omega
 refine Spec.body func26 rfl results26 ntmps26 rfl ?_
 refine .sr<|.mo rfl<|.mo rfl<|.q (.db d) ?_
 refine .q (.dX (a:=l.length) rfl o) ?_
 refine .aR (eH b xs T h l.length o (by omega) _) (λu s g=>?_)
 obtain⟨rfl,w⟩:=g
 refine .z<|.mo rfl<|.q (.db d) ?_
 refine .mo rfl<|.zn<|.block ?_
 refine .loop (X:=Nat×ax) (λy=>y.1<=l.length/\de b (xs++put l.length++(l.take y.1).flatMap cf) y.2) (λy=>[(0,pT b),(11,v),(12,iN l.length),(13,iN y.1)]) (λy=>[y.2]) (λy=>l.length-y.1) (0,s) ⟨acz _,by simpa using w⟩ kE.c.c.c.c rH ?_
 rintro⟨i,j⟩ ⟨B,e⟩
 simp only at B e⊢
 refine .sr<|.q .lss<|.zs ?_
 refine .cond rfl (λf=>?_) λf=>?_
 have p:i<l.length:=cS f
 obtain⟨z,r⟩:=eh p
 have k:=gW (enc:=cf) r
 have m:=gY (enc:=cf) (l:=l) (i+1)
 rw[k]at m
 simp only[acy]at m
 refine .kn<|.seq<|.block<|.sr ?_
 refine .da i d r (λE=>?_)
 refine .lo rfl<|.az rfl<|.region<|.mo rfl<|.mo rfl ?_
 refine .aR (fw b _ j e z _ (by simp only[acy];omega)) (λu t g=>?_)
 obtain⟨rfl,x⟩:=g
 refine .nil<|bd<|aF<|.region ?_
 refine .ia (i+1) .add ?_
 refine .mo rfl<|.nil ?_
 ·exact aT (i+1,t) ⟨p,by simp only;rw[k, <-acH];exact x⟩ (by simp only;omega) kE.c.c.c.c rH
 have A:i=l.length:=by have:=aZ f;omega
 rw[A,acA,acH]at e
 refine .exit<|aU<|aY<|aW<|cF _ .none (.one [0] _) ?_
 ·exact⟨j,by simp[take],e⟩
theorem pU(b:Nat)(xs:List UInt8)(T:ax)(h:de b xs T)(t:bc)(R:aC)(s:(xs++cH t).length<=1000000000000):Spec prog 28 [pT b,.agg t.enc.toArray] R [T] λu H'=>∃T',H'=[T']/\de b (xs++cH t) T':=by
 obtain⟨w,v,x,C,B,y,A⟩:=t
 simp only[cH,acy]at s
 refine Spec.body func28 rfl results28 ntmps28 rfl ?_
 refine .sr ?_
 refine .cK rfl (λD=>?_)
 refine .z<|.fa rfl<|.q (.loadT rfl) ?_
 refine .cZ (λE=>?_)
 refine .cW rfl rfl<|.zn<|.ki [2] [4,8,11,14,18,22,25] mixed ?_
 conv=>arg 3;simp only[take,rest,bF,acB,acC]
 conv=>arg 5;simp only[take,rest,bF,acB,acC]
 conv=>arg 9;simp only[take,rest,bF,acB,acC]
 refine .tO 0 rfl .move<|.tO 1 rfl (.fieldAddr rfl)<|.tO 2 rfl (.fieldAddr rfl)<|.tO 3 rfl (.bN rfl) ?_
 refine .tK 5 rfl (.dB rfl) ?_
 refine .tK 6 rfl (.dB rfl) ?_
 refine .tK 7 rfl (.bN rfl) ?_
 refine .tK 9 rfl (.dB rfl) ?_
 refine .tK 10 rfl (.bN rfl) ?_
 refine .tK 12 rfl (.dB rfl) ?_
 refine .tK 13 rfl (.bN rfl) ?_
 refine .tK 15 rfl (.dB rfl) ?_
 refine .tK 16 rfl (.dB rfl) ?_
 refine .tK 17 rfl (.bN rfl) ?_
 refine .tK 19 rfl (.dB rfl) ?_
 refine .tK 20 rfl (.dB rfl) ?_
 refine .tK 21 rfl (.bN rfl) ?_
 refine .tK 23 rfl (.dB rfl) ?_
 refine .tK 24 rfl (.bN rfl) ?_
 refine .sT 4 rfl ?_
 refine .aR (fw b xs T h w _ (by simp only[acy];omega)) (λu c a=>?_)
 obtain⟨rfl,k⟩:=a
 refine .nil (Next.mod rfl ?_)
 refine .sT 8 rfl ?_
 refine .aR (fw b _ c k v _ (by simp only[acy];omega)) (λu d a=>?_)
 obtain⟨rfl,l⟩:=a
 refine .nil (Next.mod rfl ?_)
 refine .sT 11 rfl ?_
 refine .aR (fw b _ d l x _ (by simp only[acy];omega)) (λu e a=>?_)
 obtain⟨rfl,m⟩:=a
 refine .nil (Next.mod rfl ?_)
 refine .sT 14 rfl ?_
 refine .aR (fw b _ e m C _ (by simp only[acy];omega)) (λu f a=>?_)
 obtain⟨rfl,n⟩:=a
 refine .nil (Next.mod rfl ?_)
 refine .sT 18 rfl ?_
 refine .aR (fw b _ f n B _ (by simp only[acy];omega)) (λu g a=>?_)
 obtain⟨rfl,o⟩:=a
 refine .nil (Next.mod rfl ?_)
 refine .sT 22 rfl ?_
 refine .aR (fw b _ g o y _ (by simp only[acy];omega)) (λu i a=>?_)
 obtain⟨rfl,p⟩:=a
 refine .nil (Next.mod rfl ?_)
 refine .sT 25 rfl ?_
 refine .aR (fw b _ i p A _ (by simp only[acy];omega)) (λu j a=>?_)
 obtain⟨rfl,r⟩:=a
 refine .nil (Next.mod rfl ?_)
 refine RA.nil (by kernel_rfl) ?_
 refine cF _ .none (.one [0] _) ?_
 ·exact⟨j,by simp[take],by simpa[cH]using r⟩
theorem Dv(b:Nat)(xs:List UInt8)(T:ax)(h:de b xs T)(r:CR)(c:cU)(R:aC)(g:ek R r c)(q:(xs++fi c).length<=1000000000000):Spec prog 24 [pT b,.agg r.cells.toArray] R [T] λu H'=>∃T',H'=[T']/\de b (xs++fi c) T':=by
 have w:cq r.cells:=⟨g.cL⟩
 obtain⟨z,A,t,s⟩:=r
 obtain⟨e,f,a,d⟩:=g
 simp only at e f a d
 subst e;subst f
 have x:=a.aB
 have y:=d.aB
 simp only[fi,acy]at q
 refine Spec.body func24 rfl results24 ntmps24 rfl ?_
 refine .sr ?_
 refine .cK rfl (λv=>?_)
 refine .zs<|.ki [1] [3,6] mixed ?_
 conv=>arg 3;simp only[take,rest,bF,acB,acC]
 conv=>arg 5;simp only[take,rest,bF,acB,acC]
 conv=>arg 9;simp only[take,rest,bF,acB,acC]
 refine .tO 0 rfl .move<|.tO 1 rfl (.fieldAddr rfl)<|.tO 2 rfl (.bN rfl) ?_
 refine .tK 4 rfl (.dB rfl) ?_
 refine .tK 5 rfl (.bN rfl) ?_
 refine .sT 3 rfl ?_
 refine .aR (fw b xs T h c.id _ (by simp only[acy];omega)) (λu i a=>?_)
 obtain⟨rfl,m⟩:=a
 refine .nil (Next.mod rfl ?_)
 refine .sT 6 rfl ?_
 refine .aR (fw b _ i m c.dc _ (by simp only[acy];omega)) (λu j a=>?_)
 obtain⟨rfl,n⟩:=a
 refine .nil (Next.mod rfl ?_)
 refine RA.nil (by kernel_rfl) ?_
 refine aF<|.sr ?_
 conv=>arg 8;simp only[rest,bF,acD,acE]
 refine .mo rfl<|.fa rfl<|.lo rfl ?_
 refine .aR (ny b _ j n t c.gn _ a (by simp only[acy];omega)) (λu k o=>?_)
 refine .zn<|.region<|.mo rfl<|.fa rfl<|.lo rfl ?_
 refine .aR (ny b _ k o s c.scopes _ d (by simp only[acy];omega)) (λu l p=>?_)
 refine .nil<|cF _ .none (.one [0] _) ?_
 ·exact⟨l,by simp[take],by simpa[fi]using p⟩
def gV(o:cC):List UInt8:=put (uw o.kind)++put (uw o.n)++fi o.cl++cf o.user++cf o.id++cf o.dc++cf o.uri++cD cf o.scopes++cf o.word++cf o.text++ei o.x++ei o.y
theorem lJ(o:cC):fR o=gV o++cD cH o.cj++cD cH o.no++cD dG o.cs++put o.rev:=rfl
def m5(p:Value×List bc):List Value:=[p.1]
def iE(p:Value×List bc):List UInt8:=cD cH p.2
theorem sm(w:OW)(o:cC)(R:aC)(h:eC R w o)(hr:o.rev<bP)(Y:(fR o).length<=1000000000000):Spec prog 6 [.agg (cI w o).toArray] R [] λu H'=>∃T,H'=[T]/\OS 5 1 ca u (fR o) T:=by
 have i1:cq (cI w o):=⟨h.cL⟩
 obtain⟨⟨D,E,I,H⟩,G,J,K,f,r,F⟩:=w
 have W:ek R ⟨D,E,I,H⟩ o.cl:=h.c
 have hs:RS R 1 cR G o.scopes:=h.s
 have hx:RS R 1 ca J o.x:=h.x
 have hy:RS R 1 ca K o.y:=h.y
 have hm:RS R 7 bc.enc f o.cj:=h.m
 have hn:RS R 7 bc.enc r o.no:=h.n
 have B:RS R 8 cg.enc F o.cs:=h.g
 have j1:=hs.aB
 have j2:=hx.aB
 have j3:=hy.aB
 have j4:=hm.aB
 have j5:=hn.aB
 have j6:=B.aB
 have j7:=W.u.aB
 have j8:=W.s.aB
 simp only at j7 j8
 have f3:=B.le
 have f2:(gV o).length+(cD cH o.cj).length+(cD cH o.no).length+(cD dG o.cs).length+(put o.rev).length<=1000000000000:=by
  rw[lJ]at Y
  simp only[acy]at Y
  omega
 have Q:=f2
 simp only[gV,acy]at Q
 have pl (l:List UInt8):(ei l).length=(put l.length).length+l.length:=by unfold ei;rw[acy]
 have p1:=pl o.x
 have p2:=pl o.y
 refine Spec.body func6 rfl results6 ntmps6 rfl ?_
 refine .sr ?_
 refine .cK rfl (λv=>?_)
 refine .ag rfl<|.z ?_
 refine .bS (qQ _) (λu T0 d=>?_)
 obtain⟨b,rfl,c8⟩:=d
 refine .ag rfl<|.zs<|.ki [0] [4,8] mixed ?_
 conv=>arg 3;simp only[take,rest,bF,acB,acC]
 conv=>arg 5;simp only[take,rest,bF,acB,acC]
 conv=>arg 9;simp only[take,rest,bF,acB,acC]
 refine .tO 0 rfl .move<|.tO 1 rfl (.fieldAddr rfl)<|.tO 2 rfl (.bN rfl) ?_
 refine .cG 3 rfl (.cast (v':=.int .u64 (uw o.kind:Nat)) (.eb) (acG (Value.int .u64) (mH o.kind))) (by kernel_rfl) ?_
 refine .tK 5 rfl (.dB rfl) ?_
 refine .tK 6 rfl (.bN rfl) ?_
 refine .take 7 rfl (.cast (v':=.int .u64 (uw o.n:Nat)) (.eb) (acG (Value.int .u64) (mH o.n))) (by kernel_rfl) ?_
 refine .sT 4 rfl ?_
 refine .aR (eH b _ T0 c8 (uw o.kind) (jh _) (by simp) _) (λu T1 d=>?_)
 obtain⟨rfl,c9⟩:=d
 refine .nil (Next.mod rfl ?_)
 refine .sT 8 rfl ?_
 refine .aR (eH b _ T1 c9 (uw o.n) (jh _) (by simp only[acy,acF];omega) _) (λu T2 d=>?_)
 obtain⟨rfl,d6⟩:=d
 refine .nil (Next.mod rfl ?_)
 refine RA.nil (by kernel_rfl) ?_
 refine aF<|.sr ?_
 conv=>arg 8;simp only[rest,bF,acD,acE]
 refine .mo rfl<|.fa rfl<|.q (.loadT rfl) ?_
 refine .aR (Dv b _ T2 d6 ⟨D,E,I,H⟩ o.cl _ W (by simp only[acy,acF];omega)) (λu T3 d9=>?_)
 refine .zs<|.ki [0] [3,6,9,12] mixed ?_
 conv=>arg 3;simp only[take,rest,bF,acB,acC]
 conv=>arg 5;simp only[take,rest,bF,acB,acC]
 conv=>arg 9;simp only[take,rest,bF,acB,acC]
 refine .tO 0 rfl .move<|.tO 1 rfl (.fieldAddr rfl)<|.tO 2 rfl (.bN rfl) ?_
 refine .tK 4 rfl (.dB rfl) ?_
 refine .tK 5 rfl (.bN rfl) ?_
 refine .tK 7 rfl (.dB rfl) ?_
 refine .tK 8 rfl (.bN rfl) ?_
 refine .tK 10 rfl (.dB rfl) ?_
 refine .tK 11 rfl (.bN rfl) ?_
 refine .sT 3 rfl ?_
 refine .aR (fw b _ T3 d9 o.user _ (by simp only[acy,acF];omega)) (λu T4 d=>?_)
 obtain⟨rfl,e0⟩:=d
 refine .nil (Next.mod rfl ?_)
 refine .sT 6 rfl ?_
 refine .aR (fw b _ T4 e0 o.id _ (by simp only[acy,acF];omega)) (λu T5 d=>?_)
 obtain⟨rfl,e1⟩:=d
 refine .nil (Next.mod rfl ?_)
 refine .sT 9 rfl ?_
 refine .aR (fw b _ T5 e1 o.dc _ (by simp only[acy,acF];omega)) (λu T6 d=>?_)
 obtain⟨rfl,e2⟩:=d
 refine .nil (Next.mod rfl ?_)
 refine .sT 12 rfl ?_
 refine .aR (fw b _ T6 e2 o.uri _ (by simp only[acy,acF];omega)) (λu T7 d=>?_)
 obtain⟨rfl,e3⟩:=d
 refine .nil (Next.mod rfl ?_)
 refine RA.nil (by kernel_rfl) ?_
 refine aF<|.sr ?_
 conv=>arg 8;simp only[rest,bF,acD,acE]
 refine .mo rfl<|.fa rfl<|.lo rfl ?_
 refine .aR (ny b _ T7 e3 G o.scopes _ hs (by simp only[acy,acF];omega)) (λu T8 e4=>?_)
 refine .zs<|.ki [0] [3,6,9,12] mixed ?_
 conv=>arg 3;simp only[take,rest,bF,acB,acC]
 conv=>arg 5;simp only[take,rest,bF,acB,acC]
 conv=>arg 9;simp only[take,rest,bF,acB,acC]
 refine .tO 0 rfl .move<|.tO 1 rfl (.fieldAddr rfl)<|.tO 2 rfl (.bN rfl) ?_
 refine .tK 4 rfl (.dB rfl) ?_
 refine .tK 5 rfl (.bN rfl) ?_
 refine .tK 7 rfl (.dB rfl) ?_
 refine .tK 8 rfl (.bN rfl) ?_
 refine .tK 10 rfl (.dB rfl) ?_
 refine .tK 11 rfl (.bN rfl) ?_
 refine .sT 3 rfl ?_
 refine .aR (fw b _ T8 e4 o.word _ (by simp only[acy,acF];omega)) (λu T9 d=>?_)
 obtain⟨rfl,e5⟩:=d
 refine .nil (Next.mod rfl ?_)
 refine .sT 6 rfl ?_
 refine .aR (fw b _ T9 e5 o.text _ (by simp only[acy,acF];omega)) (λu c0 d=>?_)
 obtain⟨rfl,d0⟩:=d
 refine .nil (Next.mod rfl ?_)
 refine .sT 9 rfl ?_
 refine .aR (od b _ c0 d0 J o.x _ hx.rx (by simp only[acy,acF];omega)) (λu c1 d=>?_)
 obtain⟨rfl,d1⟩:=d
 refine .nil (Next.mod rfl ?_)
 refine .sT 12 rfl ?_
 refine .aR (od b _ c1 d1 K o.y _ hy.rx (by simp only[acy,acF];omega)) (λu a0 d=>?_)
 obtain⟨rfl,a6⟩:=d
 have hW:de b (gV o) a0:=by simpa[gV]using a6
 clear Q p1 p2 pl a6
 refine .nil (Next.mod rfl ?_)
 refine RA.nil (by kernel_rfl) ?_
 refine aF<|.seq<|.sr ?_
 conv=>arg 8;simp only[rest,bF,acD,acE]
 refine .fa rfl<|.lo rfl<|.fa rfl<|.lo rfl ?_
 refine .jn [f,r] (ho:=by simp[j4.h,j5.h]) (λA=>?_)
 refine .q (.fg rfl) ?_
 refine .mo rfl<|.zn<|.block ?_
 have a5:OS 26 1 m5 (.slice (some ⟨A,0,none⟩) 2 2) [(f,o.cj),(r,o.no)] (bl A [f,r] 26):=OS.lits rfl (by simp[m5]) (by simp[m5,j4.h,j5.h])
 obtain⟨e,L⟩:∃e,e=[(f,o.cj),(r,o.no)]:=⟨_,rfl⟩
 rw[<-L]at a5
 have e7:∀p∈e,RS R 7 bc.enc p.1 p.2:=by rw[L];simp[hm,hn]
 have f4:e.length=2:=by rw[L];rfl
 have b3:e.flatMap iE=cD cH o.cj++cD cH o.no:=by rw[L];simp[iE]
 refine .loop (X:=Nat×ax) (λy=>y.1<=2/\de b (gV o++(e.take y.1).flatMap iE) y.2) (λy=>[(1,pT v),(3,pT b),(58,.slice (some ⟨A,0,none⟩) 2 2),(59,.int .i64 ((2:Nat):Int)),(60,iN y.1)]) (λy=>[bl A [f,r] 26,y.2,bl v (cI ⟨⟨D,E,I,H⟩,G,J,K,f,r,F⟩ o) 32]) (λy=>2-y.1) (0,a0) ⟨acz _,by simpa using hW⟩ kE.c.c.c.c.c rH ?_
 rintro⟨i,a1⟩ ⟨hi,M⟩
 simp only at hi M⊢
 refine .sr<|.q .lss<|.zs ?_
 refine .cond rfl (λS=>?_) λS=>?_
 have f1:i<e.length:=by have h9 := of_decide_eq_true S; omega
 obtain⟨p,Z⟩:=eh f1
 have C:=e7 p (aG Z)
 have f7:=C.aB
 have g1:=C.le
 have b0:=gW (enc:=iE) Z
 have b2:=gY (enc:=iE) (l:=e) (i+1)
 rw[b0,b3]at b2
 simp only[acy]at b2
 have f6:(iE p).length=(put p.2.length).length+(p.2.flatMap cH).length:=by simp[iE,cD]
 refine .kn<|.seq<|.block<|.sr ?_
 refine .au i a5 Z (λf8=>?_)
 refine .lo rfl<|.ag rfl<|.z<|.mo rfl<|.mo rfl<|.q (.db C) ?_
 refine .q (.dX (a:=p.2.length) rfl (by unfold bP;omega)) ?_
 refine .aR (eH b _ a1 M p.2.length (by unfold bP;omega) (by simp only[acy];omega) _) (λu c2 d=>?_)
 obtain⟨rfl,d2⟩:=d
 refine .z<|.mo rfl<|.q (.db C) ?_
 refine .mo rfl<|.zn<|.block ?_
 refine .loop (X:=Nat×ax) (λy=>y.1<=p.2.length/\de b (gV o++(e.take i).flatMap iE++put p.2.length++(p.2.take y.1).flatMap cH) y.2) (λy=>[(1,pT v),(3,pT b),(58,.slice (some ⟨A,0,none⟩) 2 2),(59,.int .i64 ((2:Nat):Int)),(60,iN i),(69,p.1),(70,iN p.2.length),(71,iN y.1)]) (λy=>[bl A [f,r] 26,y.2,bl v (cI ⟨⟨D,E,I,H⟩,G,J,K,f,r,F⟩ o) 32]) (λy=>p.2.length-y.1) (0,c2) ⟨acz _,by simpa using d2⟩ kE.c.c.c.c.c.c.c.c rH ?_
 rintro⟨j,a2⟩ ⟨hj,N⟩
 simp only at hj N⊢
 refine .sr<|.q .lss<|.zs ?_
 refine .cond rfl (λU=>?_) λU=>?_
 have b4:j<p.2.length:=cS U
 obtain⟨t,ht⟩:=eh b4
 have b6:=gW (enc:=cH) ht
 have b8:=gY (enc:=cH) (l:=p.2) (j+1)
 rw[b6]at b8
 simp only[acy]at b8
 refine .kn<|.seq<|.block<|.sr ?_
 refine .da j C ht (λf9=>?_)
 refine .q (.aD rfl) ?_
 refine .cZ (λb7=>?_)
 refine .cW rfl rfl<|.zn<|.region<|.mo rfl<|.q (.aD rfl) ?_
 refine .aR (pU b _ a2 N t _ (by simp only[acy];omega)) (λu c3 d3=>?_)
 refine .nil<|bd<|aF<|.region ?_
 refine .ia (j+1) .add ?_
 refine .mo rfl<|.nil ?_
 ·exact aT (j+1,c3) ⟨b4,by simp only;rw[b6, <-acH];exact d3⟩ (by simp only;omega) kE.c.c.c.c.c.c.c.c (cu [1,1,1])
 have e9:j=p.2.length:=by have:=aZ U;omega
 rw[e9,acA]at N
 refine .exit<|aU<|aY<|aW<|bd<|aF<|.region ?_
 refine .ia (i+1) .add ?_
 refine .mo rfl<|.nil ?_
 ·exact aT (i+1,a2) ⟨by simp only;omega,by simp only;rw[b0, <-acH];simpa[iE,cD]using N⟩ (by simp only;omega) kE.c.c.c.c.c rH
 have e8:i=e.length:=by have:=aZ S;omega
 rw[e8,acA,b3]at M
 have f5:(cD dG o.cs).length=(put o.cs.length).length+(o.cs.flatMap dG).length:=by simp[cD]
 refine .exit<|aU<|aY<|aW<|aF<|.sr<|.mo rfl<|.fa rfl<|.lo rfl<|.q (.db B) ?_
 refine .q (.dX (a:=o.cs.length) rfl (by unfold bP;omega)) ?_
 refine .aR (eH b _ a1 M o.cs.length (by unfold bP;omega) (by simp only[acy];omega) _) (λu c4 d=>?_)
 obtain⟨rfl,d4⟩:=d
 refine .zs<|.sr<|.fa rfl<|.lo rfl<|.q (.db B) ?_
 refine .mo rfl<|.zn<|.block ?_
 refine .loop (X:=Nat×ax) (λy=>y.1<=o.cs.length/\de b (gV o++(cD cH o.cj++cD cH o.no)++put o.cs.length++(o.cs.take y.1).flatMap dG) y.2) (λy=>[(1,pT v),(3,pT b),(87,F),(88,iN o.cs.length),(89,iN y.1)]) (λy=>[y.2,bl v (cI ⟨⟨D,E,I,H⟩,G,J,K,f,r,F⟩ o) 32]) (λy=>o.cs.length-y.1) (0,c4) ⟨acz _,by simpa using d4⟩ kE.c.c.c.c.c (cu [1,1]) ?_
 rintro⟨k,a3⟩ ⟨hk,O⟩
 simp only at hk O⊢
 refine .sr<|.q .lss<|.zs ?_
 refine .cond rfl (λV=>?_) λV=>?_
 have b5:k<o.cs.length:=cS V
 obtain⟨c,a9⟩:=eh b5
 have a7:=gW (enc:=dG) a9
 have a8:=gY (enc:=dG) (l:=o.cs) (k+1)
 rw[a7]at a8
 simp only[dG,acy]at a8
 obtain⟨cp,ct⟩:=c
 refine .kn<|.seq<|.block<|.sr ?_
 refine .da k B a9 (λg0=>?_)
 refine .q (.aD rfl) ?_
 refine .cZ (λb9=>?_)
 refine .cW rfl rfl<|.z<|.mo rfl<|.fa rfl<|.lo rfl ?_
 refine .aR (EU b _ a3 O cp (by simp only[acy,dG]at *;omega) _) (λu c5 d=>?_)
 obtain⟨rfl,d5⟩:=d
 refine .zn<|.region<|.mo rfl<|.fa rfl<|.q (.loadT rfl) ?_
 refine .aR (pU b _ c5 d5 ct _ (by simp only[acy,dG]at *;omega)) (λu c6 d7=>?_)
 refine .nil<|bd<|aF<|.region ?_
 refine .ia (k+1) .add ?_
 refine .mo rfl<|.nil ?_
 ·exact aT (k+1,c6) ⟨b5,by simp only;rw[a7];simpa[dG]using d7⟩ (by simp only;omega) kE.c.c.c.c.c (cu [1,1])
 have f0:k=o.cs.length:=by have:=aZ V;omega
 rw[f0,acA]at O
 refine .exit<|aU<|aY<|aW<|aF<|.sr<|.mo rfl<|.fa rfl<|.lo rfl ?_
 refine .aR (eH b _ a3 O o.rev hr (by simp only[acy];omega) _) (λu a4 d=>?_)
 obtain⟨rfl,d8⟩:=d
 have e6:de b (fR o) a4:=by
  rw[lJ]
  simpa[cD]using d8
 refine .bS (qO b _ a4 e6 Y _ (λp Q=>.inr (by simp[Q]))) (λu c7 hO=>?_)
 have iO:=hO.aB
 refine .az rfl ?_
 refine .ret (ba _ (.one (.tmp rfl)) (.one [0] _) ?_)
 ·exact⟨c7,by simp[take],hO⟩
def fN(s:Option (List UInt8)):Prop:=∀xs,s=some xs->xs.length<=1000000000
theorem fN.next{α:Type}{rd:List UInt8->Option (α×List UInt8)}{enc:α->List UInt8}{ok:α->Prop}(c:eI rd enc ok){s b:Option (List UInt8)}{a:α}(d:fN s)(h:s.bind rd=b.map λr=>(a,r)):fN b:=λf e=>by
 subst e
 cases s with
 |none=>simp at h
 |some ys=>
  simp only[Option.bind_some,Option.map_some]at h
  obtain⟨rfl,_⟩:=(c.h ys a f).1 h
  have:=d _ rfl
  rw[acy]at this
  omega
theorem nD{α:Type}{rd:List UInt8->Option (α×List UInt8)}{s a:Option (List UInt8)}{n:Nat}(h:s.bind (fW 4096)=a.map λr=>(n,r)):s.bind (fq rd)=(a.bind (eW rd n)).map λq=>([]++q.1,q.2):=by
 unfold fq
 rw[df h]
 cases a with
 |none=>rfl
 |some r=>
  simp only[Option.bind_some]
  cases eW rd n r<;>rfl
theorem nB{α:Type}{rd:List UInt8->Option (α×List UInt8)}{s:Option (List UInt8)}{pre:List α}:(s.bind (eW rd 0)).map (λq=>(pre++q.1,q.2))=s.map λr=>(pre,r):=by
 cases s with
 |none=>rfl
 |some r=>simp[eW]
theorem nz(b:Nat)(s:Option (List UInt8))(T:ax)(h:dz b s T)(Q:fN s)(R:aC):Spec prog 36 [pT b,.func (.func 35) #[] #[]] R [T] λu H'=>∃T' T2,H'=[T',T2]/\∃(l:List ByteArray) (s':Option (List UInt8)),OS 9 1 cR u l T2/\dz b s' T'/\s.bind (fq dP)=s'.map λr=>(l,r):=by
 refine Spec.ej (H':=[T,[]]) (by simp) ?_
 refine Spec.body func36 rfl results36 ntmps36 rfl ?_
 refine .sr<|.ag rfl<|.z<|.ag rfl<|.zs<|.sr<|.mo rfl ?_
 refine .aR (kZ b s T h 4096 (by decide) _) (λu E g=>?_)
 obtain⟨n,W,rfl,hn,H,C⟩:=g
 have N:=Q.next (ie 4096) C
 have V:=nD (rd:=dP) C
 refine .mo rfl<|.zn<|.block ?_
 refine .loop (X:=Nat×List ByteArray×Option (List UInt8)×Value×ax×ax) (λy=>y.1<=n/\y.2.1.length=y.1/\OS 9 1 cR y.2.2.2.1 y.2.1 y.2.2.2.2.1/\dz b y.2.2.1 y.2.2.2.2.2/\fN y.2.2.1/\s.bind (fq dP)=(y.2.2.1.bind (eW dP (n-y.1))).map λq=>(y.2.1++q.1,q.2)) (λy=>[(0,pT b),(1,.func (.func 35) #[] #[]),(5,y.2.2.2.1),(7,iN n),(8,iN y.1)]) (λy=>[y.2.2.2.2.2,y.2.2.2.2.1]) (λy=>n-y.1) (0,[],W,sZ,[],E) ⟨acz _,rfl,OS.nil,H,N,V⟩ kE.c.c.c.c.c rH ?_
 rintro⟨i,m,k,vo,To,t⟩ ⟨L,A,j,d,p,e⟩
 simp only at L A j d p e⊢
 have iO:=j.aB
 obtain⟨vk,v,pk,K⟩:=d.read
 refine .sr<|.q .lss<|.zs ?_
 refine .cond rfl (λo=>?_) λo=>?_
 have S:i<n:=cS o
 refine .kn<|.seq<|.block<|.seq<|.sr<|.mo rfl ?_
 refine .br (je b vk v _) (λu g=>?_)
 subst g
 refine .q .fo<|.zn ?_
 refine .cond rfl (λw=>?_) λw=>?_
 have J:v≠0:=by simpa using w
 have U:k=none:=by
  cases k with
  |none=>rfl
  |some xs=>exact absurd (K.2 rfl) J
 rw[U]at e d
 refine .sr<|.az rfl ?_
 refine .ret (bs (bw (bs (cO (bw (bs (ba _ (.one (.tmp rfl)) ((cu [0]).trans (bJ.cY (H':=[t,[]]) (by simp[take]))) ?_)))))))
 ·exact⟨_,_,rfl,[],none,OS.nil,d,by rw[e];rfl⟩
 refine .kn<|.region<|.mo rfl<|.mo rfl<|.mo rfl ?_
 refine .mT (f:=35) (first:=[]) (captured:=[]) (vs:=[pT b]) (fv b k t d p _) (λu F g=>?_)
 obtain⟨a,Y,rfl,I,D⟩:=g
 have O:=p.next et D
 have B:=nC (n:=n-(i+1)) (pre:=m) D
 rw[show n-(i+1)+1=n-i by omega]at B
 refine .jm (λa0=>?_)
 refine .append j (RS.lits (xs:=[a]) rfl (by simp[cR]) (by simp[cR,aB])) (by simp;omega) (λZ G x=>?_)
 have i5:=x.aB
 refine .ag rfl<|.nil<|bd<|aF<|.region ?_
 refine .ia (i+1) .add ?_
 refine .mo rfl<|.nil ?_
 ·exact aT (i+1,m++[a],Y,Z,G,F) ⟨S,by simp[A],x,I,O,e.trans B⟩ (by simp only;omega) kE.c.c.c.c.c (cu [1,1])
 have M:i=n:=by have:=aZ o;omega
 rw[M,Nat.sub_self,nB]at e
 refine .exit<|aU<|aY<|aW<|aF<|.sr<|.mo rfl<|.az rfl ?_
 refine .ret (ba _ (.one (.tmp rfl)) rH ?_)
 ·exact⟨_,_,rfl,m,k,j,d,e⟩
theorem o3(b:Nat)(s:Option (List UInt8))(T:ax)(h:dz b s T)(k:fN s)(R:aC):Spec prog 39 [pT b] R [T] λu H'=>∃T',H'=[T']/\∃(a:bc) (s':Option (List UInt8)),u=.agg a.enc.toArray/\dz b s' T'/\s.bind gC=s'.map λr=>(a,r):=by
 refine Spec.body func39 rfl results39 ntmps39 rfl ?_
 refine .sr ?_
 refine .cZ (λb2=>?_)
 refine .z ?_
 refine .cZ (λb3=>?_)
 refine .z<|.mo rfl ?_
 refine .aR (fv b s T h k _) (λu t c=>?_)
 obtain⟨C,V,rfl,K,d⟩:=c
 have l:=k.next et d
 refine .mo rfl ?_
 refine .aR (fv b V t K l _) (λu v c=>?_)
 obtain⟨D,W,rfl,L,e⟩:=c
 have m:=l.next et e
 refine .q .dA ?_
 refine .fa rfl<|.cW rfl rfl<|.z<|.mo rfl ?_
 refine .aR (fv b W v L m _) (λu w c=>?_)
 obtain⟨E,X,rfl,M,f⟩:=c
 have n:=m.next et f
 refine .fa rfl<|.cv rfl rfl<|.z<|.mo rfl ?_
 refine .aR (fv b X w M n _) (λu x c=>?_)
 obtain⟨F,Y,rfl,N,g⟩:=c
 have o:=n.next et g
 refine .fa rfl<|.fa rfl<|.cv rfl rfl<|.z<|.mo rfl ?_
 refine .aR (fv b Y x N o _) (λu y c=>?_)
 obtain⟨G,Z,rfl,O,i⟩:=c
 have p:=o.next et i
 refine .mo rfl ?_
 refine .aR (fv b Z y O p _) (λu A c=>?_)
 obtain⟨H,s6,rfl,Q,j⟩:=c
 have U:=p.next et j
 refine .q .dA ?_
 refine .fa rfl<|.fa rfl<|.cW rfl rfl<|.z<|.mo rfl ?_
 refine .aR (fv b s6 A Q U _) (λu B c=>?_)
 obtain⟨I,s7,rfl,S,J⟩:=c
 refine .fa rfl<|.fa rfl<|.cv rfl rfl<|.z<|.q (.aD rfl)<|.cW rfl rfl<|.zn ?_
 refine .ret (ba _ (.one (.fk rfl rfl)) (.one [2] _) ?_)
 ·refine⟨B,by simp[take,bF],⟨C,D,E,F,G,H,I⟩,s7,rfl,S,?_⟩
  unfold gC
  rw[df d,df e,df f,df g,df i,df j,df J,kx]
theorem Cp(b:Nat)(s:Option (List UInt8))(T:ax)(h:dz b s T)(w:fN s)(R:aC):Spec prog 41 [pT b] R [T] λu H'=>∃T',H'=[T']/\∃(a:cg) (s':Option (List UInt8)),u=.agg a.enc.toArray/\dz b s' T'/\s.bind iF=s'.map λr=>(a,r):=by
 refine Spec.body func41 rfl results41 ntmps41 rfl ?_
 refine .sr ?_
 refine .cZ (λB=>?_)
 refine .z<|.mo rfl ?_
 refine .aR (DA b s T h _) (λu e c=>?_)
 obtain⟨f,y,rfl,t,d⟩:=c
 have x:=w.next oF d
 refine .ag rfl<|.z<|.mo rfl<|.mo rfl ?_
 refine .aR (o3 b y e t x _) (λu g c=>?_)
 obtain⟨⟨i,j,k,l,m,n,o⟩,A,rfl,v,p⟩:=c
 refine .q .dA ?_
 refine .cW rfl rfl<|.zn ?_
 refine .ret (ba _ (.one (.fk rfl rfl)) (.one [1] _) ?_)
 ·refine⟨g,by simp[take,bF],⟨f,⟨i,j,k,l,m,n,o⟩⟩,A,rfl,v,?_⟩
  unfold iF
  rw[df d,df p,kx]
theorem pX(b:Nat)(s:Option (List UInt8))(T:ax)(h:dz b s T)(Q:fN s)(R:aC):Spec prog 38 [pT b,.func (.func 39) #[] #[]] R [T] λu H'=>∃T' T2,H'=[T',T2]/\∃(l:List bc) (s':Option (List UInt8)),OS 73 7 bc.enc u l T2/\dz b s' T'/\s.bind (fq gC)=s'.map λr=>(l,r):=by
 refine Spec.ej (H':=[T,[]]) (by simp) ?_
 refine Spec.body func38 rfl results38 ntmps38 rfl ?_
 refine .sr<|.ag rfl<|.z<|.ag rfl<|.zs<|.sr<|.mo rfl ?_
 refine .aR (kZ b s T h 4096 (by decide) _) (λu E g=>?_)
 obtain⟨n,W,rfl,hn,H,C⟩:=g
 have N:=Q.next (ie 4096) C
 have V:=nD (rd:=gC) C
 refine .mo rfl<|.zn<|.block ?_
 refine .loop (X:=Nat×List bc×Option (List UInt8)×Value×ax×ax) (λy=>y.1<=n/\y.2.1.length=y.1/\OS 73 7 bc.enc y.2.2.2.1 y.2.1 y.2.2.2.2.1/\dz b y.2.2.1 y.2.2.2.2.2/\fN y.2.2.1/\s.bind (fq gC)=(y.2.2.1.bind (eW gC (n-y.1))).map λq=>(y.2.1++q.1,q.2)) (λy=>[(0,pT b),(1,.func (.func 39) #[] #[]),(5,y.2.2.2.1),(7,iN n),(8,iN y.1)]) (λy=>[y.2.2.2.2.2,y.2.2.2.2.1]) (λy=>n-y.1) (0,[],W,sZ,[],E) ⟨acz _,rfl,OS.nil,H,N,V⟩ kE.c.c.c.c.c rH ?_
 rintro⟨i,m,k,vo,To,t⟩ ⟨L,A,j,d,p,e⟩
 simp only at L A j d p e⊢
 have iO:=j.aB
 obtain⟨vk,v,pk,K⟩:=d.read
 refine .sr<|.q .lss<|.zs ?_
 refine .cond rfl (λo=>?_) λo=>?_
 have S:i<n:=cS o
 refine .kn<|.seq<|.block<|.seq<|.sr<|.mo rfl ?_
 refine .br (je b vk v _) (λu g=>?_)
 subst g
 refine .q .fo<|.zn ?_
 refine .cond rfl (λw=>?_) λw=>?_
 have J:v≠0:=by simpa using w
 have U:k=none:=by
  cases k with
  |none=>rfl
  |some xs=>exact absurd (K.2 rfl) J
 rw[U]at e d
 refine .sr<|.az rfl ?_
 refine .ret (bs (bw (bs (cO (bw (bs (ba _ (.one (.tmp rfl)) ((cu [0]).trans (bJ.cY (H':=[t,[]]) (by simp[take]))) ?_)))))))
 ·exact⟨_,_,rfl,[],none,OS.nil,d,by rw[e];rfl⟩
 refine .kn<|.region<|.mo rfl<|.mo rfl<|.mo rfl ?_
 refine .mT (f:=39) (first:=[]) (captured:=[]) (vs:=[pT b]) (o3 b k t d p _) (λu F g=>?_)
 obtain⟨a,Y,rfl,I,D⟩:=g
 have O:=p.next kz D
 have B:=nC (n:=n-(i+1)) (pre:=m) D
 rw[show n-(i+1)+1=n-i by omega]at B
 refine .gh (λa0=>?_)
 refine .append j (RS.lits (xs:=[a]) rfl (by simp[bc.enc]) (by have:=(bc.one a).h;simpa using this)) (by simp;omega) (λZ G x=>?_)
 have i5:=x.aB
 refine .ag rfl<|.nil<|bd<|aF<|.region ?_
 refine .ia (i+1) .add ?_
 refine .mo rfl<|.nil ?_
 ·exact aT (i+1,m++[a],Y,Z,G,F) ⟨S,by simp[A],x,I,O,e.trans B⟩ (by simp only;omega) kE.c.c.c.c.c (cu [1,1])
 have M:i=n:=by have:=aZ o;omega
 rw[M,Nat.sub_self,nB]at e
 refine .exit<|aU<|aY<|aW<|aF<|.sr<|.mo rfl<|.az rfl ?_
 refine .ret (ba _ (.one (.tmp rfl)) rH ?_)
 ·exact⟨_,_,rfl,m,k,j,d,e⟩
theorem Dz(b:Nat)(s:Option (List UInt8))(T:ax)(h:dz b s T)(Q:fN s)(R:aC):Spec prog 40 [pT b,.func (.func 41) #[] #[]] R [T] λu H'=>∃T' T2,H'=[T',T2]/\∃(l:List cg) (s':Option (List UInt8)),OS 76 8 cg.enc u l T2/\dz b s' T'/\s.bind (fq iF)=s'.map λr=>(l,r):=by
 refine Spec.ej (H':=[T,[]]) (by simp) ?_
 refine Spec.body func40 rfl results40 ntmps40 rfl ?_
 refine .sr<|.ag rfl<|.z<|.ag rfl<|.zs<|.sr<|.mo rfl ?_
 refine .aR (kZ b s T h 4096 (by decide) _) (λu E g=>?_)
 obtain⟨n,W,rfl,hn,H,C⟩:=g
 have N:=Q.next (ie 4096) C
 have V:=nD (rd:=iF) C
 refine .mo rfl<|.zn<|.block ?_
 refine .loop (X:=Nat×List cg×Option (List UInt8)×Value×ax×ax) (λy=>y.1<=n/\y.2.1.length=y.1/\OS 76 8 cg.enc y.2.2.2.1 y.2.1 y.2.2.2.2.1/\dz b y.2.2.1 y.2.2.2.2.2/\fN y.2.2.1/\s.bind (fq iF)=(y.2.2.1.bind (eW iF (n-y.1))).map λq=>(y.2.1++q.1,q.2)) (λy=>[(0,pT b),(1,.func (.func 41) #[] #[]),(5,y.2.2.2.1),(7,iN n),(8,iN y.1)]) (λy=>[y.2.2.2.2.2,y.2.2.2.2.1]) (λy=>n-y.1) (0,[],W,sZ,[],E) ⟨acz _,rfl,OS.nil,H,N,V⟩ kE.c.c.c.c.c rH ?_
 rintro⟨i,m,k,vo,To,t⟩ ⟨L,A,j,d,p,e⟩
 simp only at L A j d p e⊢
 have iO:=j.aB
 obtain⟨vk,v,pk,K⟩:=d.read
 refine .sr<|.q .lss<|.zs ?_
 refine .cond rfl (λo=>?_) λo=>?_
 have S:i<n:=cS o
 refine .kn<|.seq<|.block<|.seq<|.sr<|.mo rfl ?_
 refine .br (je b vk v _) (λu g=>?_)
 subst g
 refine .q .fo<|.zn ?_
 refine .cond rfl (λw=>?_) λw=>?_
 have J:v≠0:=by simpa using w
 have U:k=none:=by
  cases k with
  |none=>rfl
  |some xs=>exact absurd (K.2 rfl) J
 rw[U]at e d
 refine .sr<|.az rfl ?_
 refine .ret (bs (bw (bs (cO (bw (bs (ba _ (.one (.tmp rfl)) ((cu [0]).trans (bJ.cY (H':=[t,[]]) (by simp[take]))) ?_)))))))
 ·exact⟨_,_,rfl,[],none,OS.nil,d,by rw[e];rfl⟩
 refine .kn<|.region<|.mo rfl<|.mo rfl<|.mo rfl ?_
 refine .mT (f:=41) (first:=[]) (captured:=[]) (vs:=[pT b]) (Cp b k t d p _) (λu F g=>?_)
 obtain⟨a,Y,rfl,I,D⟩:=g
 have O:=p.next mV D
 have B:=nC (n:=n-(i+1)) (pre:=m) D
 rw[show n-(i+1)+1=n-i by omega]at B
 refine .gh (λa0=>?_)
 refine .append j (RS.lits (xs:=[a]) rfl (by simp[cg.enc,bc.enc]) (by have:=(cg.one a).h;simpa using this)) (by simp;omega) (λZ G x=>?_)
 have i5:=x.aB
 refine .ag rfl<|.nil<|bd<|aF<|.region ?_
 refine .ia (i+1) .add ?_
 refine .mo rfl<|.nil ?_
 ·exact aT (i+1,m++[a],Y,Z,G,F) ⟨S,by simp[A],x,I,O,e.trans B⟩ (by simp only;omega) kE.c.c.c.c.c (cu [1,1])
 have M:i=n:=by have:=aZ o;omega
 rw[M,Nat.sub_self,nB]at e
 refine .exit<|aU<|aY<|aW<|aF<|.sr<|.mo rfl<|.az rfl ?_
 refine .ret (ba _ (.one (.tmp rfl)) rH ?_)
 ·exact⟨_,_,rfl,m,k,j,d,e⟩
theorem Cq(b:Nat)(s:Option (List UInt8))(T:ax)(h:dz b s T)(l:fN s)(R:aC):Spec prog 34 [pT b] R [T] λu H'=>∃T' T2,H'=[T',T2]/\∃(r:CR) (a:cU) (s':Option (List UInt8)),u=.agg r.cells.toArray/\ek (sg T2) r a/\dz b s' T'/\s.bind kY=s'.map λr=>(a,r):=by
 refine Spec.body func34 rfl results34 ntmps34 rfl ?_
 refine .sr ?_
 refine .cZ (λL=>?_)
 refine .z<|.mo rfl ?_
 refine .aR (fv b s T h l _) (λu o c=>?_)
 obtain⟨d,G,rfl,B,f⟩:=c
 have m:=l.next et f
 refine .mo rfl ?_
 refine .aR (fv b G o B m _) (λu T2 c=>?_)
 obtain⟨e,H,rfl,C,g⟩:=c
 have n:=m.next et g
 refine .q .dA ?_
 refine .cZ (λM=>?_)
 refine .cW rfl rfl<|.z<|.mo rfl ?_
 refine .call [2] (nz b H T2 C n _) (λu H' c=>?_)
 obtain⟨p,t,rfl,x,I,j,D,i⟩:=c
 conv=>arg 8;simp only[rest,bF,acD,acE]
 have F:=n.next (hZ et) i
 have N:=j.aB
 refine .fa rfl<|.cv rfl rfl<|.z<|.mo rfl ?_
 refine .call [0] (nz b I p D F _) (λK H' c=>?_)
 obtain⟨v,w,rfl,y,J,k,E,A⟩:=c
 conv=>arg 8;simp only[rest,bF,acD,acE]
 have O:=k.aB
 refine .fa rfl<|.cv rfl rfl<|.z<|.q (.aD rfl)<|.cW rfl rfl<|.zn ?_
 refine .ret (ba _ (.one (.fk rfl rfl)) ((cu [0,0,0]).trans (bJ.cY (H':=[v,w++t]) (by simp[take,bF]))) ?_)
 ·refine⟨_,_,rfl,⟨d,e,u,K⟩,⟨d,e,x,y⟩,J,rfl,⟨rfl,rfl,j.sg.right,k.sg.left⟩,E,?_⟩
  unfold kY
  rw[df f,df g,df i,df A,kx]
theorem RS.fp{α:Type}{R:aC}{sz:Nat}{enc:α->List Value}:RS R sz enc (sZ) ([]:List α):=(OS.nil (E:=0) (sz:=sz) (enc:=enc)).rs λp a=>(by cases a)
def iz:OW:=⟨⟨⟨#[]⟩,⟨#[]⟩,sZ,sZ⟩,sZ,sZ,sZ,sZ,sZ,sZ⟩
theorem eC.zero(R:aC):eC R iz jz:=⟨⟨rfl,rfl,RS.fp,RS.fp⟩,RS.fp,RS.fp,RS.fp,RS.fp,RS.fp,RS.fp⟩
theorem r5(v:Value)(xs:List UInt8)(R:aC)(h:RS R 1 ca v xs)(hl:xs.length<=1000000000):Spec prog 8 [v] R [] λu H'=>∃T,H'=[T]/\∃(w:OW) (o:cC) (e:Int),u=.tuple [.agg (cI w o).toArray,.int .i64 e].toArray/\eC (sg T) w o/\((e=0/\iG xs=some (o,[]))\/(e=4/\o=jz/\∀o',iG xs≠some (o',[]))):=by
 have iv:=h.aB
 have l0:fN (some xs):=λys hy=>by cases hy;exact hl
 refine Spec.body func8 rfl results8 ntmps8 rfl ?_
 refine .sr ?_
 refine .cZ (λb2=>?_)
 refine .ag rfl<|.z<|.mo rfl ?_
 refine .bS (DK v xs _ h.rx (by omega)) (λu T0 a=>?_)
 obtain⟨b,rfl,h0⟩:=a
 refine .ag rfl<|.z ?_
 refine .cZ (λb5=>?_)
 refine .z<|.mo rfl ?_
 refine .aR (kZ b _ T0 h0 255 (by decide) _) (λu T1 a=>?_)
 obtain⟨k,s1,rfl,hk,f,B⟩:=a
 have l1:=l0.next (ie 255) B
 refine .mo rfl ?_
 refine .aR (mn b s1 T1 f _) (λu T2 a=>?_)
 obtain⟨n,s2,rfl,hn,h2,I⟩:=a
 have l2:=l1.next lH I
 refine .q .eb<|.fa rfl<|.cv rfl rfl<|.fa rfl<|.cv rfl rfl<|.z<|.mo rfl ?_
 refine .call [1] (Cq b s2 T2 h2 l2 _) (λu H' a=>?_)
 obtain⟨T3,D3,rfl,⟨c1,c2,c4,c3⟩,t,s3,rfl,j,h3,J⟩:=a
 conv=>arg 7;simp only[CR.cells]
 conv=>arg 8;simp only[rest,bF,acD,acE,cx]
 have l3:=l2.next oE J
 have i3:=j.u.aB
 have i4:=j.s.aB
 simp only at i3 i4
 refine .fa rfl<|.cW rfl rfl<|.z<|.mo rfl ?_
 refine .aR (fv b s3 T3 h3 l3 _) (λu T4 a=>?_)
 obtain⟨us,s4,rfl,h4,K⟩:=a
 have l4:=l3.next et K
 refine .mo rfl ?_
 refine .aR (fv b s4 T4 h4 l4 _) (λu T5 a=>?_)
 obtain⟨a0,s5,rfl,h5,L⟩:=a
 have l5:=l4.next et L
 refine .mo rfl ?_
 refine .aR (fv b s5 T5 h5 l5 _) (λu T6 a=>?_)
 obtain⟨se,s6,rfl,h6,M⟩:=a
 have l6:=l5.next et M
 refine .mo rfl ?_
 refine .aR (fv b s6 T6 h6 l6 _) (λu T7 a=>?_)
 obtain⟨ur,s7,rfl,h7,N⟩:=a
 have l7:=l6.next et N
 refine .fa rfl<|.cv rfl rfl<|.fa rfl<|.cv rfl rfl<|.fa rfl<|.cv rfl rfl<|.fa rfl<|.cv rfl rfl<|.z<|.mo rfl ?_
 refine .call [0] (nz b s7 T7 h7 l7 _) (λv8 H' a=>?_)
 obtain⟨T8,D8,rfl,sc,s8,Y,h8,O⟩:=a
 conv=>arg 8;simp only[rest,bF,acD,acE,cx]
 have l8:=l7.next (hZ et) O
 have i8:=Y.aB
 refine .fa rfl<|.cv rfl rfl<|.z<|.mo rfl ?_
 refine .aR (fv b s8 T8 h8 l8 _) (λu T9 a=>?_)
 obtain⟨wo,s9,rfl,h9,Q⟩:=a
 have l9:=l8.next et Q
 refine .mo rfl ?_
 refine .aR (fv b s9 T9 h9 l9 _) (λu b3 a=>?_)
 obtain⟨te,d3,rfl,c6,C⟩:=a
 have a1:=l9.next et C
 refine .fa rfl<|.cv rfl rfl<|.fa rfl<|.cv rfl rfl<|.z<|.mo rfl ?_
 refine .call [0] (nA b d3 b3 c6 a1 _) (λd9 H' a=>?_)
 obtain⟨b4,a7,rfl,x,d4,S,c7,D⟩:=a
 conv=>arg 8;simp only[rest,bF,acD,acE,cx]
 have a2:=a1.next lG D
 have f4:=S.aB
 refine .mo rfl ?_
 refine .call [0] (nA b d4 b4 c7 a2 _) (λe0 H' a=>?_)
 obtain⟨b6,a8,rfl,y,d5,U,c8,E⟩:=a
 conv=>arg 8;simp only[rest,bF,acD,acE,cx]
 have a3:=a2.next lG E
 have f5:=U.aB
 refine .fa rfl<|.cv rfl rfl<|.fa rfl<|.cv rfl rfl<|.z<|.mo rfl ?_
 refine .call [0] (pX b d5 b6 c8 a3 _) (λf0 H' a=>?_)
 obtain⟨b7,a9,rfl,mu,d6,V,c9,F⟩:=a
 conv=>arg 8;simp only[rest,bF,acD,acE,cx]
 have a4:=a3.next (hZ kz) F
 have f6:=V.aB
 refine .mo rfl ?_
 refine .call [0] (pX b d6 b7 c9 a4 _) (λf1 H' a=>?_)
 obtain⟨b8,b0,rfl,no,d7,W,d0,G⟩:=a
 conv=>arg 8;simp only[rest,bF,acD,acE,cx]
 have a5:=a4.next (hZ kz) G
 have f7:=W.aB
 refine .fa rfl<|.cv rfl rfl<|.fa rfl<|.cv rfl rfl<|.z<|.mo rfl ?_
 refine .call [0] (Dz b d7 b8 d0 a5 _) (λf2 H' a=>?_)
 obtain⟨b9,b1,rfl,A,d8,X,d1,H⟩:=a
 conv=>arg 8;simp only[rest,bF,acD,acE,cx]
 have f9:=a5.next (hZ mV) H
 have f8:=X.aB
 refine .fa rfl<|.cv rfl rfl<|.z<|.mo rfl ?_
 refine .aR (mn b d8 b9 d1 _) (λu c0 a=>?_)
 obtain⟨a6,m,rfl,f3,d2,c5⟩:=a
 have i:iG xs=m.map λr=>((⟨(k:Int),IntKind.i64.wrap (n:Int),t,us,a0,se,ur,sc,wo,te,x,y,mu,no,A,a6⟩:cC),r):=by
  have:(some xs).bind iG=iG xs:=rfl
  rw[<-this]
  unfold iG
  rw[df B,df I,df J,df K,df L,df M,df N,df O,df Q,df C,df D,df E,df F,df G,df H,df c5,kx]
 refine .fa rfl<|.cv rfl rfl<|.zs<|.sr ?_
 conv=>arg 8;simp only[cx]
 refine .mo rfl ?_
 refine .br (DE b m c0 d2 _ (λp hp=>.inr (by simp[hp]))) (λu a=>?_)
 obtain⟨e,rfl,Z⟩:=a
 refine .q .fo<|.zn ?_
 refine .cond rfl (λf=>?_) λf=>?_
 refine .sr ?_
 refine .q .dA ?_
 refine .cW rfl rfl<|.ag rfl<|.nil ?_
 conv=>arg 4;simp only[cx]
 refine aF ?_
 refine .ret (bs (ba _ (.two (.fk rfl rfl) (.tmp rfl)) (.one [1,1,1,1,1,1,1] _) ?_))
 ·have l:e≠0:=by simpa using f
  refine⟨_,rfl,iz,jz,4,rfl,eC.zero _,.inr ⟨rfl,rfl,λo' g=>l (Z.2 ?_)⟩⟩
  rw[i]at g
  cases m with
  |none=>cases g
  |some r=>
   simp only[Option.map_some,Option.some.injEq,Prod.mk.injEq]at g
   rw[g.2]
 refine .kn<|.sr<|.q (.aD rfl)<|.cW rfl rfl<|.ag rfl<|.nil ?_
 conv=>arg 4;simp only[cx]
 refine aF ?_
 refine .ret (ba _ (.two (.fk rfl rfl) (.tmp rfl)) (.one [1,1,1,1,1,1,1] _) ?_)
 ·have l:e=0:=by simpa using f
  have hs:=Z.1 l
  rw[hs]at i
  refine⟨_,rfl,⟨⟨c1,c2,c4,c3⟩,v8,d9,e0,f0,f1,f2⟩,⟨(k:Int),IntKind.i64.wrap (n:Int),t,us,a0,se,ur,sc,wo,te,x,y,mu,no,A,a6⟩,0,rfl,⟨?_,?_,?_,?_,?_,?_,?_⟩,.inl ⟨rfl,i⟩⟩
  ·exact j.mono λb o c=>by have d:(b,o)∈D3:=c;simp[sg,take,bF,d]
  ·exact Y.sg.mono λb o c=>by have d:(b,o)∈D8:=c;simp[sg,take,bF,d]
  ·exact S.sg.mono λb o c=>by have d:(b,o)∈a7:=c;simp[sg,take,bF,d]
  ·exact U.sg.mono λb o c=>by have d:(b,o)∈a8:=c;simp[sg,take,bF,d]
  ·exact V.sg.mono λb o c=>by have d:(b,o)∈a9:=c;simp[sg,take,bF,d]
  ·exact W.sg.mono λb o c=>by have d:(b,o)∈b0:=c;simp[sg,take,bF,d]
  ·exact X.sg.mono λb o c=>by have d:(b,o)∈b1:=c;simp[sg,take,bF,d]
theorem gR:∀(x:Nat),x<bP->∀(R:aC),Spec prog 43 [.int .u64 (x:Nat)] R [] λv H'=>∃T,H'=[T]/\OS 5 1 ca v (put x) T:=by
 intro x
 induction x using Nat.strongRecOn with
 |_ x ih=>
 intro g R
 by_cases d:x<128
 ·rw[jc d]
  refine Spec.body func43 rfl results43 ntmps43 rfl ?_
  refine .sr<|.ag rfl<|.zs<|.sr<|.mo rfl<|.q .lss<|.zn ?_
  refine .cond rfl (λb=>?_) λb=>?_
  refine .sr<|.mo rfl<|.q (.mE (a:=x) rfl) ?_
  refine .jm (λj=>?_)
  refine .az rfl ?_
  refine .ret (bs (ba _ (.one (.tmp rfl)) (.one [0] _) ?_))
  ·exact⟨_,rfl,OS.lits (xs:=[UInt8.ofNat x]) rfl (by simp[ca]) (by simp[ca,aB])⟩
  ·exfalso;have:=aZ b;omega
 ·rw[ke d]
  have k:=gl (x:=x/128) (by omega)
  refine Spec.body func43 rfl results43 ntmps43 rfl ?_
  refine .sr<|.ag rfl<|.zs<|.sr<|.mo rfl<|.q .lss<|.zn ?_
  refine .cond rfl (λb=>?_) λb=>?_
  ·exfalso;have:=bn b;omega
  refine .kn<|.sr<|.mo rfl ?_
  refine .q (.DD 128 rfl rfl (by decide)) ?_
  refine .q (aX.cast (v':=.int .u64 ((128+x % 128:Nat):Int)) (.add rfl rfl) (acG (Value.int .u64) (mG (n:=128+x % 128) (by unfold bP;omega)))) ?_
  refine .q (.mE (a:=128+x % 128) rfl) ?_
  refine .jm (λi=>?_)
  refine .mo rfl ?_
  refine .q (.Dy 128 rfl rfl (by decide) g) ?_
  refine .bS (ih (x/128) (by omega) (by omega) _) (λu h f=>?_)
  refine .append (OS.lits (xs:=[UInt8.ofNat (128+x % 128)]) (enc:=ca) (sz:=1) (cs:=[.int .u8 ((UInt8.ofNat (128+x % 128)).toNat:Int)]) rfl (by simp[ca]) (by simp[ca,aB])) f.rx (by simp;omega) (λm e c=>?_)
  have l:=c.aB
  refine .az rfl ?_
  refine .ret (ba _ (.one (.tmp rfl)) (.one [1] _) ?_)
  ·exact⟨e,by simp[take,bF],c⟩
theorem mX(v:Value)(l:List UInt8)(R:aC)(b:RS R 1 ca v l)(g:l.length<=1000000000000):Spec prog 47 [v] R [] λu H'=>∃T,H'=[T]/\OS 5 1 ca u (ei l) T:=by
 have j:=b.aB
 have h:=gl (x:=l.length) (by unfold bP;omega)
 refine Spec.body func47 rfl results47 ntmps47 rfl ?_
 refine .sr<|.ag rfl<|.z<|.mo rfl<|.q (.db b) ?_
 refine .q (.dX (a:=l.length) rfl (by unfold bP;omega)) ?_
 refine .bS (gR l.length (by unfold bP;omega) _) (λu f e=>?_)
 refine .mo rfl ?_
 refine .append e b.rx (by simp;omega) (λk d c=>?_)
 have i:=c.aB
 refine .az rfl ?_
 refine .ret (ba _ (.one (.tmp rfl)) (.one [0] _) ?_)
 ·exact⟨d,by simp[take],c⟩
theorem jr(s:ByteArray)(R:aC)(c:(cf s).length<=1000000000000):Spec prog 45 [.string s] R [] λu H'=>∃T,H'=[T]/\OS 5 1 ca u (cf s) T:=by
 have i:s.data.toList.length<=1000000000000:=by
  unfold cf ei at c
  simp only[acy]at c
  omega
 have j:s.size<=1000000000000:=by
  have:s.data.toList.length=s.size:=by rw[Array.length_toList];rfl
  omega
 refine Spec.body func45 rfl results45 ntmps45 rfl ?_
 refine .sr<|.ag rfl<|.z<|.mo rfl ?_
 refine .qy (s:=s) (by unfold maxLen;omega) (λv d f=>?_)
 refine .bS (mX v s.data.toList _ (f.mono λb o g=>.inr (by have h:(b,o)∈d:=g;simp[h])) i) (λu e a=>?_)
 have k:=a.aB
 refine .az rfl ?_
 refine .ret (ba _ (.one (.tmp rfl)) (.one [0] _) ?_)
 ·exact⟨e,by simp[take],a⟩
theorem mZ(v:Value)(l:List ByteArray)(R:aC)(d:RS R 1 cR v l)(j:(cD cf l).length<=1000000000000):Spec prog 46 [v] R [] λu H'=>∃T,H'=[T]/\OS 5 1 ca u (cD cf l) T:=by
 have F:=d.aB
 have C:=d.le
 unfold cD at j
 simp only[acy]at j
 have k:l.length<bP:=by unfold bP;omega
 refine Spec.body func46 rfl results46 ntmps46 rfl ?_
 refine .sr<|.ag rfl<|.z<|.mo rfl<|.q (.db d) ?_
 refine .q (.dX (a:=l.length) rfl k) ?_
 refine .bS (gR l.length k _) (λu o s=>?_)
 refine .ag rfl<|.zs<|.sr<|.az rfl<|.block ?_
 refine .loop (X:=Nat×Value×ax) (λy=>y.1<=l.length/\OS 5 1 ca y.2.1 (put l.length++(l.take y.1).flatMap cf) y.2.2) (λy=>[(0,v),(3,y.2.1),(4,iN y.1)]) (λy=>[y.2.2]) (λy=>l.length-y.1) (0,u,o) ⟨acz _,by simpa using s⟩ kE.c.c.c rH ?_
 rintro⟨i,I,r⟩ ⟨x,b⟩
 simp only at x b⊢
 have E:=b.aB
 refine .seq<|.sr<|.mo rfl<|.mo rfl<|.q (.db d) ?_
 refine .q .lss<|.zn ?_
 refine .cond rfl (λe=>?_) λe=>?_
 have m:i<l.length:=cS e
 obtain⟨z,n⟩:=eh m
 have g:=gW (enc:=cf) n
 have h:=gY (enc:=cf) (l:=l) (i+1)
 rw[g]at h
 simp only[acy]at h
 refine .kn<|.seq<|.block<|.region<|.mo rfl<|.mo rfl<|.mo rfl ?_
 refine .da i d n (λG=>?_)
 refine .lo rfl ?_
 refine .bS (jr z _ (by omega)) (λH B t=>?_)
 refine .append b t.rx (by simp only[acy];omega) (λA p f=>?_)
 have D:=f.aB
 refine .ag rfl<|.nil<|bd<|aF<|.region<|.mo rfl ?_
 refine .ia (i+1) .add ?_
 refine .ag rfl<|.nil ?_
 ·exact aT (i+1,A,p) ⟨m,by simp only;rw[g, <-acH];exact f⟩ (by simp only;omega) kE.c.c.c (cu [1])
 have w:i=l.length:=by have:=aZ e;omega
 rw[w,acA]at b
 refine .exit<|aU<|aY<|aW<|aF<|.sr<|.mo rfl<|.az rfl ?_
 refine .ret (ba _ (.one (.tmp rfl)) (.one [0] _) ?_)
 ·exact⟨r,by simp[take],b⟩
theorem r6(f:Bool)(R:aC):Spec prog 49 [.bool f] R [] λu H'=>∃T,H'=[T]/\OS 5 1 ca u (kc f) T:=by
 refine Spec.body func49 rfl results49 ntmps49 rfl ?_
 refine .sr<|.ag rfl<|.zs<|.sr<|.mo rfl<|.zn ?_
 refine .cond rfl (λc=>?_) λc=>?_
 refine .sr ?_
 refine .bS (gR 1 (by decide) _) (λu b a=>?_)
 have d:=a.aB
 refine .az rfl ?_
 refine .ret (bs (ba _ (.one (.tmp rfl)) (.one [0] _) ?_))
 ·rw[c]
  exact⟨b,by simp[take],a⟩
 refine .kn<|.sr ?_
 refine .bS (gR 0 (by decide) _) (λu b a=>?_)
 have d:=a.aB
 refine .az rfl ?_
 refine .ret (ba _ (.one (.tmp rfl)) (.one [0] _) ?_)
 ·rw[c]
  exact⟨b,by simp[take],a⟩
def bc.seven(t:bc):List ByteArray:=[t.os,t.oi,t.rel,t.us,t.ss,t.si,t.sr]
theorem Du(t:bc):cH t=t.seven.flatMap cf:=by simp[cH,bc.seven]
theorem m0(t:bc)(R:aC)(r:(cH t).length<=1000000000000):Spec prog 48 [.agg t.enc.toArray] R [] λu H'=>∃T,H'=[T]/\OS 5 1 ca u (cH t) T:=by
 rw[Du]at r⊢
 refine Spec.body func48 rfl results48 ntmps48 rfl ?_
 refine .sr ?_
 refine .cK rfl (λx=>?_)
 refine .ag rfl<|.z<|.fa rfl<|.fa rfl<|.lo rfl<|.fa rfl<|.fa rfl<|.lo rfl<|.fa rfl<|.lo rfl<|.fa rfl<|.fa rfl<|.lo rfl<|.fa rfl<|.fa rfl<|.fa rfl<|.lo rfl<|.fa rfl<|.fa rfl<|.fa rfl<|.lo rfl<|.fa rfl<|.fa rfl<|.lo rfl ?_
 refine .jn [_,_,_,_,_,_,_] (λb=>?_)
 refine .ag rfl<|.z<|.ag rfl<|.zs<|.sr<|.az rfl<|.block ?_
 have m:OS 9 1 cR (.slice (some ⟨b,0,none⟩) 7 7) t.seven (bl b t.enc 9):=OS.lits rfl (by simp[cR]) (by simp[cR,aB])
 have A:t.seven.length=7:=rfl
 refine .loop (X:=Nat×Value×ax) (λy=>y.1<=7/\OS 5 1 ca y.2.1 ((t.seven.take y.1).flatMap cf) y.2.2) (λy=>[(3,.slice (some ⟨b,0,none⟩) 7 7),(4,y.2.1),(5,iN y.1)]) (λy=>[bl b t.enc 9,y.2.2]) (λy=>7-y.1) (0,sZ,[]) ⟨acz _,OS.nil⟩ kE.c.c.c ((cu [0]).trans (bJ.cY (by simp[take,bc.enc]))) ?_
 rintro⟨i,F,k⟩ ⟨p,a⟩
 simp only at p a⊢
 have C:=a.aB
 refine .seq<|.sr<|.mo rfl<|.mo rfl<|.q (.fg rfl) ?_
 refine .q .lss<|.zn ?_
 refine .cond rfl (λd=>?_) λd=>?_
 have s:i<t.seven.length:=cS d
 obtain⟨z,h⟩:=eh s
 have f:=gW (enc:=cf) h
 have g:=gY (enc:=cf) (l:=t.seven) (i+1)
 rw[f]at g
 simp only[acy]at g
 refine .kn<|.seq<|.block<|.region<|.mo rfl<|.mo rfl<|.mo rfl ?_
 refine .au i m h (λD=>?_)
 refine .lo rfl ?_
 refine .bS (jr z _ (by omega)) (λE w n=>?_)
 refine .append a n.rx (by omega) (λv j e=>?_)
 have B:=e.aB
 refine .ag rfl<|.nil<|bd<|aF<|.region<|.mo rfl ?_
 refine .ia (i+1) .add ?_
 refine .ag rfl<|.nil ?_
 ·exact aT (i+1,v,j) ⟨by simp only;omega,by simp only;rw[f];exact e⟩ (by simp only;omega) kE.c.c.c (cu [1,1])
 have o:i=t.seven.length:=by have:=aZ d;omega
 rw[o,acA]at a
 refine .exit<|aU<|aY<|aW<|aF<|.sr<|.mo rfl<|.az rfl ?_
 refine .ret (ba _ (.one (.tmp rfl)) (.one [1] _) ?_)
 ·exact⟨k,by simp[take,bF],a⟩
theorem r4(r:CR)(c:cU)(R:aC)(j:ek R r c)(o:(fi c).length<=1000000000000):Spec prog 44 [.agg r.cells.toArray] R [] λu H'=>∃T,H'=[T]/\OS 5 1 ca u (fi c) T:=by
 have B:cq r.cells:=⟨j.cL⟩
 obtain⟨I,J,q,p⟩:=r
 obtain⟨d,e,b,a⟩:=j
 simp only at d e b a
 subst d;subst e
 have C:=b.aB
 have D:=a.aB
 simp only[fi,acy]at o
 refine Spec.body func44 rfl results44 ntmps44 rfl ?_
 refine .sr ?_
 refine .cK rfl (λA=>?_)
 refine .ag rfl<|.z<|.fa rfl<|.lo rfl ?_
 refine .bS (jr c.id _ (by omega)) (λK s f=>?_)
 have E:=f.aB
 refine .ag rfl<|.z<|.mo rfl<|.fa rfl<|.lo rfl ?_
 refine .bS (jr c.dc _ (by omega)) (λL t l=>?_)
 refine .append f l.rx (by omega) (λM v g=>?_)
 have F:=g.aB
 refine .ag rfl<|.z<|.mo rfl<|.fa rfl<|.lo rfl ?_
 refine .bS (mZ q c.gn _ b.rx (by omega)) (λN w m=>?_)
 refine .append g m.rx (by simp only[acy];omega) (λO x h=>?_)
 have G:=h.aB
 refine .ag rfl<|.z<|.mo rfl<|.fa rfl<|.lo rfl ?_
 refine .bS (mZ p c.scopes _ a.rx (by omega)) (λQ y n=>?_)
 refine .append h n.rx (by simp only[acy];omega) (λS k i=>?_)
 have H:=i.aB
 refine .az rfl ?_
 refine .ret (ba _ (.one (.tmp rfl)) (.one [3] _) ?_)
 ·exact⟨k,by simp[take,bF],by simpa[fi]using i⟩
def cC.four(o:cC):List ByteArray:=[o.user,o.id,o.dc,o.uri]
def js(o:cC):List UInt8:=put (uw o.kind)++put (uw o.n)++fi o.cl
def iW(o:cC):List UInt8:=js o++o.four.flatMap cf++cD cf o.scopes++cf o.word++cf o.text++ei o.x++ei o.y
theorem oJ(o:cC):iW o=gV o:=by simp[iW,js,gV,cC.four]
theorem oI(w:OW)(o:cC)(R:aC)(h:eC R w o)(hr:o.rev<bP)(hl:(fR o).length<=1000000000000):Spec prog 10 [.agg (cI w o).toArray] R [] λu H'=>∃T,H'=[T]/\OS 5 1 ca u (fR o) T:=by
 have i1:cq (cI w o):=⟨h.cL⟩
 obtain⟨⟨E,F,J,I⟩,H,K,L,S,U,Q⟩:=w
 have hc:ek R ⟨E,F,J,I⟩ o.cl:=h.c
 have hs:RS R 1 cR H o.scopes:=h.s
 have hx:RS R 1 ca K o.x:=h.x
 have hy:RS R 1 ca L o.y:=h.y
 have M:RS R 7 bc.enc S o.cj:=h.m
 have N:RS R 7 bc.enc U o.no:=h.n
 have D:RS R 8 cg.enc Q o.cs:=h.g
 have j1:=hs.aB
 have j2:=hx.aB
 have j3:=hy.aB
 have j4:=M.aB
 have j5:=N.aB
 have j6:=D.aB
 have j7:=hc.u.aB
 have j8:=hc.s.aB
 simp only at j7 j8
 have d2:=D.le
 have d9:=M.le
 have e0:=N.le
 have c9:(iW o).length+(cD cH o.cj).length+(cD cH o.no).length+(cD dG o.cs).length+(put o.rev).length<=1000000000000:=by
  rw[lJ, <-oJ]at hl
  simp only[acy]at hl
  omega
 have hp:=c9
 simp only[iW,js,acy]at hp
 have pl (l:List UInt8):(ei l).length=(put l.length).length+l.length:=by unfold ei;rw[acy]
 have p1:=pl o.x
 have p2:=pl o.y
 refine Spec.body func10 rfl results10 ntmps10 rfl ?_
 refine .sr ?_
 refine .cK rfl (λA=>?_)
 refine .ag rfl<|.z<|.fa rfl<|.lo rfl<|.q (.cast (v':=.int .u64 (uw o.kind:Nat)) (.eb) (acG (Value.int .u64) (mH o.kind))) ?_
 refine .bS (gR (uw o.kind) (jh _) _) (λu1 T1 a0=>?_)
 have k1:=a0.aB
 refine .ag rfl<|.z<|.mo rfl<|.fa rfl<|.lo rfl<|.q (.cast (v':=.int .u64 (uw o.n:Nat)) (.eb) (acG (Value.int .u64) (mH o.n))) ?_
 refine .bS (gR (uw o.n) (jh _) _) (λZ V v=>?_)
 refine .append a0 v.rx (by omega) (λu3 T3 Y=>?_)
 have k3:=Y.aB
 refine .ag rfl<|.z<|.mo rfl<|.fa rfl<|.q (.loadT rfl) ?_
 refine .bS (r4 ⟨E,F,J,I⟩ o.cl _ (hc.mono λb o hb=>.inl hb) (by omega)) (λu4 T4 b6=>?_)
 refine .append Y b6.rx (by simp only[acy];omega) (λu5 T5 a2=>?_)
 have k5:=a2.aB
 have b7:OS 5 1 ca u5 (js o) T5:=a2
 refine .ag rfl<|.z<|.fa rfl<|.lo rfl<|.fa rfl<|.lo rfl<|.fa rfl<|.lo rfl<|.fa rfl<|.lo rfl ?_
 refine .jn [_,_,_,_] (λW=>?_)
 refine .ag rfl<|.zs<|.sr<|.az rfl<|.block ?_
 have b5:OS 9 1 cR (.slice (some ⟨W,0,none⟩) 4 4) o.four (bl W [.string o.user,.string o.id,.string o.dc,.string o.uri] 9):=OS.lits rfl (by simp[cR]) (by simp[cR,aB])
 have d7:o.four.length=4:=rfl
 have d3:(js o).length=(put (uw o.kind)).length+(put (uw o.n)).length+(fi o.cl).length:=by simp[js];omega
 refine .loop (X:=Nat×Value×ax) (λy=>y.1<=4/\OS 5 1 ca y.2.1 (js o++(o.four.take y.1).flatMap cf) y.2.2) (λy=>[(1,pT A),(3,y.2.1),(4,.slice (some ⟨W,0,none⟩) 4 4),(5,iN y.1)]) (λy=>[bl W [.string o.user,.string o.id,.string o.dc,.string o.uri] 9,y.2.2,bl A (cI ⟨⟨E,F,J,I⟩,H,K,L,S,U,Q⟩ o) 30]) (λy=>4-y.1) (0,u5,T5) ⟨acz _,by simpa using b7⟩ kE.c.c.c.c (cu [0,2,2]) ?_
 rintro⟨i,vo,To⟩ ⟨hi,d⟩
 simp only at hi d⊢
 have O:=d.aB
 refine .seq<|.sr<|.mo rfl<|.mo rfl<|.q (.fg rfl) ?_
 refine .q .lss<|.zn ?_
 refine .cond rfl (λh1=>?_) λh1=>?_
 have t:i<o.four.length:=cS h1
 obtain⟨z,e⟩:=eh t
 have p:=gW (enc:=cf) e
 have r:=gY (enc:=cf) (l:=o.four) (i+1)
 rw[p]at r
 simp only[acy]at r
 refine .kn<|.seq<|.block<|.region<|.mo rfl<|.mo rfl<|.mo rfl ?_
 refine .au i b5 e (λe4=>?_)
 refine .lo rfl ?_
 refine .bS (jr z _ (by omega)) (λZ V v=>?_)
 refine .append d v.rx (by simp only[acy];omega) (λG C f=>?_)
 have i9:=f.aB
 refine .ag rfl<|.nil<|bd<|aF<|.region<|.mo rfl ?_
 refine .ia (i+1) .add ?_
 refine .ag rfl<|.nil ?_
 ·exact aT (i+1,G,C) ⟨by simp only;omega,by simp only;rw[p, <-acH];exact f⟩ (by simp only;omega) kE.c.c.c.c (cu [1,1,1])
 have B:i=o.four.length:=by have:=aZ h1;omega
 rw[B,acA]at d
 refine .exit<|aU<|aY<|aW<|aF<|.sr<|.mo rfl<|.fa rfl<|.lo rfl ?_
 refine .bS (mZ H o.scopes _ hs.rx (by omega)) (λw1 S1 b8=>?_)
 refine .append d b8.rx (by simp only[acy];omega) (λw2 S2 a4=>?_)
 have q2:=a4.aB
 refine .ag rfl<|.z<|.mo rfl<|.fa rfl<|.lo rfl ?_
 refine .bS (jr o.word _ (by omega)) (λw3 S3 b9=>?_)
 refine .append a4 b9.rx (by simp only[acy];omega) (λw4 S4 a5=>?_)
 have q4:=a5.aB
 refine .ag rfl<|.z<|.mo rfl<|.fa rfl<|.lo rfl ?_
 refine .bS (jr o.text _ (by omega)) (λw5 S5 c0=>?_)
 refine .append a5 c0.rx (by simp only[acy];omega) (λw6 S6 a6=>?_)
 have q6:=a6.aB
 refine .ag rfl<|.z<|.mo rfl<|.fa rfl<|.lo rfl ?_
 refine .bS (mX K o.x _ hx.rx (by omega)) (λw7 S7 c1=>?_)
 refine .append a6 c1.rx (by simp only[acy];omega) (λw8 S8 a7=>?_)
 have q8:=a7.aB
 refine .ag rfl<|.z<|.mo rfl<|.fa rfl<|.lo rfl ?_
 refine .bS (mX L o.y _ hy.rx (by omega)) (λw9 S9 c2=>?_)
 refine .append a7 c2.rx (by simp only[acy];omega) (λd1 b3 a3=>?_)
 have e6:=a3.aB
 have c3:OS 5 1 ca d1 (iW o) b3:=a3
 have d5:(cD cH o.cj).length=(put o.cj.length).length+(o.cj.flatMap cH).length:=by simp[cD]
 have d6:(cD cH o.no).length=(put o.no.length).length+(o.no.flatMap cH).length:=by simp[cD]
 have d4:(cD dG o.cs).length=(put o.cs.length).length+(o.cs.flatMap dG).length:=by simp[cD]
 clear hp p1 p2 pl
 refine .ag rfl<|.z<|.mo rfl<|.fa rfl<|.lo rfl<|.q (.db M) ?_
 refine .q (.dX (a:=o.cj.length) rfl (by unfold bP;omega)) ?_
 refine .bS (gR o.cj.length (by unfold bP;omega) _) (λy1 Y1 c4=>?_)
 refine .append c3 c4.rx (by omega) (λy2 Y2 a8=>?_)
 have z2:=a8.aB
 refine .ag rfl<|.zs<|.sr<|.az rfl<|.block ?_
 refine .loop (X:=Nat×Value×ax) (λy=>y.1<=o.cj.length/\OS 5 1 ca y.2.1 (iW o++put o.cj.length++(o.cj.take y.1).flatMap cH) y.2.2) (λy=>[(1,pT A),(3,y.2.1),(6,iN y.1)]) (λy=>[y.2.2,bl A (cI ⟨⟨E,F,J,I⟩,H,K,L,S,U,Q⟩ o) 30]) (λy=>o.cj.length-y.1) (0,y2,Y2) ⟨acz _,by simpa using a8⟩ kE.c.c.c (cu [7,7]) ?_
 rintro⟨j,vo,To⟩ ⟨hj,d⟩
 simp only at hj d⊢
 have O:=d.aB
 refine .seq<|.sr<|.mo rfl<|.fa rfl<|.lo rfl<|.q (.db M) ?_
 refine .q .lss<|.zn ?_
 refine .cond rfl (λh2=>?_) λh2=>?_
 have t:j<o.cj.length:=cS h2
 obtain⟨z,e⟩:=eh t
 have p:=gW (enc:=cH) e
 have r:=gY (enc:=cH) (l:=o.cj) (j+1)
 rw[p]at r
 simp only[acy]at r
 refine .kn<|.seq<|.block<|.region<|.mo rfl<|.fa rfl<|.lo rfl<|.mo rfl ?_
 refine .da j M e (λe5=>?_)
 refine .q (.aD rfl) ?_
 refine .bS (m0 z _ (by omega)) (λZ V v=>?_)
 refine .append d v.rx (by simp only[acy];omega) (λG C f=>?_)
 have i9:=f.aB
 refine .ag rfl<|.nil<|bd<|aF<|.region<|.mo rfl ?_
 refine .ia (j+1) .add ?_
 refine .ag rfl<|.nil ?_
 ·exact aT (j+1,G,C) ⟨t,by simp only;rw[p, <-acH];exact f⟩ (by simp only;omega) kE.c.c.c (cu [1,1])
 have B:j=o.cj.length:=by have:=aZ h2;omega
 rw[B,acA]at d
 refine .exit<|aU<|aY<|aW<|aF<|.sr<|.mo rfl<|.fa rfl<|.lo rfl<|.q (.db N) ?_
 refine .q (.dX (a:=o.no.length) rfl (by unfold bP;omega)) ?_
 refine .bS (gR o.no.length (by unfold bP;omega) _) (λy3 Y3 c5=>?_)
 refine .append d c5.rx (by simp only[acy];omega) (λy4 Y4 a9=>?_)
 have z4:=a9.aB
 clear d O
 refine .ag rfl<|.zs<|.sr<|.az rfl<|.block ?_
 refine .loop (X:=Nat×Value×ax) (λy=>y.1<=o.no.length/\OS 5 1 ca y.2.1 (iW o++put o.cj.length++o.cj.flatMap cH++put o.no.length++(o.no.take y.1).flatMap cH) y.2.2) (λy=>[(1,pT A),(3,y.2.1),(7,iN y.1)]) (λy=>[y.2.2,bl A (cI ⟨⟨E,F,J,I⟩,H,K,L,S,U,Q⟩ o) 30]) (λy=>o.no.length-y.1) (0,y4,Y4) ⟨acz _,by simpa using a9⟩ kE.c.c.c (cu [1,1]) ?_
 rintro⟨k,vo,To⟩ ⟨hk,d⟩
 simp only at hk d⊢
 have O:=d.aB
 refine .seq<|.sr<|.mo rfl<|.fa rfl<|.lo rfl<|.q (.db N) ?_
 refine .q .lss<|.zn ?_
 refine .cond rfl (λh3=>?_) λh3=>?_
 have t:k<o.no.length:=cS h3
 obtain⟨z,e⟩:=eh t
 have p:=gW (enc:=cH) e
 have r:=gY (enc:=cH) (l:=o.no) (k+1)
 rw[p]at r
 simp only[acy]at r
 refine .kn<|.seq<|.block<|.region<|.mo rfl<|.fa rfl<|.lo rfl<|.mo rfl ?_
 refine .da k N e (λe1=>?_)
 refine .q (.aD rfl) ?_
 refine .bS (m0 z _ (by omega)) (λZ V v=>?_)
 refine .append d v.rx (by simp only[acy];omega) (λG C f=>?_)
 have i9:=f.aB
 refine .ag rfl<|.nil<|bd<|aF<|.region<|.mo rfl ?_
 refine .ia (k+1) .add ?_
 refine .ag rfl<|.nil ?_
 ·exact aT (k+1,G,C) ⟨t,by simp only;rw[p, <-acH];exact f⟩ (by simp only;omega) kE.c.c.c (cu [1,1])
 have B:k=o.no.length:=by have:=aZ h3;omega
 rw[B,acA]at d
 refine .exit<|aU<|aY<|aW<|aF<|.sr<|.mo rfl<|.fa rfl<|.lo rfl<|.q (.db D) ?_
 refine .q (.dX (a:=o.cs.length) rfl (by unfold bP;omega)) ?_
 refine .bS (gR o.cs.length (by unfold bP;omega) _) (λy5 Y5 c6=>?_)
 refine .append d c6.rx (by simp only[acy];omega) (λy6 Y6 b0=>?_)
 have z6:=b0.aB
 clear d O
 refine .ag rfl<|.zs<|.sr<|.az rfl<|.block ?_
 refine .loop (X:=Nat×Value×ax) (λy=>y.1<=o.cs.length/\OS 5 1 ca y.2.1 (iW o++put o.cj.length++o.cj.flatMap cH++put o.no.length++o.no.flatMap cH++put o.cs.length++(o.cs.take y.1).flatMap dG) y.2.2) (λy=>[(1,pT A),(3,y.2.1),(8,iN y.1)]) (λy=>[y.2.2,bl A (cI ⟨⟨E,F,J,I⟩,H,K,L,S,U,Q⟩ o) 30]) (λy=>o.cs.length-y.1) (0,y6,Y6) ⟨acz _,by simpa using b0⟩ kE.c.c.c (cu [1,1]) ?_
 rintro⟨m,vo,To⟩ ⟨c8,d⟩
 simp only at c8 d⊢
 have O:=d.aB
 refine .seq<|.sr<|.mo rfl<|.fa rfl<|.lo rfl<|.q (.db D) ?_
 refine .q .lss<|.zn ?_
 refine .cond rfl (λh4=>?_) λh4=>?_
 have t:m<o.cs.length:=cS h4
 obtain⟨⟨zp,zt⟩,e⟩:=eh t
 have p:=gW (enc:=dG) e
 have r:=gY (enc:=dG) (l:=o.cs) (m+1)
 rw[p]at r
 simp only[acy,dG]at r
 refine .kn<|.seq<|.block<|.sr<|.mo rfl<|.fa rfl<|.lo rfl<|.mo rfl ?_
 refine .da m D e (λe2=>?_)
 refine .fa rfl<|.lo rfl ?_
 refine .bS (r6 zp _) (λZ V v=>?_)
 refine .append d v.rx (by simp only[acy,dG]at *;omega) (λG C f=>?_)
 have i9:=f.aB
 refine .az rfl<|.region<|.mo rfl<|.fa rfl<|.lo rfl<|.mo rfl ?_
 refine .da m D e (λe3=>?_)
 refine .fa rfl<|.q (.loadT rfl) ?_
 refine .bS (m0 zt _ (by simp only[dG]at *;omega)) (λu3 T3 Y=>?_)
 refine .append f Y.rx (by simp only[acy,dG]at *;omega) (λd0 b4 a1=>?_)
 have d8:=a1.aB
 refine .ag rfl<|.nil<|bd<|aF<|.region<|.mo rfl ?_
 refine .ia (m+1) .add ?_
 refine .ag rfl<|.nil ?_
 ·exact aT (m+1,d0,b4) ⟨t,by simp only;rw[p];simpa[dG]using a1⟩ (by simp only;omega) kE.c.c.c (cu [2,2])
 have B:m=o.cs.length:=by have:=aZ h4;omega
 rw[B,acA]at d
 refine .exit<|aU<|aY<|aW<|aF<|.sr<|.mo rfl<|.fa rfl<|.lo rfl ?_
 refine .bS (gR o.rev hr _) (λy7 Y7 c7=>?_)
 refine .append d c7.rx (by simp only[acy];omega) (λy8 Y8 b2=>?_)
 have z8:=b2.aB
 refine .az rfl ?_
 refine .ret (ba _ (.one (.tmp rfl)) (.one [1] _) ?_)
 ·refine⟨Y8,by simp[take,bF],?_⟩
  rw[lJ, <-oJ]
  simpa[cD]using b2
set_option linter.unusedSimpArgs false
theorem qd(v w:Value)(l m:List UInt8)(R:aC)(h:RS R 1 ca v l)(b:RS R 1 ca w m):Spec prog 9 [v,w] R [] λu H'=>u=.bool (decide (l=m))/\H'=[]:=by
 have A:=h.aB
 have B:=b.aB
 have z:=h.le
 refine Spec.body func9 rfl results9 ntmps9 rfl ?_
 refine .sr<|.ag rfl<|.zs<|.sr<|.mo rfl<|.q (.db h) ?_
 refine .mo rfl<|.q (.db b) ?_
 refine .q .fo<|.zn ?_
 refine .cond rfl (λf=>?_) λf=>?_
 refine .sr<|.az rfl ?_
 refine .ret (bs (cw rfl ?_))
 ·refine⟨acG Value.bool ?_,rfl⟩
  have o:¬l=m:=λe=>by subst e;simp at f
  exact(decide_eq_false o).symm
 have x:l.length=m.length:=by
  have:=f
  simp only[bne_eq_false_iff_eq]at this
  omega
 refine .kn<|.seq<|.sr<|.az rfl<|.block ?_
 refine .loop (X:=Nat) (λi=>i<=l.length/\l.take i=m.take i) (λi=>[(0,v),(1,w),(5,iN i)]) (λ_=>[]) (λi=>l.length-i) 0 ⟨acz _,rfl⟩ kE.c.c.c rH ?_
 rintro i ⟨y,n⟩
 refine .seq<|.sr<|.mo rfl<|.mo rfl<|.q (.db h) ?_
 refine .q .lss<|.zn ?_
 refine .cond rfl (λg=>?_) λg=>?_
 have p:i<l.length:=cS g
 obtain⟨c,k⟩:=eh p
 obtain⟨d,a⟩:∃d,m[i]? =some d:=⟨_,aE (by omega)⟩
 refine .kn<|.seq<|.block<|.seq ?_
 refine .DC mixed (by kernel_rfl) ?_
 refine .mo rfl<|.mo rfl ?_
 refine .da i h k (λC=>?_)
 refine .lo rfl<|.mo rfl<|.mo rfl ?_
 refine .da i b a (λD=>?_)
 refine .lo rfl<|.q .fo<|.zn ?_
 refine .cond rfl (λj=>?_) λj=>?_
 refine .sr<|.az rfl ?_
 refine .ret (bw (bs (cO (bw (bs (cw rfl ?_))))))
 ·refine⟨acG Value.bool ?_,rfl⟩
  have o:¬l=m:=λe=>by
   subst e
   rw[k]at a
   cases a
   simp at j
  exact(decide_eq_false o).symm
 refine .skip<|bd<|aF<|.region<|.mo rfl ?_
 refine .ia (i+1) .add ?_
 refine .ag rfl<|.nil ?_
 ·exact aT (i+1) ⟨p,by
   have s:c=d:=by
    have r:=j
    simp only[bne_eq_false_iff_eq]at r
    exact UInt8.toNat_inj.1 (by omega)
   rw[acI,acI,k,a,n,s]⟩ (by omega) kE.c.c.c rH
 have t:i=l.length:=by have:=aZ g;omega
 refine .exit<|aU<|aY<|aW<|aF<|.sr<|.az rfl ?_
 refine .ret (cw rfl ?_)
 ·refine⟨acG Value.bool ?_,rfl⟩
  rw[t,acA,x,acA]at n
  exact(decide_eq_true n).symm
theorem ob(t:bc)(R:aC):Spec prog 53 [.agg t.enc.toArray] R [] λu H'=>u=.agg t.short.enc.toArray/\H'=[]:=by
 obtain⟨c,b,d,h,g,e,f⟩:=t
 refine Spec.body func53 rfl results53 ntmps53 rfl ?_
 refine .sr ?_
 refine .cK rfl (λi=>?_)
 refine .cZ (λj=>?_)
 refine .z<|.fa rfl<|.q (.loadT rfl) ?_
 refine .cZ (λk=>?_)
 refine .cW rfl rfl<|.zs<|.bK [29] mixed ?_
 refine .tO 0 rfl (.fieldAddr rfl)<|.tO 1 rfl (.fieldAddr rfl)<|.tO 2 rfl (.bN rfl)<|.tO 4 rfl (.fieldAddr rfl)<|.tO 5 rfl (.fieldAddr rfl)<|.tO 6 rfl (.bN rfl)<|.tO 9 rfl (.fieldAddr rfl)<|.tO 10 rfl (.bN rfl)<|.tO 12 rfl (.fieldAddr rfl)<|.tO 13 rfl (.bN rfl)<|.tO 15 rfl (.fieldAddr rfl)<|.tO 16 rfl (.fieldAddr rfl)<|.tO 17 rfl (.bN rfl)<|.tO 19 rfl (.fieldAddr rfl)<|.tO 20 rfl (.fieldAddr rfl)<|.tO 21 rfl (.bN rfl)<|.tO 24 rfl (.fieldAddr rfl)<|.tO 25 rfl (.bN rfl) ?_
 refine .sT 3 rfl ?_
 refine .br (fj c 40 _) (λu a=>?_)
 subst a
 refine .nil (Next.sub ?_)
 refine .sT 7 rfl ?_
 refine .br (fj b 40 _) (λu a=>?_)
 subst a
 refine .nil (Next.sub ?_)
 refine .tO 8 rfl .dA ?_
 refine .sT 11 rfl ?_
 refine .br (fj d 40 _) (λu a=>?_)
 subst a
 refine .nil (Next.sub ?_)
 refine .sT 14 rfl ?_
 refine .br (fj h 40 _) (λu a=>?_)
 subst a
 refine .nil (Next.sub ?_)
 refine .sT 18 rfl ?_
 refine .br (fj g 40 _) (λu a=>?_)
 subst a
 refine .nil (Next.sub ?_)
 refine .sT 22 rfl ?_
 refine .br (fj e 40 _) (λu a=>?_)
 subst a
 refine .nil (Next.sub ?_)
 refine .tO 23 rfl .dA ?_
 refine .sT 26 rfl ?_
 refine .br (fj f 40 _) (λu a=>?_)
 subst a
 refine .nil (Next.sub ?_)
 refine .tO 27 rfl .dA ?_
 refine .tO 28 rfl .dA ?_
 refine .sT 29 rfl ?_
 refine .cW rfl rfl ?_
 refine .nil (Next.mod rfl ?_)
 refine RA.nil (by kernel_rfl) ?_
 refine aF ?_
 refine .ret (ba _ (.one (.fk rfl rfl)) (.none _) ?_)
 ·exact⟨rfl,rfl⟩
abbrev jM(l:List Value):List Value:=l
def fc(a b c:Value):List Value:=[.int .i64 0,a,b,c,.string ⟨#[]⟩,.string ⟨#[]⟩,.string ⟨#[]⟩,.string ⟨#[]⟩,.string ⟨#[]⟩,.string ⟨#[]⟩,.string ⟨#[]⟩,.int .u64 0]
theorem na(a b c:Value) [One a] [One b] [One c]:cq (fc a b c):=by unfold fc;infer_instance
theorem B8(v l j g:Value)(cj no:List bc)(cs:List cg)(R d:aC)(h:RS R 12 jM v [fc l j g])(p:RS d 7 bc.enc l cj)(r:RS d 7 bc.enc j no)(o:RS d 8 cg.enc g cs):
  Spec prog 51 [v,.int .i64 1] R [] λu H'=>∃T,H'=[T]/\∃a b c,OS 103 12 jM u [fc a b c] T/\RS d 7 bc.enc a (cj.take 34)/\RS d 7 bc.enc b (no.take 34)/\RS d 8 cg.enc c (cs.take 34):=by
 have iv:=h.aB
 have im:=p.aB
 have a3:=r.aB
 have ic:=o.aB
 have a4:cq (jM (fc l j g)):=na l j g
 refine Spec.ej (H':=[[]]) (by simp) ?_
 refine Spec.body func51 rfl results51 ntmps51 rfl ?_
 refine .sr<|.ag rfl<|.z<|.ag rfl<|.zs<|.sr<|.az rfl<|.block ?_
 refine .loop (X:=Nat×Value×ax) (λy=>One y.2.1/\((y.1=0/\y.2.1=sZ/\y.2.2=[])\/(y.1=1/\∃a b c,OS 103 12 jM y.2.1 [fc a b c] y.2.2/\RS d 7 bc.enc a (cj.take 34)/\RS d 7 bc.enc b (no.take 34)/\RS d 8 cg.enc c (cs.take 34)))) (λy=>[(0,v),(1,.int .i64 1),(5,y.2.1),(6,iN y.1)]) (λy=>[y.2.2]) (λy=>1-y.1) (0,sZ,[]) ⟨⟨rfl⟩,.inl ⟨rfl,rfl,rfl⟩⟩ kE.c.c.c.c rH ?_
 rintro⟨i,vo,N⟩ ⟨io,F⟩
 simp only at io F⊢
 refine .seq<|.sr<|.mo rfl<|.mo rfl<|.q (.db h) ?_
 refine .q .lss<|.mo rfl ?_
 refine .split (t:=12) rfl (λe=>?_) (λe=>?_)
 refine .gT e<|.mo rfl<|.gT e<|.mo rfl<|.gT e<|.q .lss<|.q (.cb e) ?_
 refine .zn ?_
 refine .cond rfl (λH=>?_) λH=>?_
 have a2:i<1:=by
  have:=bn e
  simp only[List.length_cons,acF]at this
  omega
 obtain⟨rfl,rfl,rfl⟩:=F.resolve_right (λD=>by omega)
 refine .kn<|.seq<|.block<|.sr<|.mo rfl<|.mo rfl ?_
 refine .da 0 h (show [fc l j g][0]? =some (fc l j g)from rfl) (λa8=>?_)
 refine .q (.aD rfl) ?_
 refine .cZ (λm=>?_)
 refine .cW rfl rfl<|.zs<|.sr<|.fa rfl<|.lo rfl<|.q (.db p) ?_
 refine .q .gtr<|.zn ?_
 refine bj.cut (X:=Value) (λw=>RS d 7 bc.enc w (cj.take 34)) (λw=>[(0,v),(1,.int .i64 1),(5,sZ),(6,.int .i64 0),(7,pT m)]) (λw=>[bl m (fc w j g) 103,[]]) ?_ ?_
 refine .cond rfl (λA=>?_) λA=>?_
 refine .region<|.fa rfl<|.lo rfl ?_
 refine .iK (R':=d) 0 34 p rfl ⟨_,rfl⟩ (by omega) (by have:=bn A;omega) (λk f=>?_)
 have W:=f.aB
 refine .fa rfl<|.cv rfl rfl<|.nil ?_
 ·first
   |exact aw k (by simpa using f) kE.c.c.c.c.c rH
   |exact aw l (by rw[acJ (by have:=aZ A;omega)];exact p) kE.c.c.c.c.c rH
 refine .skip ?_
 ·first
   |exact aw k (by simpa using f) kE.c.c.c.c.c rH
   |exact aw l (by rw[acJ (by have:=aZ A;omega)];exact p) kE.c.c.c.c.c rH
 intro x Q
 revert x
 intro n U
 have a6:=U.aB
 refine aF<|.seq<|.sr<|.fa rfl<|.lo rfl<|.q (.db r) ?_
 refine .q .gtr<|.zn ?_
 refine bj.cut (X:=Value) (λw=>RS d 7 bc.enc w (no.take 34)) (λw=>[(0,v),(1,.int .i64 1),(5,sZ),(6,.int .i64 0),(7,pT m)]) (λw=>[bl m (fc n w g) 103,[]]) ?_ ?_
 refine .cond rfl (λB=>?_) λB=>?_
 refine .region<|.fa rfl<|.lo rfl ?_
 refine .iK (R':=d) 0 34 r rfl ⟨_,rfl⟩ (by omega) (by have:=bn B;omega) (λk f=>?_)
 have W:=f.aB
 refine .fa rfl<|.cv rfl rfl<|.nil ?_
 ·first
   |exact aw k (by simpa using f) kE.c.c.c.c.c rH
   |exact aw j (by rw[acJ (by have:=aZ B;omega)];exact r) kE.c.c.c.c.c rH
 refine .skip ?_
 ·first
   |exact aw k (by simpa using f) kE.c.c.c.c.c rH
   |exact aw j (by rw[acJ (by have:=aZ B;omega)];exact r) kE.c.c.c.c.c rH
 intro x Q
 revert x
 intro s V
 have a7:=V.aB
 refine aF<|.seq<|.sr<|.fa rfl<|.lo rfl<|.q (.db o) ?_
 refine .q .gtr<|.zn ?_
 refine bj.cut (X:=Value) (λw=>RS d 8 cg.enc w (cs.take 34)) (λw=>[(0,v),(1,.int .i64 1),(5,sZ),(6,.int .i64 0),(7,pT m)]) (λw=>[bl m (fc n s w) 103,[]]) ?_ ?_
 refine .cond rfl (λC=>?_) λC=>?_
 refine .region<|.fa rfl<|.lo rfl ?_
 refine .iK (R':=d) 0 34 o rfl ⟨_,rfl⟩ (by omega) (by have:=bn C;omega) (λk f=>?_)
 have W:=f.aB
 refine .fa rfl<|.cv rfl rfl<|.nil ?_
 ·first
   |exact aw k (by simpa using f) kE.c.c.c.c.c rH
   |exact aw g (by rw[acJ (by have:=aZ C;omega)];exact o) kE.c.c.c.c.c rH
 refine .skip ?_
 ·first
   |exact aw k (by simpa using f) kE.c.c.c.c.c rH
   |exact aw g (by rw[acJ (by have:=aZ C;omega)];exact o) kE.c.c.c.c.c rH
 intro x Q
 revert x
 intro G S
 have a5:=S.aB
 have a0:cq (fc n s G):=na n s G
 refine aF<|.region<|.mo rfl<|.q (.aD rfl) ?_
 refine .gh (λa1=>?_)
 refine .append (OS.nil (E:=103) (sz:=12) (enc:=jM)) (RS.lits (xs:=[fc n s G]) rfl (by simp[fc]) (by have:=a0.h;simpa using this)) (by simp) (λv9 Y O=>?_)
 have Z:=O.aB
 refine .ag rfl<|.nil<|bd<|aF<|.region<|.mo rfl ?_
 refine .ia (0+1) .add ?_
 refine .ag rfl<|.nil ?_
 ·exact aT (1,v9,Y) ⟨Z,.inr ⟨rfl,n,s,G,by simpa using O,U,V,S⟩⟩ (by simp) kE.c.c.c.c (cu [2])
 refine .exit<|aU<|aY<|aW<|aF<|.sr<|.mo rfl<|.az rfl ?_
 refine .ret (ba _ (.one (.tmp rfl)) (.one [0] _) ?_)
 ·have M:i≠0:=by
   first
    |(have:=aZ e;simp at this;omega)
    |(have:=aZ H;omega)
  obtain⟨_,a,b,c,I,J,K,L⟩:=F.resolve_left (λD=>M D.1)
  exact⟨N,by simp[take],a,b,c,I,J,K,L⟩
 refine .gF e<|.gF e<|.gF e<|.q (.bW e) ?_
 refine .zn<|.bD<|.exit<|aU<|aY<|aW<|aF<|.sr<|.mo rfl<|.az rfl ?_
 refine .ret (ba _ (.one (.tmp rfl)) (.one [0] _) ?_)
 ·have M:i≠0:=by
   first
    |(have:=aZ e;simp at this;omega)
    |(have:=aZ H;omega)
  obtain⟨_,a,b,c,I,J,K,L⟩:=F.resolve_left (λD=>M D.1)
  exact⟨N,by simp[take],a,b,c,I,J,K,L⟩
def c5(o:cC)(cr:CR)(vs vx vy:Value)(tx:ByteArray)(a b c:Value):List Value:=[.int .i64 o.kind,.int .i64 o.n,.string cr.id,.string cr.dc,cr.vu,cr.vs,.string (short o.user 40),.string (short o.id 40),.string (short o.dc 70),.string (short o.uri 210),vs,.string (short o.word 140),.string tx,vx,vy,a,b,c,.int .u64 (o.rev:Nat)]
theorem ox(o:cC)(d:CR)(vs e f:Value)(g:ByteArray)(a b c:Value) [One d.vu] [One d.vs] [One vs] [One e] [One f] [One a] [One b] [One c]:cq (c5 o d vs e f g a b c):=by unfold c5;infer_instance
theorem pM(w:OW)(o:cC)(R:aC)(h:eC R w o):Spec prog 11 [.agg (cI w o).toArray] R [] λu H'=>∃T,H'=[T]/\∃w',u=.agg (cI w' o.cd).toArray/\eC (sg T) w' o.cd:=by
  have i1:cq (cI w o):=⟨h.cL⟩
  obtain⟨⟨a7,a8,vu,a9⟩,vs,vx,vy,vm,vn,vc⟩:=w
  have hc:ek R ⟨a7,a8,vu,a9⟩ o.cl:=h.c
  have hs:RS R 1 cR vs o.scopes:=h.s
  have hx:RS R 1 ca vx o.x:=h.x
  have hy:RS R 1 ca vy o.y:=h.y
  have hm:RS R 7 bc.enc vm o.cj:=h.m
  have hn:RS R 7 bc.enc vn o.no:=h.n
  have hg:RS R 8 cg.enc vc o.cs:=h.g
  have j7:=hc.u.aB
  have j8:=hc.s.aB
  simp only at j7 j8
  clear h
  obtain⟨q1,k1,rfl⟩:=hs.val
  obtain⟨q2,k2,rfl⟩:=hx.val
  obtain⟨q3,k3,rfl⟩:=hy.val
  obtain⟨q4,k4,rfl⟩:=hm.val
  obtain⟨q5,k5,rfl⟩:=hn.val
  obtain⟨q6,k6,rfl⟩:=hg.val
  refine Spec.body func11 rfl results11 ntmps11 rfl ?_
  refine .sr ?_
  refine .cK rfl (λb1=>?_)
  refine .cZ (λF=>?_)
  refine .z<|.fa rfl<|.q (.loadT rfl) ?_
  refine .fa rfl<|.lo rfl<|.fa rfl<|.lo rfl<|.fa rfl<|.lo rfl<|.fa rfl<|.lo rfl<|.fa rfl<|.lo rfl<|.fa rfl<|.lo rfl<|.fa rfl<|.lo rfl<|.fa rfl<|.lo rfl<|.fa rfl<|.lo rfl ?_
  refine .q .dA ?_
  refine .bS (Dk ⟨⟨a7,a8,vu,a9⟩,.slice q1 o.scopes.length k1,.slice q2 o.x.length k2,.slice q3 o.y.length k3⟩ ⟨0,0,o.cl,o.user,o.id,o.dc,o.uri,o.scopes,o.word,o.text,o.x,o.y,0⟩ _ ⟨hc.mono λb o e=>.inl e,hs.rx,hx.rx,hy.rx⟩) (λu l r=>?_)
  obtain⟨⟨⟨v,A,D,C⟩,b0,b6,b7⟩,rfl,V⟩:=r
  have a3:ek (sg l) ⟨v,A,D,C⟩ o.cl.short:=V.1
  have a4:RS (sg l) 1 cR b0 (texts o.scopes 6 40):=V.2.1
  have a5:RS (sg l) 1 ca b6 (o.x.take 30):=V.2.2.1
  have a6:RS (sg l) 1 ca b7 (o.y.take 30):=V.2.2.2
  have ir:cq (jt ⟨⟨v,A,D,C⟩,b0,b6,b7⟩ (OC.cd ⟨0,0,o.cl,o.user,o.id,o.dc,o.uri,o.scopes,o.word,o.text,o.x,o.y,0⟩)):=⟨V.cL⟩
  have r7:=a3.u.aB
  have r8:=a3.s.aB
  simp only at r7 r8
  have r1:=a4.aB
  have r2:=a5.aB
  have r3:=a6.aB
  clear V
  obtain⟨Q,M,rfl⟩:=a4.val
  obtain⟨S,N,rfl⟩:=a5.val
  obtain⟨U,O,rfl⟩:=a6.val
  refine .cZ (λb3=>?_)
  refine .cW rfl rfl<|.z ?_
  conv=>arg 8;simp only[cx,jt,OC.cd]
  refine .fa rfl<|.lo rfl<|.fa rfl<|.lo rfl<|.fa rfl<|.lo rfl ?_
  refine .q .dA ?_
  refine .gh (λc0=>?_)
  refine .bS (B8 _ (.slice q4 o.cj.length k4) (.slice q5 o.no.length k5) (.slice q6 o.cs.length k6) o.cj o.no o.cs _ R (RS.lits (xs:=[fc (.slice q4 o.cj.length k4) (.slice q5 o.no.length k5) (.slice q6 o.cs.length k6)]) rfl (by simp[fc]) (by simp[fc,aB])) hm hn hg) (λu TF r=>?_)
  obtain⟨a,b,c,hF,ha,e,Z⟩:=r
  have ia:=ha.aB
  have ib:=e.aB
  have ic:=Z.aB
  have c4:cq (jM (fc a b c)):=na a b c
  have c7:(o.cj.take 34).length<=34:=by simp;omega
  have c8:(o.no.take 34).length<=34:=by simp;omega
  have c6:(o.cs.take 34).length<=34:=by simp;omega
  refine .au 0 hF (show [fc a b c][0]? =some (fc a b c)from rfl) (λd0=>?_)
  refine .q (.aD rfl) ?_
  refine .cZ (λG=>?_)
  refine .cW rfl rfl<|.z<|.fa rfl<|.lo rfl<|.fa rfl<|.lo rfl<|.fa rfl<|.q (.loadT rfl) ?_
  refine .fa rfl<|.lo rfl<|.fa rfl<|.lo rfl<|.fa rfl<|.lo rfl<|.fa rfl<|.lo rfl<|.fa rfl<|.lo rfl<|.fa rfl<|.lo rfl<|.fa rfl<|.lo rfl<|.fa rfl<|.lo rfl<|.fa rfl<|.lo rfl<|.fa rfl<|.lo rfl ?_
  have c2:cq (c5 o ⟨v,A,D,C⟩ (.slice Q (texts o.scopes 6 40).length M) (.slice S (o.x.take 30).length N) (.slice U (o.y.take 30).length O) (short o.text 60) (sZ) (sZ) (sZ)):=ox _ _ _ _ _ _ _ _ _
  refine .q (.cast (v':=.agg (c5 o ⟨v,A,D,C⟩ (.slice Q (texts o.scopes 6 40).length M) (.slice S (o.x.take 30).length N) (.slice U (o.y.take 30).length O) (short o.text 60) (sZ) (sZ) (sZ)).toArray) .dA rfl) ?_
  refine .cZ (λH=>?_)
  refine .cW rfl rfl<|.zs<|.sr<|.fa rfl<|.lo rfl<|.q .cN<|.zn ?_
  refine bj.cut (X:=ByteArray) (λtx=>tx=short o.text (if o.kind=11 then 900 else 60)) (λtx=>[(1,pT b1),(2,pT F),(4,pT G),(5,pT H)]) (λtx=>[bl H (c5 o ⟨v,A,D,C⟩ (.slice Q (texts o.scopes 6 40).length M) (.slice S (o.x.take 30).length N) (.slice U (o.y.take 30).length O) tx (sZ) (sZ) (sZ)) 30,bl G (fc a b c) 103,l,bl F (cI iz jz) 30]) ?_ ?_
  refine .cond rfl (λY=>?_) λY=>?_
  refine .region<|.fa rfl<|.lo rfl ?_
  refine .br (fj o.text 900 _) (λu r=>?_)
  subst r
  refine .fa rfl<|.cv rfl rfl<|.nil ?_
  ·first
      |exact aw (short o.text 900) (by have L:o.kind=11:=by simpa using Y
                                       rw[if_pos L]) kE.c.c.c.c (cu [0,0,3,3])
      |exact aw (short o.text 60) (by have L:¬o.kind=11:=by simpa using Y
                                      rw[if_neg L]) kE.c.c.c.c (cu [0,0,3,3])
  refine .skip ?_
  ·first
      |exact aw (short o.text 900) (by have L:o.kind=11:=by simpa using Y
                                       rw[if_pos L]) kE.c.c.c.c (cu [0,0,3,3])
      |exact aw (short o.text 60) (by have L:¬o.kind=11:=by simpa using Y
                                      rw[if_neg L]) kE.c.c.c.c (cu [0,0,3,3])
  intro x hx
  refine aF<|.seq<|.sr<|.az rfl<|.block ?_
  refine .loop (X:=Nat×Value×ax) (λy=>y.1<=(o.cj.take 34).length/\OS 73 7 bc.enc y.2.1 (((o.cj.take 34).take y.1).map bc.short) y.2.2) (λy=>[(1,pT b1),(2,pT F),(4,pT G),(5,pT H),(6,iN y.1)]) (λy=>[bl H (c5 o ⟨v,A,D,C⟩ (.slice Q (texts o.scopes 6 40).length M) (.slice S (o.x.take 30).length N) (.slice U (o.y.take 30).length O) x y.2.1 (sZ) (sZ)) 30,y.2.2,bl G (fc a b c) 103,l,bl F (cI iz jz) 30]) (λy=>(o.cj.take 34).length-y.1) (0,sZ,[]) ⟨acz _,OS.nil⟩ kE.c.c.c.c.c (bJ.cY (by simp)) ?_
  rintro⟨i,J,K⟩ ⟨hi,d⟩
  simp only at hi d⊢
  have iO:=d.aB
  refine .seq<|.sr<|.mo rfl<|.fa rfl<|.lo rfl<|.q (.db ha) ?_
  refine .q .lss<|.zn ?_
  refine .cond rfl (λh2=>?_) λh2=>?_
  have I:i<(o.cj.take 34).length:=by have:=bn h2;omega
  obtain⟨z,t⟩:=eh I
  have a0:((o.cj.take 34).take (i+1)).map bc.short=((o.cj.take 34).take i).map bc.short++[z.short]:=by rw[acI,t];simp
  refine .kn<|.seq<|.block<|.sr<|.fa rfl<|.lo rfl<|.az rfl<|.region<|.mo rfl<|.fa rfl<|.lo rfl<|.mo rfl ?_
  refine .da i ha t (λd1=>?_)
  refine .q (.aD rfl) ?_
  refine .br (ob z _) (λu r=>?_)
  subst r
  refine .gh (λc1=>?_)
  refine .append d (RS.lits (xs:=[z.short]) rfl (by simp[bc.enc]) (by have:=(bc.one z.short).h;simpa using this)) (by simp;omega) (λv9 W p=>?_)
  have i9:=p.aB
  rw[<-a0]at p
  refine .fa rfl<|.cv rfl rfl<|.nil<|bd<|aF<|.region<|.mo rfl ?_
  refine .ia (i+1) .add ?_
  refine .ag rfl<|.nil ?_
  ·exact aT (i+1,v9,W) ⟨I,p⟩ (by simp only;omega) kE.c.c.c.c.c (cu [1,1,1,1,1])
  have he:i=(o.cj.take 34).length:=by have:=aZ h2;omega
  rw[he,acA]at d
  obtain⟨B,E,a1⟩:∃B E,OS 73 7 bc.enc B ((o.cj.take 34).map bc.short) E/\B=J/\E=K:=⟨J,K,d,rfl,rfl⟩
  obtain⟨a1,rfl,rfl⟩:=a1
  have iM:=a1.aB
  refine .exit<|aU<|aY<|aW<|aF<|.seq<|.sr<|.az rfl<|.block ?_
  refine .loop (X:=Nat×Value×ax) (λy=>y.1<=(o.no.take 34).length/\OS 73 7 bc.enc y.2.1 (((o.no.take 34).take y.1).map bc.short) y.2.2) (λy=>[(1,pT b1),(2,pT F),(4,pT G),(5,pT H),(8,iN y.1)]) (λy=>[bl H (c5 o ⟨v,A,D,C⟩ (.slice Q (texts o.scopes 6 40).length M) (.slice S (o.x.take 30).length N) (.slice U (o.y.take 30).length O) x B y.2.1 (sZ)) 30,y.2.2,E,bl G (fc a b c) 103,l,bl F (cI iz jz) 30]) (λy=>(o.no.take 34).length-y.1) (0,sZ,[]) ⟨acz _,OS.nil⟩ kE.c.c.c.c.c (bJ.cY (by simp)) ?_
  clear d iO
  rintro⟨j,J,K⟩ ⟨hj,d⟩
  simp only at hj d⊢
  have iO:=d.aB
  refine .seq<|.sr<|.mo rfl<|.fa rfl<|.lo rfl<|.q (.db e) ?_
  refine .q .lss<|.zn ?_
  refine .cond rfl (λh3=>?_) λh3=>?_
  have I:j<(o.no.take 34).length:=by have:=bn h3;omega
  obtain⟨z,t⟩:=eh I
  have a0:((o.no.take 34).take (j+1)).map bc.short=((o.no.take 34).take j).map bc.short++[z.short]:=by rw[acI,t];simp
  refine .kn<|.seq<|.block<|.sr<|.fa rfl<|.lo rfl<|.az rfl<|.region<|.mo rfl<|.fa rfl<|.lo rfl<|.mo rfl ?_
  refine .da j e t (λc9=>?_)
  refine .q (.aD rfl) ?_
  refine .br (ob z _) (λu r=>?_)
  subst r
  refine .gh (λb8=>?_)
  refine .append d (RS.lits (xs:=[z.short]) rfl (by simp[bc.enc]) (by have:=(bc.one z.short).h;simpa using this)) (by simp;omega) (λv9 W p=>?_)
  have i9:=p.aB
  rw[<-a0]at p
  refine .fa rfl<|.cv rfl rfl<|.nil<|bd<|aF<|.region<|.mo rfl ?_
  refine .ia (j+1) .add ?_
  refine .ag rfl<|.nil ?_
  ·exact aT (j+1,v9,W) ⟨I,p⟩ (by simp only;omega) kE.c.c.c.c.c (cu [1,1,1,1,1,1])
  have he:j=(o.no.take 34).length:=by have:=aZ h3;omega
  rw[he,acA]at d
  obtain⟨vN,TN,a2⟩:∃B E,OS 73 7 bc.enc B ((o.no.take 34).map bc.short) E/\B=J/\E=K:=⟨J,K,d,rfl,rfl⟩
  obtain⟨a2,rfl,rfl⟩:=a2
  have iNn:=a2.aB
  refine .exit<|aU<|aY<|aW<|aF<|.seq<|.sr<|.az rfl<|.block ?_
  refine .loop (X:=Nat×Value×ax) (λy=>y.1<=(o.cs.take 34).length/\OS 76 8 cg.enc y.2.1 (((o.cs.take 34).take y.1).map cg.short) y.2.2) (λy=>[(1,pT b1),(2,pT F),(4,pT G),(5,pT H),(10,iN y.1)]) (λy=>[bl H (c5 o ⟨v,A,D,C⟩ (.slice Q (texts o.scopes 6 40).length M) (.slice S (o.x.take 30).length N) (.slice U (o.y.take 30).length O) x B vN y.2.1) 30,y.2.2,TN,E,bl G (fc a b c) 103,l,bl F (cI iz jz) 30]) (λy=>(o.cs.take 34).length-y.1) (0,sZ,[]) ⟨acz _,OS.nil⟩ kE.c.c.c.c.c (bJ.cY (by simp)) ?_
  clear d iO
  rintro⟨k,J,K⟩ ⟨hk,d⟩
  simp only at hk d⊢
  have iO:=d.aB
  refine .seq<|.sr<|.mo rfl<|.fa rfl<|.lo rfl<|.q (.db Z) ?_
  refine .q .lss<|.zn ?_
  refine .cond rfl (λh4=>?_) λh4=>?_
  have I:k<(o.cs.take 34).length:=by have:=bn h4;omega
  obtain⟨⟨zp,zt⟩,t⟩:=eh I
  have a0:((o.cs.take 34).take (k+1)).map cg.short=((o.cs.take 34).take k).map cg.short++[cg.short ⟨zp,zt⟩]:=by rw[acI,t];simp
  have pz:PC R (eD c (k*8)) (cg.enc ⟨zp,zt⟩):=Z.pc t
  refine .kn<|.seq<|.block<|.sr<|.fa rfl<|.lo rfl<|.az rfl<|.bK [16,18] mixed ?_
  refine .tO 0 rfl .move<|.tO 1 rfl (.fieldAddr rfl)<|.tO 2 rfl (.bN rfl)<|.tO 3 rfl .move ?_
  refine .tO 4 rfl (.da k Z t rfl rfl rfl) ?_
  refine .tO 5 rfl (.fieldAddr rfl)<|.tO 6 rfl (.bN rfl)<|.tO 7 rfl (.fieldAddr rfl)<|.tO 8 rfl (.bN rfl)<|.tO 9 rfl .move ?_
  refine .tO 10 rfl (.da k Z t rfl rfl rfl) ?_
  refine .tO 11 rfl (.fieldAddr rfl) ?_
  refine .tO 12 rfl (.loadT rfl) ?_
  refine .sT 13 rfl ?_
  refine .br (ob zt _) (λu r=>?_)
  subst r
  refine .nil (Next.sub ?_)
  refine .tO 14 rfl .dA ?_
  refine .sT 15 rfl ?_
  refine .gh (λb9=>?_)
  refine .nil (Next.sub ?_)
  refine .sT 16 rfl ?_
  refine .append d (RS.lits (xs:=[cg.short ⟨zp,zt⟩]) rfl (by simp[cg.enc,bc.enc]) (by have:=(cg.one (cg.short ⟨zp,zt⟩)).h;simpa using this)) (by simp;omega) (λv9 W p=>?_)
  have i9:=p.aB
  rw[<-a0]at p
  refine .nil (Next.mod rfl ?_)
  refine .tK 17 rfl (.dB rfl) ?_
  refine .sT 18 rfl ?_
  refine .cv rfl rfl ?_
  refine .nil (Next.mod rfl ?_)
  refine RA.nil (by kernel_rfl) ?_
  refine bd<|aF<|.region<|.mo rfl ?_
  refine .ia (k+1) .add ?_
  refine .ag rfl<|.nil ?_
  ·exact aT (k+1,v9,W) ⟨I,p⟩ (by simp only;omega) kE.c.c.c.c.c (cu [1,1,1,1,1,1,1])
  have he:k=(o.cs.take 34).length:=by have:=aZ h4;omega
  rw[he,acA]at d
  have c3:=ox o ⟨v,A,D,C⟩ (.slice Q (texts o.scopes 6 40).length M) (.slice S (o.x.take 30).length N) (.slice U (o.y.take 30).length O) x B vN J
  refine .exit<|aU<|aY<|aW<|aF<|.sr<|.q (.aD rfl)<|.cW rfl rfl<|.zn ?_
  refine .ret (ba _ (.one (.fk rfl rfl)) (.one [1,1,1,2] _) ?_)
  ·subst hx
   refine⟨_,rfl,⟨⟨v,A,D,C⟩,_,_,_,B,vN,J⟩,rfl,⟨?_,?_,?_,?_,?_,?_,?_⟩⟩
   ·exact a3.mono λb o e=>by have f:(b,o)∈l:=e;simp[sg,take,bF,f]
   ·exact a4.mono λb o e=>by have f:(b,o)∈l:=e;simp[sg,take,bF,f]
   ·exact a5.mono λb o e=>by have f:(b,o)∈l:=e;simp[sg,take,bF,f]
   ·exact a6.mono λb o e=>by have f:(b,o)∈l:=e;simp[sg,take,bF,f]
   ·exact a1.sg.mono λb o e=>by have f:(b,o)∈E:=e;simp[sg,take,bF,f]
   ·exact a2.sg.mono λb o e=>by have f:(b,o)∈TN:=e;simp[sg,take,bF,f]
   ·exact d.sg.mono λb o e=>by have f:(b,o)∈K:=e;simp[sg,take,bF,f]
theorem CN(w:OW)(o:cC)(R:aC)(h:eC R w o):Spec prog 7 [.agg (cI w o).toArray] R [] λu H'=>∃T,H'=[T]/\∃w',u=.agg (cI w' o.cd).toArray/\eC (sg T) w' o.cd:=by
 have Z:cq (cI w o):=⟨h.cL⟩
 refine Spec.body func7 rfl results7 ntmps7 rfl ?_
 refine .sr ?_
 refine .cK rfl (λW=>?_)
 refine .cZ (λX=>?_)
 refine .z<|.q (.aD rfl) ?_
 refine .bS (pM w o _ (h.mono λb o t=>.inl t)) (λu r A=>?_)
 obtain⟨p,rfl,a⟩:=A
 have v:=a
 have ir:cq (cI p o.cd):=⟨a.cL⟩
 obtain⟨⟨Q,S,V,U⟩,vs,vx,vy,vm,vn,vc⟩:=p
 have d:=a.c
 have j:=a.s
 have k:=a.x
 have l:=a.y
 have f:=a.m
 have i:=a.n
 have e:=a.g
 simp only at d j k l f i e
 have B:=d.u.aB
 have C:=d.s.aB
 simp only at B C
 obtain⟨J,D,rfl⟩:=j.val
 obtain⟨K,E,rfl⟩:=k.val
 obtain⟨L,F,rfl⟩:=l.val
 obtain⟨M,G,rfl⟩:=f.val
 obtain⟨N,H,rfl⟩:=i.val
 obtain⟨O,I,rfl⟩:=e.val
 refine .cZ (λY=>?_)
 refine .cW rfl rfl<|.z ?_
 conv=>arg 8;simp only[cx,cI]
 refine .fa rfl<|.lo rfl<|.fa rfl<|.lo rfl<|.fa rfl<|.q (.loadT rfl) ?_
 refine .fa rfl<|.lo rfl<|.fa rfl<|.lo rfl<|.fa rfl<|.lo rfl<|.fa rfl<|.lo rfl<|.fa rfl<|.lo rfl<|.fa rfl<|.lo rfl<|.fa rfl<|.lo rfl<|.fa rfl<|.lo rfl<|.fa rfl<|.lo rfl<|.fa rfl<|.lo rfl<|.fa rfl<|.lo rfl<|.fa rfl<|.lo rfl<|.fa rfl<|.lo rfl ?_
 refine .q (.dA (out:=cI ⟨⟨Q,S,V,U⟩,.slice J o.cd.scopes.length D,.slice K o.cd.x.length E,.slice L o.cd.y.length F,.slice M o.cd.cj.length G,.slice N o.cd.no.length H,.slice O o.cd.cs.length I⟩ o.cd) rfl (by simp[ey,cx,cI])) ?_
 refine .cW rfl rfl<|.zn ?_
 refine .ret (ba _ (.one (.fk rfl rfl)) (.one [1] _) ?_)
 ·exact⟨r,by simp[take,bF],_,rfl,v⟩
theorem Dn(w:OW)(o:cC)(R:aC){R':aC}(h:eC R' w o):Spec prog 12 [.agg (cI w o).toArray] R [] λu H'=>u=.agg (cI w o).toArray/\H'=[]:=by
 have O:cq (cI w o):=⟨h.cL⟩
 obtain⟨⟨I,J,L,K⟩,U,V,W,S,T,Q⟩:=w
 have a:=h.c
 have f:=h.s
 have i:=h.x
 have j:=h.y
 have d:=h.m
 have e:=h.n
 have b:=h.g
 simp only at a f i j d e b
 have k:=a.u.aB
 have l:=a.s.aB
 simp only at k l
 obtain⟨C,p,rfl⟩:=f.val
 obtain⟨D,r,rfl⟩:=i.val
 obtain⟨E,t,rfl⟩:=j.val
 obtain⟨F,v,rfl⟩:=d.val
 obtain⟨G,A,rfl⟩:=e.val
 obtain⟨H,B,rfl⟩:=b.val
 refine Spec.body func12 rfl results12 ntmps12 rfl ?_
 refine .sr ?_
 refine .cK rfl (λM=>?_)
 refine .cZ (λN=>?_)
 refine .z<|.fa rfl<|.lo rfl<|.fa rfl<|.lo rfl<|.fa rfl<|.q (.loadT rfl) ?_
 refine .fa rfl<|.lo rfl<|.fa rfl<|.lo rfl<|.fa rfl<|.lo rfl<|.fa rfl<|.lo rfl<|.fa rfl<|.lo rfl<|.fa rfl<|.lo rfl<|.fa rfl<|.lo rfl<|.fa rfl<|.lo rfl<|.fa rfl<|.lo rfl<|.fa rfl<|.lo rfl<|.fa rfl<|.lo rfl<|.fa rfl<|.lo rfl<|.fa rfl<|.lo rfl ?_
 refine .q (.dA (out:=cI ⟨⟨I,J,L,K⟩,.slice C o.scopes.length p,.slice D o.x.length r,.slice E o.y.length t,.slice F o.cj.length v,.slice G o.no.length A,.slice H o.cs.length B⟩ o) rfl (by simp[ey,cx,cI])) ?_
 refine .cW rfl rfl<|.zn ?_
 refine .ret (ba _ (.one (.fk rfl rfl)) (.none _) ?_)
 ·exact⟨rfl,rfl⟩
theorem q0(m:Int):∃k:Int,IntKind.i64.wrap ((BitVec.ofInt IntKind.i64.bits m&&&BitVec.ofInt IntKind.i64.bits 255).toNat:Int)=k/\0<=k/\k<=255:=by
 have h:(BitVec.ofInt IntKind.i64.bits m&&&BitVec.ofInt IntKind.i64.bits 255).toNat<=255:=by
  rw[BitVec.toNat_and]
  exact Nat.le_trans Nat.and_le_right (by decide)
 exact⟨_,IntWalk.i64_in _ (by omega),by omega,by omega⟩
theorem C6(a2:∀R:aC,Spec prog 13 [] R [] λu H'=>u=.bool true/\H'=[])(w:OW)(o:cC)(R:aC)(h:eC R w o)(J: -9223372036854775808<=o.n/\o.n<=9223372036854775807)(v:o.rev<bP):
  Spec prog 3 [.agg (cI w o).toArray] R [] λu H'=>u=.bool true/\H'=[]:=by
 have i1:cq (cI w o):=⟨h.cL⟩
 obtain⟨k0,n,C,U,L,Q,T,O,X,S,x,y,M,N,D,rev⟩:=o
 simp only at J v
 refine Spec.body func3 rfl results3 ntmps3 rfl ?_
 refine .sr ?_
 refine .cK rfl (λb1=>?_)
 refine .ag rfl<|.z<|.fa rfl<|.lo rfl ?_
 obtain⟨k,hk,a0,a1⟩:=q0 k0
 refine .q (.cast (v':=.int .i64 k) (.jH rfl rfl) (acG (Value.int .i64) hk)) ?_
 refine .fa rfl<|.cv rfl rfl<|.z ?_
 obtain⟨a,j⟩:∃a:cC,a=⟨k,n,C,U,L,Q,T,O,X,S,x,y,M,N,D,rev⟩:=⟨_,rfl⟩
 have r:eC R w a:=by subst j;exact⟨h.c,h.s,h.x,h.y,h.m,h.n,h.g⟩
 have i2:cq (cI w a):=⟨r.cL⟩
 have g2:a.cd.nj:=by subst j;exact cC.rk (o:=⟨k,n,C,U,L,Q,T,O,X,S,x,y,M,N,D,rev⟩) ⟨a0,a1⟩ J v
 have p:a.rev<bP:=by subst j;exact v
 have l2:(fR a.cd).length<=60000:=sl p
 have K:iG (fR a.cd)=some (a.cd,[]):=(rT.h _ _ []).2 ⟨by simp,g2⟩
 refine .sub (H':=[bl b1 (cI w a) 30]) (by subst j;exact bJ.refl _) ?_
 refine .q (.aD rfl) ?_
 refine .bS (CN w a _ (r.mono λb o e=>.inl e)) (λu Y d=>?_)
 obtain⟨V,rfl,E⟩:=d
 have i3:cq (cI V a.cd):=⟨E.cL⟩
 refine .bS (sm V a.cd _ (E.mono λb o e=>.inr (by have i:(b,o)∈Y:=e;simp[i])) p (by omega)) (λA T3 l=>?_)
 have a3:=l.aB
 refine .ag rfl<|.z<|.mo rfl ?_
 refine .bS (r5 A _ _ l.rx (by omega)) (λu Z d=>?_)
 obtain⟨B,o4,e4,rfl,t,I⟩:=d
 obtain⟨rfl,rfl⟩:e4=0/\o4=a.cd:=by
  rcases I with⟨h8,f⟩|⟨_,_,f⟩
  ·rw[K]at f
   simp only[Option.some.injEq,Prod.mk.injEq,and_true]at f
   exact⟨h8,f.symm⟩
  ·exact absurd K (f _)
 have i4:cq (cI B a.cd):=⟨t.cL⟩
 clear I
 refine .mo rfl<|.q .extract<|.q .extract ?_
 refine .cZ (λb4=>?_)
 refine .cW rfl rfl<|.ag rfl<|.z<|.mo rfl<|.q (.aD rfl) ?_
 refine .bS (pM w a _ (r.mono λb o e=>.inl e)) (λu T5 d=>?_)
 obtain⟨W,rfl,F⟩:=d
 have i5:cq (cI W a.cd):=⟨F.cL⟩
 refine .bS (oI W a.cd _ (F.mono λb o e=>.inr (by have i:(b,o)∈T5:=e;simp[i])) p (by omega)) (λu6 T6 G=>?_)
 have a4:=G.aB
 refine .br (qd A u6 _ _ _ l.rx G.rx) (λu d=>?_)
 rw[decide_eq_true rfl]at d
 subst d
 refine .mo rfl<|.gt rfl ?_
 refine .mo rfl<|.gt rfl ?_
 refine .q (.cast (v':=.bool true) .cN rfl) ?_
 refine .q .fV<|.mo rfl<|.gt rfl ?_
 refine .q (.aD rfl)<|.gt rfl ?_
 refine .br (Dn B a.cd _ t) (λu d=>?_)
 subst d
 refine .gt rfl ?_
 refine .bS (oI B a.cd _ (t.mono λb o e=>.inr (by have i:(b,o)∈Z:=e;simp[i])) p (by omega)) (λu7 T7 H=>?_)
 have a5:=H.aB
 refine .gt rfl ?_
 refine .mo rfl<|.gt rfl ?_
 refine .br (qd u7 A _ _ _ H.rx l.rx) (λu d=>?_)
 rw[decide_eq_true rfl]at d
 subst d
 refine .q .fV<|.mo rfl<|.gt rfl ?_
 refine .br (a2 _) (λu d=>?_)
 subst d
 refine .q .fV<|.az rfl ?_
 refine .ret (cw rfl ?_)
 ·exact⟨rfl,rfl⟩
end Go.Proofs.YtgppncmdpcefhaaGreatDoor
