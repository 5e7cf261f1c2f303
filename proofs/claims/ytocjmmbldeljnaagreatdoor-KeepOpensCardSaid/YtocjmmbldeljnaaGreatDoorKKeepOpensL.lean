/- What the law 'KeepOpens' uses. No condition. -/
import Derived.Test.YtocjmmbldeljnaaGreatDoorKKeepOpensJ
import Derived.Test.YtocjmmbldeljnaaGreatDoorKKeepOpensK
set_option linter.unusedSimpArgs false
set_option linter.unusedVariables false
namespace Go.Proofs.YtocjmmbldeljnaaGreatDoor
set_option linter.defProp false
def adK:=@List.length_append
def adL:=@List.getD_cons_zero
def adM:=@List.getD_cons_succ
def adN:=@List.cons_append
def adO:=@List.nil_append
def adP:=@List.length_nil
def adQ:=@Nat.zero_le
def adR:=@List.take_length
def adS:=@List.take_of_length_le
def adT:=@List.take_add_one
def adU:=@List.append_assoc
open Tryz
set_option linter.unusedVariables false
set_option linter.unusedSimpArgs false
set_option maxRecDepth 4000
structure OW where
 cr:CR
 vs:Value
 vx:Value
 vy:Value
 vm:Value
 vn:Value
 vc:Value
def dq(w:OW)(o:eT):List Value:=[.int .i64 o.kind,.int .i64 o.n,.string w.cr.id,.string w.cr.cL,w.cr.vu,w.cr.vs,.string o.user,.string o.id,.string o.cL,.string o.uri,w.vs,.string o.word,.string o.text,w.vx,w.vy,w.vm,w.vn,w.vc,.int .u64 (o.rev:Nat)]
structure fO(R:ao)(w:OW)(o:eT):Prop where
 c:eG R w.cr o.cl
 s:RS R 1 bL w.vs o.scopes
 x:RS R 1 bS w.vx o.x
 y:RS R 1 bS w.vy o.y
 m:RS R 7 aZ.enc w.vm o.cS
 n:RS R 7 aZ.enc w.vn o.no
 g:RS R 8 cj.enc w.vc o.cs
theorem fO.mono{R R':ao}{w:OW}{o:eT}(h:fO R w o)(a:∀b x,R b x->R' b x):fO R' w o:=⟨h.c.mono a,h.s.mono a,h.x.mono a,h.y.mono a,h.m.mono a,h.n.mono a,h.g.mono a⟩
theorem fO.bU{R:ao}{w:OW}{o:eT}(h:fO R w o):∀u∈dq w o,ay u=true:=by
 have b:=h.s.ay.h
 have d:=h.x.ay.h
 have e:=h.y.ay.h
 have f:=h.m.ay.h
 have i:=h.n.ay.h
 have j:=h.g.ay.h
 have k:=h.c.u.ay.h
 have l:=h.c.s.ay.h
 intro u a
 simp only[dq,List.mem_cons,List.not_mem_nil,or_false]at a
 rcases a with rfl|rfl|rfl|rfl|rfl|rfl|rfl|rfl|rfl|rfl|rfl|rfl|rfl|rfl|rfl|rfl|rfl|rfl|rfl<;>first|rfl|assumption
theorem qh{α:Type}{enc:α->List UInt8}{l:List α}{i:Nat}{z:α}(h:l[i]? =some z):(l.take (i+1)).flatMap enc=(l.take i).flatMap enc++enc z:=by
 rw[adT,h];simp
theorem qi{α:Type}{enc:α->List UInt8}{l:List α}(i:Nat):((l.take i).flatMap enc).length<=(l.flatMap enc).length:=by
 conv=>rhs;rw[<-List.take_append_drop i l]
 rw[List.flatMap_append,adK];omega
theorem ti(b:Nat)(xs:List UInt8)(T:au)(h:dJ b xs T)(v:Value)(l:List ByteArray)(R:ao)(d:RS R 1 bL v l)(n:(xs++eC dF l).length<=1000000000000):Spec prog 170 [pT b,v] R [T] λu H'=>∃T',H'=[T']/\dJ b (xs++eC dF l) T':=by
 have D:=d.ay
 have C:=d.le
 unfold eC at n
 simp only[adK]at n
 have o:l.length<cm:=by unfold cm;omega
 refine Spec.body func170 rfl results170 ntmps170 rfl ?_
 refine .sr<|.mo rfl<|.mo rfl<|.q (.cv d) ?_
 refine .q (.fU (a:=l.length) rfl o) ?_
 refine .aT (fV b xs T h l.length o (by omega) _) (λu s g=>?_)
 obtain⟨rfl,w⟩:=g
 refine .z<|.mo rfl<|.q (.cv d) ?_
 refine .mo rfl<|.zn<|.block ?_
 refine .loop (X:=Nat×au) (λy=>y.1<=l.length/\dJ b (xs++put l.length++(l.take y.1).flatMap dF) y.2) (λy=>[(0,pT b),(11,v),(12,iN l.length),(13,iN y.1)]) (λy=>[y.2]) (λy=>l.length-y.1) (0,s) ⟨adQ _,by simpa using w⟩ kE.c.c.c.c rH ?_
 rintro⟨i,j⟩ ⟨B,e⟩
 simp only at B e⊢
 refine .sr<|.q .lss<|.zs ?_
 refine .cond rfl (λf=>?_) λf=>?_
 have p:i<l.length:=fg f
 obtain⟨z,r⟩:=dM p
 have k:=qh (enc:=dF) r
 have m:=qi (enc:=dF) (l:=l) (i+1)
 rw[k]at m
 simp only[adK]at m
 refine .kn<|.seq<|.block<|.sr ?_
 refine .cB i d r (λE=>?_)
 refine .lo rfl<|.az rfl<|.region<|.mo rfl<|.mo rfl ?_
 refine .aT (iF b _ j e z _ (by simp only[adK];omega)) (λu t g=>?_)
 obtain⟨rfl,x⟩:=g
 refine .nil<|bz<|aG<|.region ?_
 refine .ia (i+1) .add ?_
 refine .mo rfl<|.nil ?_
 ·exact br (i+1,t) ⟨p,by simp only;rw[k, <-adU];exact x⟩ (by simp only;omega) kE.c.c.c.c rH
 have A:i=l.length:=by have:=ba f;omega
 rw[A,adR,adU]at e
 refine .exit<|bk<|bw<|bq<|dc _ .none (.one [0] _) ?_
 ·exact⟨j,by simp[take],e⟩
theorem xJ(b:Nat)(xs:List UInt8)(T:au)(h:dJ b xs T)(t:aZ)(R:ao)(s:(xs++fA t).length<=1000000000000):Spec prog 185 [pT b,.agg t.enc.toArray] R [T] λu H'=>∃T',H'=[T']/\dJ b (xs++fA t) T':=by
 obtain⟨w,v,x,C,B,y,A⟩:=t
 simp only[fA,adK]at s
 refine Spec.body func185 rfl results185 ntmps185 rfl ?_
 refine .sr ?_
 refine .cc rfl (λD=>?_)
 refine .z<|.fa rfl<|.q (.loadT rfl) ?_
 refine .cn (λE=>?_)
 refine .bZ rfl rfl<|.zn<|.nZ [2] [4,8,11,14,18,22,25] mixed ?_
 conv=>arg 3;simp only[take,rest,bf,adL,adM]
 conv=>arg 5;simp only[take,rest,bf,adL,adM]
 conv=>arg 9;simp only[take,rest,bf,adL,adM]
 refine .tO 0 rfl .move<|.tO 1 rfl (.fieldAddr rfl)<|.tO 2 rfl (.fieldAddr rfl)<|.tO 3 rfl (.bo rfl) ?_
 refine .tK 5 rfl (.dU rfl) ?_
 refine .tK 6 rfl (.dU rfl) ?_
 refine .tK 7 rfl (.bo rfl) ?_
 refine .tK 9 rfl (.dU rfl) ?_
 refine .tK 10 rfl (.bo rfl) ?_
 refine .tK 12 rfl (.dU rfl) ?_
 refine .tK 13 rfl (.bo rfl) ?_
 refine .tK 15 rfl (.dU rfl) ?_
 refine .tK 16 rfl (.dU rfl) ?_
 refine .tK 17 rfl (.bo rfl) ?_
 refine .tK 19 rfl (.dU rfl) ?_
 refine .tK 20 rfl (.dU rfl) ?_
 refine .tK 21 rfl (.bo rfl) ?_
 refine .tK 23 rfl (.dU rfl) ?_
 refine .tK 24 rfl (.bo rfl) ?_
 refine .sT 4 rfl ?_
 refine .aT (iF b xs T h w _ (by simp only[adK];omega)) (λu c a=>?_)
 obtain⟨rfl,k⟩:=a
 refine .nil (Next.mod rfl ?_)
 refine .sT 8 rfl ?_
 refine .aT (iF b _ c k v _ (by simp only[adK];omega)) (λu d a=>?_)
 obtain⟨rfl,l⟩:=a
 refine .nil (Next.mod rfl ?_)
 refine .sT 11 rfl ?_
 refine .aT (iF b _ d l x _ (by simp only[adK];omega)) (λu e a=>?_)
 obtain⟨rfl,m⟩:=a
 refine .nil (Next.mod rfl ?_)
 refine .sT 14 rfl ?_
 refine .aT (iF b _ e m C _ (by simp only[adK];omega)) (λu f a=>?_)
 obtain⟨rfl,n⟩:=a
 refine .nil (Next.mod rfl ?_)
 refine .sT 18 rfl ?_
 refine .aT (iF b _ f n B _ (by simp only[adK];omega)) (λu g a=>?_)
 obtain⟨rfl,o⟩:=a
 refine .nil (Next.mod rfl ?_)
 refine .sT 22 rfl ?_
 refine .aT (iF b _ g o y _ (by simp only[adK];omega)) (λu i a=>?_)
 obtain⟨rfl,p⟩:=a
 refine .nil (Next.mod rfl ?_)
 refine .sT 25 rfl ?_
 refine .aT (iF b _ i p A _ (by simp only[adK];omega)) (λu j a=>?_)
 obtain⟨rfl,r⟩:=a
 refine .nil (Next.mod rfl ?_)
 refine RA.nil (by kernel_rfl) ?_
 refine dc _ .none (.one [0] _) ?_
 ·exact⟨j,by simp[take],by simpa[fA]using r⟩
theorem Oi(b:Nat)(xs:List UInt8)(T:au)(h:dJ b xs T)(r:CR)(c:bP)(R:ao)(g:eG R r c)(q:(xs++lI c).length<=1000000000000):Spec prog 73 [pT b,.agg r.cells.toArray] R [T] λu H'=>∃T',H'=[T']/\dJ b (xs++lI c) T':=by
 have w:bI r.cells:=⟨g.bU⟩
 obtain⟨z,A,t,s⟩:=r
 obtain⟨e,f,a,d⟩:=g
 simp only at e f a d
 subst e;subst f
 have x:=a.ay
 have y:=d.ay
 simp only[lI,adK]at q
 refine Spec.body func73 rfl results73 ntmps73 rfl ?_
 refine .sr ?_
 refine .cc rfl (λv=>?_)
 refine .zs<|.nZ [1] [3,6] mixed ?_
 conv=>arg 3;simp only[take,rest,bf,adL,adM]
 conv=>arg 5;simp only[take,rest,bf,adL,adM]
 conv=>arg 9;simp only[take,rest,bf,adL,adM]
 refine .tO 0 rfl .move<|.tO 1 rfl (.fieldAddr rfl)<|.tO 2 rfl (.bo rfl) ?_
 refine .tK 4 rfl (.dU rfl) ?_
 refine .tK 5 rfl (.bo rfl) ?_
 refine .sT 3 rfl ?_
 refine .aT (iF b xs T h c.id _ (by simp only[adK];omega)) (λu i a=>?_)
 obtain⟨rfl,m⟩:=a
 refine .nil (Next.mod rfl ?_)
 refine .sT 6 rfl ?_
 refine .aT (iF b _ i m c.cL _ (by simp only[adK];omega)) (λu j a=>?_)
 obtain⟨rfl,n⟩:=a
 refine .nil (Next.mod rfl ?_)
 refine RA.nil (by kernel_rfl) ?_
 refine aG<|.sr ?_
 conv=>arg 8;simp only[rest,bf,adN,adO]
 refine .mo rfl<|.fa rfl<|.lo rfl ?_
 refine .aT (ti b _ j n t c.cg _ a (by simp only[adK];omega)) (λu k o=>?_)
 refine .zn<|.region<|.mo rfl<|.fa rfl<|.lo rfl ?_
 refine .aT (ti b _ k o s c.scopes _ d (by simp only[adK];omega)) (λu l p=>?_)
 refine .nil<|dc _ .none (.one [0] _) ?_
 ·exact⟨l,by simp[take],by simpa[lI]using p⟩
def lY(o:eT):List UInt8:=put (uw o.kind)++put (uw o.n)++lI o.cl++dF o.user++dF o.id++dF o.cL++dF o.uri++eC dF o.scopes++dF o.word++dF o.text++jJ o.x++jJ o.y
theorem vj(o:eT):fG o=lY o++eC fA o.cS++eC fA o.no++eC iY o.cs++put o.rev:=rfl
def rW(p:Value×List aZ):List Value:=[p.1]
def lJ(p:Value×List aZ):List UInt8:=eC fA p.2
theorem An(w:OW)(o:eT)(R:ao)(h:fO R w o)(hr:o.rev<cm)(Y:(fG o).length<=1000000000000):Spec prog 95 [.agg (dq w o).toArray] R [] λu H'=>∃T,H'=[T]/\OS 5 1 bS u (fG o) T:=by
 have i1:bI (dq w o):=⟨h.bU⟩
 obtain⟨⟨D,E,I,H⟩,G,J,K,f,r,F⟩:=w
 have W:eG R ⟨D,E,I,H⟩ o.cl:=h.c
 have hs:RS R 1 bL G o.scopes:=h.s
 have hx:RS R 1 bS J o.x:=h.x
 have hy:RS R 1 bS K o.y:=h.y
 have hm:RS R 7 aZ.enc f o.cS:=h.m
 have hn:RS R 7 aZ.enc r o.no:=h.n
 have B:RS R 8 cj.enc F o.cs:=h.g
 have j1:=hs.ay
 have j2:=hx.ay
 have j3:=hy.ay
 have j4:=hm.ay
 have j5:=hn.ay
 have j6:=B.ay
 have j7:=W.u.ay
 have j8:=W.s.ay
 simp only at j7 j8
 have f3:=B.le
 have f2:(lY o).length+(eC fA o.cS).length+(eC fA o.no).length+(eC iY o.cs).length+(put o.rev).length<=1000000000000:=by
  rw[vj]at Y
  simp only[adK]at Y
  omega
 have Q:=f2
 simp only[lY,adK]at Q
 have pl (l:List UInt8):(jJ l).length=(put l.length).length+l.length:=by unfold jJ;rw[adK]
 have p1:=pl o.x
 have p2:=pl o.y
 refine Spec.body func95 rfl results95 ntmps95 rfl ?_
 refine .sr ?_
 refine .cc rfl (λv=>?_)
 refine .ag rfl<|.z ?_
 refine .bM (yS _) (λu T0 d=>?_)
 obtain⟨b,rfl,c8⟩:=d
 refine .ag rfl<|.zs<|.nZ [0] [4,8] mixed ?_
 conv=>arg 3;simp only[take,rest,bf,adL,adM]
 conv=>arg 5;simp only[take,rest,bf,adL,adM]
 conv=>arg 9;simp only[take,rest,bf,adL,adM]
 refine .tO 0 rfl .move<|.tO 1 rfl (.fieldAddr rfl)<|.tO 2 rfl (.bo rfl) ?_
 refine .eF 3 rfl (.cast (v':=.int .u64 (uw o.kind:Nat)) (.fv) (congrArg (Value.int .u64) (yX o.kind))) (by kernel_rfl) ?_
 refine .tK 5 rfl (.dU rfl) ?_
 refine .tK 6 rfl (.bo rfl) ?_
 refine .take 7 rfl (.cast (v':=.int .u64 (uw o.n:Nat)) (.fv) (congrArg (Value.int .u64) (yX o.n))) (by kernel_rfl) ?_
 refine .sT 4 rfl ?_
 refine .aT (fV b _ T0 c8 (uw o.kind) (rk _) (by simp) _) (λu T1 d=>?_)
 obtain⟨rfl,c9⟩:=d
 refine .nil (Next.mod rfl ?_)
 refine .sT 8 rfl ?_
 refine .aT (fV b _ T1 c9 (uw o.n) (rk _) (by simp only[adK,adP];omega) _) (λu T2 d=>?_)
 obtain⟨rfl,d6⟩:=d
 refine .nil (Next.mod rfl ?_)
 refine RA.nil (by kernel_rfl) ?_
 refine aG<|.sr ?_
 conv=>arg 8;simp only[rest,bf,adN,adO]
 refine .mo rfl<|.fa rfl<|.q (.loadT rfl) ?_
 refine .aT (Oi b _ T2 d6 ⟨D,E,I,H⟩ o.cl _ W (by simp only[adK,adP];omega)) (λu T3 d9=>?_)
 refine .zs<|.nZ [0] [3,6,9,12] mixed ?_
 conv=>arg 3;simp only[take,rest,bf,adL,adM]
 conv=>arg 5;simp only[take,rest,bf,adL,adM]
 conv=>arg 9;simp only[take,rest,bf,adL,adM]
 refine .tO 0 rfl .move<|.tO 1 rfl (.fieldAddr rfl)<|.tO 2 rfl (.bo rfl) ?_
 refine .tK 4 rfl (.dU rfl) ?_
 refine .tK 5 rfl (.bo rfl) ?_
 refine .tK 7 rfl (.dU rfl) ?_
 refine .tK 8 rfl (.bo rfl) ?_
 refine .tK 10 rfl (.dU rfl) ?_
 refine .tK 11 rfl (.bo rfl) ?_
 refine .sT 3 rfl ?_
 refine .aT (iF b _ T3 d9 o.user _ (by simp only[adK,adP];omega)) (λu T4 d=>?_)
 obtain⟨rfl,e0⟩:=d
 refine .nil (Next.mod rfl ?_)
 refine .sT 6 rfl ?_
 refine .aT (iF b _ T4 e0 o.id _ (by simp only[adK,adP];omega)) (λu T5 d=>?_)
 obtain⟨rfl,e1⟩:=d
 refine .nil (Next.mod rfl ?_)
 refine .sT 9 rfl ?_
 refine .aT (iF b _ T5 e1 o.cL _ (by simp only[adK,adP];omega)) (λu T6 d=>?_)
 obtain⟨rfl,e2⟩:=d
 refine .nil (Next.mod rfl ?_)
 refine .sT 12 rfl ?_
 refine .aT (iF b _ T6 e2 o.uri _ (by simp only[adK,adP];omega)) (λu T7 d=>?_)
 obtain⟨rfl,e3⟩:=d
 refine .nil (Next.mod rfl ?_)
 refine RA.nil (by kernel_rfl) ?_
 refine aG<|.sr ?_
 conv=>arg 8;simp only[rest,bf,adN,adO]
 refine .mo rfl<|.fa rfl<|.lo rfl ?_
 refine .aT (ti b _ T7 e3 G o.scopes _ hs (by simp only[adK,adP];omega)) (λu T8 e4=>?_)
 refine .zs<|.nZ [0] [3,6,9,12] mixed ?_
 conv=>arg 3;simp only[take,rest,bf,adL,adM]
 conv=>arg 5;simp only[take,rest,bf,adL,adM]
 conv=>arg 9;simp only[take,rest,bf,adL,adM]
 refine .tO 0 rfl .move<|.tO 1 rfl (.fieldAddr rfl)<|.tO 2 rfl (.bo rfl) ?_
 refine .tK 4 rfl (.dU rfl) ?_
 refine .tK 5 rfl (.bo rfl) ?_
 refine .tK 7 rfl (.dU rfl) ?_
 refine .tK 8 rfl (.bo rfl) ?_
 refine .tK 10 rfl (.dU rfl) ?_
 refine .tK 11 rfl (.bo rfl) ?_
 refine .sT 3 rfl ?_
 refine .aT (iF b _ T8 e4 o.word _ (by simp only[adK,adP];omega)) (λu T9 d=>?_)
 obtain⟨rfl,e5⟩:=d
 refine .nil (Next.mod rfl ?_)
 refine .sT 6 rfl ?_
 refine .aT (iF b _ T9 e5 o.text _ (by simp only[adK,adP];omega)) (λu c0 d=>?_)
 obtain⟨rfl,d0⟩:=d
 refine .nil (Next.mod rfl ?_)
 refine .sT 9 rfl ?_
 refine .aT (uh b _ c0 d0 J o.x _ hx.rx (by simp only[adK,adP];omega)) (λu c1 d=>?_)
 obtain⟨rfl,d1⟩:=d
 refine .nil (Next.mod rfl ?_)
 refine .sT 12 rfl ?_
 refine .aT (uh b _ c1 d1 K o.y _ hy.rx (by simp only[adK,adP];omega)) (λu a0 d=>?_)
 obtain⟨rfl,a6⟩:=d
 have hW:dJ b (lY o) a0:=by simpa[lY]using a6
 clear Q p1 p2 pl a6
 refine .nil (Next.mod rfl ?_)
 refine RA.nil (by kernel_rfl) ?_
 refine aG<|.seq<|.sr ?_
 conv=>arg 8;simp only[rest,bf,adN,adO]
 refine .fa rfl<|.lo rfl<|.fa rfl<|.lo rfl ?_
 refine .oS [f,r] (ho:=by simp[j4.h,j5.h]) (λA=>?_)
 refine .q (.eY rfl) ?_
 refine .mo rfl<|.zn<|.block ?_
 have a5:OS 26 1 rW (.slice (some ⟨A,0,none⟩) 2 2) [(f,o.cS),(r,o.no)] (bl A [f,r] 26):=OS.lits rfl (by simp[rW]) (by simp[rW,j4.h,j5.h])
 obtain⟨e,L⟩:∃e,e=[(f,o.cS),(r,o.no)]:=⟨_,rfl⟩
 rw[<-L]at a5
 have e7:∀p∈e,RS R 7 aZ.enc p.1 p.2:=by rw[L];simp[hm,hn]
 have f4:e.length=2:=by rw[L];rfl
 have b3:e.flatMap lJ=eC fA o.cS++eC fA o.no:=by rw[L];simp[lJ]
 refine .loop (X:=Nat×au) (λy=>y.1<=2/\dJ b (lY o++(e.take y.1).flatMap lJ) y.2) (λy=>[(1,pT v),(3,pT b),(58,.slice (some ⟨A,0,none⟩) 2 2),(59,.int .i64 ((2:Nat):Int)),(60,iN y.1)]) (λy=>[bl A [f,r] 26,y.2,bl v (dq ⟨⟨D,E,I,H⟩,G,J,K,f,r,F⟩ o) 48]) (λy=>2-y.1) (0,a0) ⟨adQ _,by simpa using hW⟩ kE.c.c.c.c.c rH ?_
 rintro⟨i,a1⟩ ⟨hi,M⟩
 simp only at hi M⊢
 refine .sr<|.q .lss<|.zs ?_
 refine .cond rfl (λS=>?_) λS=>?_
 have f1:i<e.length:=by have h9:=bp S;omega
 obtain⟨p,Z⟩:=dM f1
 have C:=e7 p (bD Z)
 have f7:=C.ay
 have g1:=C.le
 have b0:=qh (enc:=lJ) Z
 have b2:=qi (enc:=lJ) (l:=e) (i+1)
 rw[b0,b3]at b2
 simp only[adK]at b2
 have f6:(lJ p).length=(put p.2.length).length+(p.2.flatMap fA).length:=by simp[lJ,eC]
 refine .kn<|.seq<|.block<|.sr ?_
 refine .aU i a5 Z (λf8=>?_)
 refine .lo rfl<|.ag rfl<|.z<|.mo rfl<|.mo rfl<|.q (.cv C) ?_
 refine .q (.fU (a:=p.2.length) rfl (by unfold cm;omega)) ?_
 refine .aT (fV b _ a1 M p.2.length (by unfold cm;omega) (by simp only[adK];omega) _) (λu c2 d=>?_)
 obtain⟨rfl,d2⟩:=d
 refine .z<|.mo rfl<|.q (.cv C) ?_
 refine .mo rfl<|.zn<|.block ?_
 refine .loop (X:=Nat×au) (λy=>y.1<=p.2.length/\dJ b (lY o++(e.take i).flatMap lJ++put p.2.length++(p.2.take y.1).flatMap fA) y.2) (λy=>[(1,pT v),(3,pT b),(58,.slice (some ⟨A,0,none⟩) 2 2),(59,.int .i64 ((2:Nat):Int)),(60,iN i),(69,p.1),(70,iN p.2.length),(71,iN y.1)]) (λy=>[bl A [f,r] 26,y.2,bl v (dq ⟨⟨D,E,I,H⟩,G,J,K,f,r,F⟩ o) 48]) (λy=>p.2.length-y.1) (0,c2) ⟨adQ _,by simpa using d2⟩ kE.c.c.c.c.c.c.c.c rH ?_
 rintro⟨j,a2⟩ ⟨hj,N⟩
 simp only at hj N⊢
 refine .sr<|.q .lss<|.zs ?_
 refine .cond rfl (λU=>?_) λU=>?_
 have b4:j<p.2.length:=fg U
 obtain⟨t,ht⟩:=dM b4
 have b6:=qh (enc:=fA) ht
 have b8:=qi (enc:=fA) (l:=p.2) (j+1)
 rw[b6]at b8
 simp only[adK]at b8
 refine .kn<|.seq<|.block<|.sr ?_
 refine .cB j C ht (λf9=>?_)
 refine .q (.bj rfl) ?_
 refine .cn (λb7=>?_)
 refine .bZ rfl rfl<|.zn<|.region<|.mo rfl<|.q (.bj rfl) ?_
 refine .aT (xJ b _ a2 N t _ (by simp only[adK];omega)) (λu c3 d3=>?_)
 refine .nil<|bz<|aG<|.region ?_
 refine .ia (j+1) .add ?_
 refine .mo rfl<|.nil ?_
 ·exact br (j+1,c3) ⟨b4,by simp only;rw[b6, <-adU];exact d3⟩ (by simp only;omega) kE.c.c.c.c.c.c.c.c (bG [1,1,1])
 have e9:j=p.2.length:=by have:=ba U;omega
 rw[e9,adR]at N
 refine .exit<|bk<|bw<|bq<|bz<|aG<|.region ?_
 refine .ia (i+1) .add ?_
 refine .mo rfl<|.nil ?_
 ·exact br (i+1,a2) ⟨by simp only;omega,by simp only;rw[b0, <-adU];simpa[lJ,eC]using N⟩ (by simp only;omega) kE.c.c.c.c.c rH
 have e8:i=e.length:=by have:=ba S;omega
 rw[e8,adR,b3]at M
 have f5:(eC iY o.cs).length=(put o.cs.length).length+(o.cs.flatMap iY).length:=by simp[eC]
 refine .exit<|bk<|bw<|bq<|aG<|.sr<|.mo rfl<|.fa rfl<|.lo rfl<|.q (.cv B) ?_
 refine .q (.fU (a:=o.cs.length) rfl (by unfold cm;omega)) ?_
 refine .aT (fV b _ a1 M o.cs.length (by unfold cm;omega) (by simp only[adK];omega) _) (λu c4 d=>?_)
 obtain⟨rfl,d4⟩:=d
 refine .zs<|.sr<|.fa rfl<|.lo rfl<|.q (.cv B) ?_
 refine .mo rfl<|.zn<|.block ?_
 refine .loop (X:=Nat×au) (λy=>y.1<=o.cs.length/\dJ b (lY o++(eC fA o.cS++eC fA o.no)++put o.cs.length++(o.cs.take y.1).flatMap iY) y.2) (λy=>[(1,pT v),(3,pT b),(87,F),(88,iN o.cs.length),(89,iN y.1)]) (λy=>[y.2,bl v (dq ⟨⟨D,E,I,H⟩,G,J,K,f,r,F⟩ o) 48]) (λy=>o.cs.length-y.1) (0,c4) ⟨adQ _,by simpa using d4⟩ kE.c.c.c.c.c (bG [1,1]) ?_
 rintro⟨k,a3⟩ ⟨hk,O⟩
 simp only at hk O⊢
 refine .sr<|.q .lss<|.zs ?_
 refine .cond rfl (λV=>?_) λV=>?_
 have b5:k<o.cs.length:=fg V
 obtain⟨c,a9⟩:=dM b5
 have a7:=qh (enc:=iY) a9
 have a8:=qi (enc:=iY) (l:=o.cs) (k+1)
 rw[a7]at a8
 simp only[iY,adK]at a8
 obtain⟨cp,ct⟩:=c
 refine .kn<|.seq<|.block<|.sr ?_
 refine .cB k B a9 (λg0=>?_)
 refine .q (.bj rfl) ?_
 refine .cn (λb9=>?_)
 refine .bZ rfl rfl<|.z<|.mo rfl<|.fa rfl<|.lo rfl ?_
 refine .aT (Qu b _ a3 O cp (by simp only[adK,iY]at *;omega) _) (λu c5 d=>?_)
 obtain⟨rfl,d5⟩:=d
 refine .zn<|.region<|.mo rfl<|.fa rfl<|.q (.loadT rfl) ?_
 refine .aT (xJ b _ c5 d5 ct _ (by simp only[adK,iY]at *;omega)) (λu c6 d7=>?_)
 refine .nil<|bz<|aG<|.region ?_
 refine .ia (k+1) .add ?_
 refine .mo rfl<|.nil ?_
 ·exact br (k+1,c6) ⟨b5,by simp only;rw[a7];simpa[iY]using d7⟩ (by simp only;omega) kE.c.c.c.c.c (bG [1,1])
 have f0:k=o.cs.length:=by have:=ba V;omega
 rw[f0,adR]at O
 refine .exit<|bk<|bw<|bq<|aG<|.sr<|.mo rfl<|.fa rfl<|.lo rfl ?_
 refine .aT (fV b _ a3 O o.rev hr (by simp only[adK];omega) _) (λu a4 d=>?_)
 obtain⟨rfl,d8⟩:=d
 have e6:dJ b (fG o) a4:=by
  rw[vj]
  simpa[eC]using d8
 refine .bM (yQ b _ a4 e6 Y _ (λp Q=>.inr (by simp[Q]))) (λu c7 hO=>?_)
 have iO:=hO.ay
 refine .az rfl ?_
 refine .ret (aO _ (.one (.tmp rfl)) (.one [0] _) ?_)
 ·exact⟨c7,by simp[take],hO⟩
def jy(s:Option (List UInt8)):Prop:=∀xs,s=some xs->xs.length<=1000000000
theorem jy.next{α:Type}{rd:List UInt8->Option (α×List UInt8)}{enc:α->List UInt8}{ok:α->Prop}(c:fX rd enc ok){s b:Option (List UInt8)}{a:α}(d:jy s)(h:s.bind rd=b.map λr=>(a,r)):jy b:=λf e=>by
 subst e
 cases s with
 |none=>simp at h
 |some ys=>
  simp only[Option.bind_some,Option.map_some]at h
  obtain⟨rfl,_⟩:=(c.h ys a f).1 h
  have:=d _ rfl
  rw[adK]at this
  omega
theorem tu{α:Type}{rd:List UInt8->Option (α×List UInt8)}{s a:Option (List UInt8)}{n:Nat}(h:s.bind (iZ 4096)=a.map λr=>(n,r)):s.bind (iq rd)=(a.bind (gA rd n)).map λq=>([]++q.1,q.2):=by
 unfold iq
 rw[dK h]
 cases a with
 |none=>rfl
 |some r=>
  simp only[Option.bind_some]
  cases gA rd n r<;>rfl
theorem tp{α:Type}{rd:List UInt8->Option (α×List UInt8)}{s:Option (List UInt8)}{pre:List α}:(s.bind (gA rd 0)).map (λq=>(pre++q.1,q.2))=s.map λr=>(pre,r):=by
 cases s with
 |none=>rfl
 |some r=>simp[gA]
theorem tm(b:Nat)(s:Option (List UInt8))(T:au)(h:de b s T)(Q:jy s)(R:ao):Spec prog 120 [pT b,.func (.func 119) #[] #[]] R [T] λu H'=>∃T' T2,H'=[T',T2]/\∃(l:List ByteArray) (s':Option (List UInt8)),OS 9 1 bL u l T2/\de b s' T'/\s.bind (iq eZ)=s'.map λr=>(l,r):=by
 refine Spec.du (H':=[T,[]]) (by simp) ?_
 refine Spec.body func120 rfl results120 ntmps120 rfl ?_
 refine .sr<|.ag rfl<|.z<|.ag rfl<|.zs<|.sr<|.mo rfl ?_
 refine .aT (kI b s T h 4096 (by decide) _) (λu E g=>?_)
 obtain⟨n,W,rfl,hn,H,C⟩:=g
 have N:=Q.next (kR 4096) C
 have V:=tu (rd:=eZ) C
 refine .mo rfl<|.zn<|.block ?_
 refine .loop (X:=Nat×List ByteArray×Option (List UInt8)×Value×au×au) (λy=>y.1<=n/\y.2.1.length=y.1/\OS 9 1 bL y.2.2.2.1 y.2.1 y.2.2.2.2.1/\de b y.2.2.1 y.2.2.2.2.2/\jy y.2.2.1/\s.bind (iq eZ)=(y.2.2.1.bind (gA eZ (n-y.1))).map λq=>(y.2.1++q.1,q.2)) (λy=>[(0,pT b),(1,.func (.func 119) #[] #[]),(5,y.2.2.2.1),(7,iN n),(8,iN y.1)]) (λy=>[y.2.2.2.2.2,y.2.2.2.2.1]) (λy=>n-y.1) (0,[],W,sZ,[],E) ⟨adQ _,rfl,OS.nil,H,N,V⟩ kE.c.c.c.c.c rH ?_
 rintro⟨i,m,k,vo,To,t⟩ ⟨L,A,j,d,p,e⟩
 simp only at L A j d p e⊢
 have iO:=j.ay
 obtain⟨vk,v,pk,K⟩:=d.read
 refine .sr<|.q .lss<|.zs ?_
 refine .cond rfl (λo=>?_) λo=>?_
 have S:i<n:=fg o
 refine .kn<|.seq<|.block<|.seq<|.sr<|.mo rfl ?_
 refine .aH (ml b vk v _) (λu g=>?_)
 subst g
 refine .q .cb<|.zn ?_
 refine .cond rfl (λw=>?_) λw=>?_
 have J:v≠0:=by simpa using w
 have U:k=none:=by
  cases k with
  |none=>rfl
  |some xs=>exact absurd (K.2 rfl) J
 rw[U]at e d
 refine .sr<|.az rfl ?_
 refine .ret (aR (bi (aR (cK (bi (aR (aO _ (.one (.tmp rfl)) ((bG [0]).trans (bu.cu (H':=[t,[]]) (by simp[take]))) ?_)))))))
 ·exact⟨_,_,rfl,[],none,OS.nil,d,by rw[e];rfl⟩
 refine .kn<|.region<|.mo rfl<|.mo rfl<|.mo rfl ?_
 refine .rO (f:=119) (first:=[]) (captured:=[]) (vs:=[pT b]) (iE b k t d p _) (λu F g=>?_)
 obtain⟨a,Y,rfl,I,D⟩:=g
 have O:=p.next fF D
 have B:=tq (n:=n-(i+1)) (pre:=m) D
 rw[show n-(i+1)+1=n-i by omega]at B
 refine .lq (λa0=>?_)
 refine .append j (RS.lits (xs:=[a]) rfl (by simp[bL]) (by simp[bL,ay])) (by simp;omega) (λZ G x=>?_)
 have i5:=x.ay
 refine .ag rfl<|.nil<|bz<|aG<|.region ?_
 refine .ia (i+1) .add ?_
 refine .mo rfl<|.nil ?_
 ·exact br (i+1,m++[a],Y,Z,G,F) ⟨S,by simp[A],x,I,O,e.trans B⟩ (by simp only;omega) kE.c.c.c.c.c (bG [1,1])
 have M:i=n:=by have:=ba o;omega
 rw[M,Nat.sub_self,tp]at e
 refine .exit<|bk<|bw<|bq<|aG<|.sr<|.mo rfl<|.az rfl ?_
 refine .ret (aO _ (.one (.tmp rfl)) rH ?_)
 ·exact⟨_,_,rfl,m,k,j,d,e⟩
theorem wC(b:Nat)(s:Option (List UInt8))(T:au)(h:de b s T)(k:jy s)(R:ao):Spec prog 122 [pT b] R [T] λu H'=>∃T',H'=[T']/\∃(a:aZ) (s':Option (List UInt8)),u=.agg a.enc.toArray/\de b s' T'/\s.bind kF=s'.map λr=>(a,r):=by
 refine Spec.body func122 rfl results122 ntmps122 rfl ?_
 refine .sr ?_
 refine .cn (λb2=>?_)
 refine .z ?_
 refine .cn (λb3=>?_)
 refine .z<|.mo rfl ?_
 refine .aT (iE b s T h k _) (λu t c=>?_)
 obtain⟨C,V,rfl,K,d⟩:=c
 have l:=k.next fF d
 refine .mo rfl ?_
 refine .aT (iE b V t K l _) (λu v c=>?_)
 obtain⟨D,W,rfl,L,e⟩:=c
 have m:=l.next fF e
 refine .q .cC ?_
 refine .fa rfl<|.bZ rfl rfl<|.z<|.mo rfl ?_
 refine .aT (iE b W v L m _) (λu w c=>?_)
 obtain⟨E,X,rfl,M,f⟩:=c
 have n:=m.next fF f
 refine .fa rfl<|.ca rfl rfl<|.z<|.mo rfl ?_
 refine .aT (iE b X w M n _) (λu x c=>?_)
 obtain⟨F,Y,rfl,N,g⟩:=c
 have o:=n.next fF g
 refine .fa rfl<|.fa rfl<|.ca rfl rfl<|.z<|.mo rfl ?_
 refine .aT (iE b Y x N o _) (λu y c=>?_)
 obtain⟨G,Z,rfl,O,i⟩:=c
 have p:=o.next fF i
 refine .mo rfl ?_
 refine .aT (iE b Z y O p _) (λu A c=>?_)
 obtain⟨H,s6,rfl,Q,j⟩:=c
 have U:=p.next fF j
 refine .q .cC ?_
 refine .fa rfl<|.fa rfl<|.bZ rfl rfl<|.z<|.mo rfl ?_
 refine .aT (iE b s6 A Q U _) (λu B c=>?_)
 obtain⟨I,s7,rfl,S,J⟩:=c
 refine .fa rfl<|.fa rfl<|.ca rfl rfl<|.z<|.q (.bj rfl)<|.bZ rfl rfl<|.zn ?_
 refine .ret (aO _ (.one (.ej rfl rfl)) (.one [2] _) ?_)
 ·refine⟨B,by simp[take,bf],⟨C,D,E,F,G,H,I⟩,s7,rfl,S,?_⟩
  unfold kF
  rw[dK d,dK e,dK f,dK g,dK i,dK j,dK J,oQ]
theorem Mn(b:Nat)(s:Option (List UInt8))(T:au)(h:de b s T)(w:jy s)(R:ao):Spec prog 124 [pT b] R [T] λu H'=>∃T',H'=[T']/\∃(a:cj) (s':Option (List UInt8)),u=.agg a.enc.toArray/\de b s' T'/\s.bind lK=s'.map λr=>(a,r):=by
 refine Spec.body func124 rfl results124 ntmps124 rfl ?_
 refine .sr ?_
 refine .cn (λB=>?_)
 refine .z<|.mo rfl ?_
 refine .aT (Om b s T h _) (λu e c=>?_)
 obtain⟨f,y,rfl,t,d⟩:=c
 have x:=w.next uU d
 refine .ag rfl<|.z<|.mo rfl<|.mo rfl ?_
 refine .aT (wC b y e t x _) (λu g c=>?_)
 obtain⟨⟨i,j,k,l,m,n,o⟩,A,rfl,v,p⟩:=c
 refine .q .cC ?_
 refine .bZ rfl rfl<|.zn ?_
 refine .ret (aO _ (.one (.ej rfl rfl)) (.one [1] _) ?_)
 ·refine⟨g,by simp[take,bf],⟨f,⟨i,j,k,l,m,n,o⟩⟩,A,rfl,v,?_⟩
  unfold lK
  rw[dK d,dK p,oQ]
theorem xO(b:Nat)(s:Option (List UInt8))(T:au)(h:de b s T)(Q:jy s)(R:ao):Spec prog 121 [pT b,.func (.func 122) #[] #[]] R [T] λu H'=>∃T' T2,H'=[T',T2]/\∃(l:List aZ) (s':Option (List UInt8)),OS 154 7 aZ.enc u l T2/\de b s' T'/\s.bind (iq kF)=s'.map λr=>(l,r):=by
 refine Spec.du (H':=[T,[]]) (by simp) ?_
 refine Spec.body func121 rfl results121 ntmps121 rfl ?_
 refine .sr<|.ag rfl<|.z<|.ag rfl<|.zs<|.sr<|.mo rfl ?_
 refine .aT (kI b s T h 4096 (by decide) _) (λu E g=>?_)
 obtain⟨n,W,rfl,hn,H,C⟩:=g
 have N:=Q.next (kR 4096) C
 have V:=tu (rd:=kF) C
 refine .mo rfl<|.zn<|.block ?_
 refine .loop (X:=Nat×List aZ×Option (List UInt8)×Value×au×au) (λy=>y.1<=n/\y.2.1.length=y.1/\OS 154 7 aZ.enc y.2.2.2.1 y.2.1 y.2.2.2.2.1/\de b y.2.2.1 y.2.2.2.2.2/\jy y.2.2.1/\s.bind (iq kF)=(y.2.2.1.bind (gA kF (n-y.1))).map λq=>(y.2.1++q.1,q.2)) (λy=>[(0,pT b),(1,.func (.func 122) #[] #[]),(5,y.2.2.2.1),(7,iN n),(8,iN y.1)]) (λy=>[y.2.2.2.2.2,y.2.2.2.2.1]) (λy=>n-y.1) (0,[],W,sZ,[],E) ⟨adQ _,rfl,OS.nil,H,N,V⟩ kE.c.c.c.c.c rH ?_
 rintro⟨i,m,k,vo,To,t⟩ ⟨L,A,j,d,p,e⟩
 simp only at L A j d p e⊢
 have iO:=j.ay
 obtain⟨vk,v,pk,K⟩:=d.read
 refine .sr<|.q .lss<|.zs ?_
 refine .cond rfl (λo=>?_) λo=>?_
 have S:i<n:=fg o
 refine .kn<|.seq<|.block<|.seq<|.sr<|.mo rfl ?_
 refine .aH (ml b vk v _) (λu g=>?_)
 subst g
 refine .q .cb<|.zn ?_
 refine .cond rfl (λw=>?_) λw=>?_
 have J:v≠0:=by simpa using w
 have U:k=none:=by
  cases k with
  |none=>rfl
  |some xs=>exact absurd (K.2 rfl) J
 rw[U]at e d
 refine .sr<|.az rfl ?_
 refine .ret (aR (bi (aR (cK (bi (aR (aO _ (.one (.tmp rfl)) ((bG [0]).trans (bu.cu (H':=[t,[]]) (by simp[take]))) ?_)))))))
 ·exact⟨_,_,rfl,[],none,OS.nil,d,by rw[e];rfl⟩
 refine .kn<|.region<|.mo rfl<|.mo rfl<|.mo rfl ?_
 refine .rO (f:=122) (first:=[]) (captured:=[]) (vs:=[pT b]) (wC b k t d p _) (λu F g=>?_)
 obtain⟨a,Y,rfl,I,D⟩:=g
 have O:=p.next oU D
 have B:=tq (n:=n-(i+1)) (pre:=m) D
 rw[show n-(i+1)+1=n-i by omega]at B
 refine .hY (λa0=>?_)
 refine .append j (RS.lits (xs:=[a]) rfl (by simp[aZ.enc]) (by have:=(aZ.one a).h;simpa using this)) (by simp;omega) (λZ G x=>?_)
 have i5:=x.ay
 refine .ag rfl<|.nil<|bz<|aG<|.region ?_
 refine .ia (i+1) .add ?_
 refine .mo rfl<|.nil ?_
 ·exact br (i+1,m++[a],Y,Z,G,F) ⟨S,by simp[A],x,I,O,e.trans B⟩ (by simp only;omega) kE.c.c.c.c.c (bG [1,1])
 have M:i=n:=by have:=ba o;omega
 rw[M,Nat.sub_self,tp]at e
 refine .exit<|bk<|bw<|bq<|aG<|.sr<|.mo rfl<|.az rfl ?_
 refine .ret (aO _ (.one (.tmp rfl)) rH ?_)
 ·exact⟨_,_,rfl,m,k,j,d,e⟩
theorem Ol(b:Nat)(s:Option (List UInt8))(T:au)(h:de b s T)(Q:jy s)(R:ao):Spec prog 123 [pT b,.func (.func 124) #[] #[]] R [T] λu H'=>∃T' T2,H'=[T',T2]/\∃(l:List cj) (s':Option (List UInt8)),OS 183 8 cj.enc u l T2/\de b s' T'/\s.bind (iq lK)=s'.map λr=>(l,r):=by
 refine Spec.du (H':=[T,[]]) (by simp) ?_
 refine Spec.body func123 rfl results123 ntmps123 rfl ?_
 refine .sr<|.ag rfl<|.z<|.ag rfl<|.zs<|.sr<|.mo rfl ?_
 refine .aT (kI b s T h 4096 (by decide) _) (λu E g=>?_)
 obtain⟨n,W,rfl,hn,H,C⟩:=g
 have N:=Q.next (kR 4096) C
 have V:=tu (rd:=lK) C
 refine .mo rfl<|.zn<|.block ?_
 refine .loop (X:=Nat×List cj×Option (List UInt8)×Value×au×au) (λy=>y.1<=n/\y.2.1.length=y.1/\OS 183 8 cj.enc y.2.2.2.1 y.2.1 y.2.2.2.2.1/\de b y.2.2.1 y.2.2.2.2.2/\jy y.2.2.1/\s.bind (iq lK)=(y.2.2.1.bind (gA lK (n-y.1))).map λq=>(y.2.1++q.1,q.2)) (λy=>[(0,pT b),(1,.func (.func 124) #[] #[]),(5,y.2.2.2.1),(7,iN n),(8,iN y.1)]) (λy=>[y.2.2.2.2.2,y.2.2.2.2.1]) (λy=>n-y.1) (0,[],W,sZ,[],E) ⟨adQ _,rfl,OS.nil,H,N,V⟩ kE.c.c.c.c.c rH ?_
 rintro⟨i,m,k,vo,To,t⟩ ⟨L,A,j,d,p,e⟩
 simp only at L A j d p e⊢
 have iO:=j.ay
 obtain⟨vk,v,pk,K⟩:=d.read
 refine .sr<|.q .lss<|.zs ?_
 refine .cond rfl (λo=>?_) λo=>?_
 have S:i<n:=fg o
 refine .kn<|.seq<|.block<|.seq<|.sr<|.mo rfl ?_
 refine .aH (ml b vk v _) (λu g=>?_)
 subst g
 refine .q .cb<|.zn ?_
 refine .cond rfl (λw=>?_) λw=>?_
 have J:v≠0:=by simpa using w
 have U:k=none:=by
  cases k with
  |none=>rfl
  |some xs=>exact absurd (K.2 rfl) J
 rw[U]at e d
 refine .sr<|.az rfl ?_
 refine .ret (aR (bi (aR (cK (bi (aR (aO _ (.one (.tmp rfl)) ((bG [0]).trans (bu.cu (H':=[t,[]]) (by simp[take]))) ?_)))))))
 ·exact⟨_,_,rfl,[],none,OS.nil,d,by rw[e];rfl⟩
 refine .kn<|.region<|.mo rfl<|.mo rfl<|.mo rfl ?_
 refine .rO (f:=124) (first:=[]) (captured:=[]) (vs:=[pT b]) (Mn b k t d p _) (λu F g=>?_)
 obtain⟨a,Y,rfl,I,D⟩:=g
 have O:=p.next rQ D
 have B:=tq (n:=n-(i+1)) (pre:=m) D
 rw[show n-(i+1)+1=n-i by omega]at B
 refine .hY (λa0=>?_)
 refine .append j (RS.lits (xs:=[a]) rfl (by simp[cj.enc,aZ.enc]) (by have:=(cj.one a).h;simpa using this)) (by simp;omega) (λZ G x=>?_)
 have i5:=x.ay
 refine .ag rfl<|.nil<|bz<|aG<|.region ?_
 refine .ia (i+1) .add ?_
 refine .mo rfl<|.nil ?_
 ·exact br (i+1,m++[a],Y,Z,G,F) ⟨S,by simp[A],x,I,O,e.trans B⟩ (by simp only;omega) kE.c.c.c.c.c (bG [1,1])
 have M:i=n:=by have:=ba o;omega
 rw[M,Nat.sub_self,tp]at e
 refine .exit<|bk<|bw<|bq<|aG<|.sr<|.mo rfl<|.az rfl ?_
 refine .ret (aO _ (.one (.tmp rfl)) rH ?_)
 ·exact⟨_,_,rfl,m,k,j,d,e⟩
theorem Mo(b:Nat)(s:Option (List UInt8))(T:au)(h:de b s T)(l:jy s)(R:ao):Spec prog 118 [pT b] R [T] λu H'=>∃T' T2,H'=[T',T2]/\∃(r:CR) (a:bP) (s':Option (List UInt8)),u=.agg r.cells.toArray/\eG (sg T2) r a/\de b s' T'/\s.bind pD=s'.map λr=>(a,r):=by
 refine Spec.body func118 rfl results118 ntmps118 rfl ?_
 refine .sr ?_
 refine .cn (λL=>?_)
 refine .z<|.mo rfl ?_
 refine .aT (iE b s T h l _) (λu o c=>?_)
 obtain⟨d,G,rfl,B,f⟩:=c
 have m:=l.next fF f
 refine .mo rfl ?_
 refine .aT (iE b G o B m _) (λu T2 c=>?_)
 obtain⟨e,H,rfl,C,g⟩:=c
 have n:=m.next fF g
 refine .q .cC ?_
 refine .cn (λM=>?_)
 refine .bZ rfl rfl<|.z<|.mo rfl ?_
 refine .call [2] (tm b H T2 C n _) (λu H' c=>?_)
 obtain⟨p,t,rfl,x,I,j,D,i⟩:=c
 conv=>arg 8;simp only[rest,bf,adN,adO]
 have F:=n.next (lu fF) i
 have N:=j.ay
 refine .fa rfl<|.ca rfl rfl<|.z<|.mo rfl ?_
 refine .call [0] (tm b I p D F _) (λK H' c=>?_)
 obtain⟨v,w,rfl,y,J,k,E,A⟩:=c
 conv=>arg 8;simp only[rest,bf,adN,adO]
 have O:=k.ay
 refine .fa rfl<|.ca rfl rfl<|.z<|.q (.bj rfl)<|.bZ rfl rfl<|.zn ?_
 refine .ret (aO _ (.one (.ej rfl rfl)) ((bG [0,0,0]).trans (bu.cu (H':=[v,w++t]) (by simp[take,bf]))) ?_)
 ·refine⟨_,_,rfl,⟨d,e,u,K⟩,⟨d,e,x,y⟩,J,rfl,⟨rfl,rfl,j.sg.right,k.sg.left⟩,E,?_⟩
  unfold pD
  rw[dK f,dK g,dK i,dK A,oQ]
theorem RS.il{α:Type}{R:ao}{sz:Nat}{enc:α->List Value}:RS R sz enc (sZ) ([]:List α):=(OS.nil (E:=0) (sz:=sz) (enc:=enc)).rs λp a=>(by cases a)
def mi:OW:=⟨⟨⟨#[]⟩,⟨#[]⟩,sZ,sZ⟩,sZ,sZ,sZ,sZ,sZ,sZ⟩
theorem fO.zero(R:ao):fO R mi mR:=⟨⟨rfl,rfl,RS.il,RS.il⟩,RS.il,RS.il,RS.il,RS.il,RS.il,RS.il⟩
theorem Ad(v:Value)(xs:List UInt8)(R:ao)(h:RS R 1 bS v xs)(hl:xs.length<=1000000000):Spec prog 49 [v] R [] λu H'=>∃T,H'=[T]/\∃(w:OW) (o:eT) (e:Int),u=.tuple [.agg (dq w o).toArray,.int .i64 e].toArray/\fO (sg T) w o/\((e=0/\lL xs=some (o,[]))\/(e=4/\o=mR/\∀o',lL xs≠some (o',[]))):=by
 have iv:=h.ay
 have l0:jy (some xs):=λys hy=>by cases hy;exact hl
 refine Spec.body func49 rfl results49 ntmps49 rfl ?_
 refine .sr ?_
 refine .cn (λb2=>?_)
 refine .ag rfl<|.z<|.mo rfl ?_
 refine .bM (xZ v xs _ h.rx (by omega)) (λu T0 a=>?_)
 obtain⟨b,rfl,h0⟩:=a
 refine .ag rfl<|.z ?_
 refine .cn (λb5=>?_)
 refine .z<|.mo rfl ?_
 refine .aT (kI b _ T0 h0 255 (by decide) _) (λu T1 a=>?_)
 obtain⟨k,s1,rfl,hk,f,B⟩:=a
 have l1:=l0.next (kR 255) B
 refine .mo rfl ?_
 refine .aT (lM b s1 T1 f _) (λu T2 a=>?_)
 obtain⟨n,s2,rfl,hn,h2,I⟩:=a
 have l2:=l1.next oV I
 refine .q .fv<|.fa rfl<|.ca rfl rfl<|.fa rfl<|.ca rfl rfl<|.z<|.mo rfl ?_
 refine .call [1] (Mo b s2 T2 h2 l2 _) (λu H' a=>?_)
 obtain⟨T3,D3,rfl,⟨c1,c2,c4,c3⟩,t,s3,rfl,j,h3,J⟩:=a
 conv=>arg 7;simp only[CR.cells]
 conv=>arg 8;simp only[rest,bf,adN,adO,bT]
 have l3:=l2.next uT J
 have i3:=j.u.ay
 have i4:=j.s.ay
 simp only at i3 i4
 refine .fa rfl<|.bZ rfl rfl<|.z<|.mo rfl ?_
 refine .aT (iE b s3 T3 h3 l3 _) (λu T4 a=>?_)
 obtain⟨us,s4,rfl,h4,K⟩:=a
 have l4:=l3.next fF K
 refine .mo rfl ?_
 refine .aT (iE b s4 T4 h4 l4 _) (λu T5 a=>?_)
 obtain⟨a0,s5,rfl,h5,L⟩:=a
 have l5:=l4.next fF L
 refine .mo rfl ?_
 refine .aT (iE b s5 T5 h5 l5 _) (λu T6 a=>?_)
 obtain⟨se,s6,rfl,h6,M⟩:=a
 have l6:=l5.next fF M
 refine .mo rfl ?_
 refine .aT (iE b s6 T6 h6 l6 _) (λu T7 a=>?_)
 obtain⟨ur,s7,rfl,h7,N⟩:=a
 have l7:=l6.next fF N
 refine .fa rfl<|.ca rfl rfl<|.fa rfl<|.ca rfl rfl<|.fa rfl<|.ca rfl rfl<|.fa rfl<|.ca rfl rfl<|.z<|.mo rfl ?_
 refine .call [0] (tm b s7 T7 h7 l7 _) (λv8 H' a=>?_)
 obtain⟨T8,D8,rfl,sc,s8,Y,h8,O⟩:=a
 conv=>arg 8;simp only[rest,bf,adN,adO,bT]
 have l8:=l7.next (lu fF) O
 have i8:=Y.ay
 refine .fa rfl<|.ca rfl rfl<|.z<|.mo rfl ?_
 refine .aT (iE b s8 T8 h8 l8 _) (λu T9 a=>?_)
 obtain⟨wo,s9,rfl,h9,Q⟩:=a
 have l9:=l8.next fF Q
 refine .mo rfl ?_
 refine .aT (iE b s9 T9 h9 l9 _) (λu b3 a=>?_)
 obtain⟨te,d3,rfl,c6,C⟩:=a
 have a1:=l9.next fF C
 refine .fa rfl<|.ca rfl rfl<|.fa rfl<|.ca rfl rfl<|.z<|.mo rfl ?_
 refine .call [0] (tn b d3 b3 c6 a1 _) (λd9 H' a=>?_)
 obtain⟨b4,a7,rfl,x,d4,S,c7,D⟩:=a
 conv=>arg 8;simp only[rest,bf,adN,adO,bT]
 have a2:=a1.next qb D
 have f4:=S.ay
 refine .mo rfl ?_
 refine .call [0] (tn b d4 b4 c7 a2 _) (λe0 H' a=>?_)
 obtain⟨b6,a8,rfl,y,d5,U,c8,E⟩:=a
 conv=>arg 8;simp only[rest,bf,adN,adO,bT]
 have a3:=a2.next qb E
 have f5:=U.ay
 refine .fa rfl<|.ca rfl rfl<|.fa rfl<|.ca rfl rfl<|.z<|.mo rfl ?_
 refine .call [0] (xO b d5 b6 c8 a3 _) (λf0 H' a=>?_)
 obtain⟨b7,a9,rfl,mu,d6,V,c9,F⟩:=a
 conv=>arg 8;simp only[rest,bf,adN,adO,bT]
 have a4:=a3.next (lu oU) F
 have f6:=V.ay
 refine .mo rfl ?_
 refine .call [0] (xO b d6 b7 c9 a4 _) (λf1 H' a=>?_)
 obtain⟨b8,b0,rfl,no,d7,W,d0,G⟩:=a
 conv=>arg 8;simp only[rest,bf,adN,adO,bT]
 have a5:=a4.next (lu oU) G
 have f7:=W.ay
 refine .fa rfl<|.ca rfl rfl<|.fa rfl<|.ca rfl rfl<|.z<|.mo rfl ?_
 refine .call [0] (Ol b d7 b8 d0 a5 _) (λf2 H' a=>?_)
 obtain⟨b9,b1,rfl,A,d8,X,d1,H⟩:=a
 conv=>arg 8;simp only[rest,bf,adN,adO,bT]
 have f9:=a5.next (lu rQ) H
 have f8:=X.ay
 refine .fa rfl<|.ca rfl rfl<|.z<|.mo rfl ?_
 refine .aT (lM b d8 b9 d1 _) (λu c0 a=>?_)
 obtain⟨a6,m,rfl,f3,d2,c5⟩:=a
 have i:lL xs=m.map λr=>((⟨(k:Int),IntKind.i64.wrap (n:Int),t,us,a0,se,ur,sc,wo,te,x,y,mu,no,A,a6⟩:eT),r):=by
  have:(some xs).bind lL=lL xs:=rfl
  rw[<-this]
  unfold lL
  rw[dK B,dK I,dK J,dK K,dK L,dK M,dK N,dK O,dK Q,dK C,dK D,dK E,dK F,dK G,dK H,dK c5,oQ]
 refine .fa rfl<|.ca rfl rfl<|.zs<|.sr ?_
 conv=>arg 8;simp only[bT]
 refine .mo rfl ?_
 refine .aH (xV b m c0 d2 _ (λp hp=>.inr (by simp[hp]))) (λu a=>?_)
 obtain⟨e,rfl,Z⟩:=a
 refine .q .cb<|.zn ?_
 refine .cond rfl (λf=>?_) λf=>?_
 refine .sr ?_
 refine .q .cC ?_
 refine .bZ rfl rfl<|.ag rfl<|.nil ?_
 conv=>arg 4;simp only[bT]
 refine aG ?_
 refine .ret (aR (aO _ (.two (.ej rfl rfl) (.tmp rfl)) (.one [1,1,1,1,1,1,1] _) ?_))
 ·have l:e≠0:=by simpa using f
  refine⟨_,rfl,mi,mR,4,rfl,fO.zero _,.inr ⟨rfl,rfl,λo' g=>l (Z.2 ?_)⟩⟩
  rw[i]at g
  cases m with
  |none=>cases g
  |some r=>
   simp only[Option.map_some,Option.some.injEq,Prod.mk.injEq]at g
   rw[g.2]
 refine .kn<|.sr<|.q (.bj rfl)<|.bZ rfl rfl<|.ag rfl<|.nil ?_
 conv=>arg 4;simp only[bT]
 refine aG ?_
 refine .ret (aO _ (.two (.ej rfl rfl) (.tmp rfl)) (.one [1,1,1,1,1,1,1] _) ?_)
 ·have l:e=0:=by simpa using f
  have hs:=Z.1 l
  rw[hs]at i
  refine⟨_,rfl,⟨⟨c1,c2,c4,c3⟩,v8,d9,e0,f0,f1,f2⟩,⟨(k:Int),IntKind.i64.wrap (n:Int),t,us,a0,se,ur,sc,wo,te,x,y,mu,no,A,a6⟩,0,rfl,⟨?_,?_,?_,?_,?_,?_,?_⟩,.inl ⟨rfl,i⟩⟩
  ·exact j.mono λb o c=>by have d:(b,o)∈D3:=c;simp[sg,take,bf,d]
  ·exact Y.sg.mono λb o c=>by have d:(b,o)∈D8:=c;simp[sg,take,bf,d]
  ·exact S.sg.mono λb o c=>by have d:(b,o)∈a7:=c;simp[sg,take,bf,d]
  ·exact U.sg.mono λb o c=>by have d:(b,o)∈a8:=c;simp[sg,take,bf,d]
  ·exact V.sg.mono λb o c=>by have d:(b,o)∈a9:=c;simp[sg,take,bf,d]
  ·exact W.sg.mono λb o c=>by have d:(b,o)∈b0:=c;simp[sg,take,bf,d]
  ·exact X.sg.mono λb o c=>by have d:(b,o)∈b1:=c;simp[sg,take,bf,d]
theorem uc(t:aZ)(R:ao):Spec prog 100 [.agg t.enc.toArray] R [] λu H'=>u=.agg t.short.enc.toArray/\H'=[]:=by
 obtain⟨c,b,d,h,g,e,f⟩:=t
 refine Spec.body func100 rfl results100 ntmps100 rfl ?_
 refine .sr ?_
 refine .cc rfl (λi=>?_)
 refine .cn (λj=>?_)
 refine .z<|.fa rfl<|.q (.loadT rfl) ?_
 refine .cn (λk=>?_)
 refine .bZ rfl rfl<|.zs<|.cq [29] mixed ?_
 refine .tO 0 rfl (.fieldAddr rfl)<|.tO 1 rfl (.fieldAddr rfl)<|.tO 2 rfl (.bo rfl)<|.tO 4 rfl (.fieldAddr rfl)<|.tO 5 rfl (.fieldAddr rfl)<|.tO 6 rfl (.bo rfl)<|.tO 9 rfl (.fieldAddr rfl)<|.tO 10 rfl (.bo rfl)<|.tO 12 rfl (.fieldAddr rfl)<|.tO 13 rfl (.bo rfl)<|.tO 15 rfl (.fieldAddr rfl)<|.tO 16 rfl (.fieldAddr rfl)<|.tO 17 rfl (.bo rfl)<|.tO 19 rfl (.fieldAddr rfl)<|.tO 20 rfl (.fieldAddr rfl)<|.tO 21 rfl (.bo rfl)<|.tO 24 rfl (.fieldAddr rfl)<|.tO 25 rfl (.bo rfl) ?_
 refine .sT 3 rfl ?_
 refine .aH (gZ c 40 _) (λu a=>?_)
 subst a
 refine .nil (Next.sub ?_)
 refine .sT 7 rfl ?_
 refine .aH (gZ b 40 _) (λu a=>?_)
 subst a
 refine .nil (Next.sub ?_)
 refine .tO 8 rfl .cC ?_
 refine .sT 11 rfl ?_
 refine .aH (gZ d 40 _) (λu a=>?_)
 subst a
 refine .nil (Next.sub ?_)
 refine .sT 14 rfl ?_
 refine .aH (gZ h 40 _) (λu a=>?_)
 subst a
 refine .nil (Next.sub ?_)
 refine .sT 18 rfl ?_
 refine .aH (gZ g 40 _) (λu a=>?_)
 subst a
 refine .nil (Next.sub ?_)
 refine .sT 22 rfl ?_
 refine .aH (gZ e 40 _) (λu a=>?_)
 subst a
 refine .nil (Next.sub ?_)
 refine .tO 23 rfl .cC ?_
 refine .sT 26 rfl ?_
 refine .aH (gZ f 40 _) (λu a=>?_)
 subst a
 refine .nil (Next.sub ?_)
 refine .tO 27 rfl .cC ?_
 refine .tO 28 rfl .cC ?_
 refine .sT 29 rfl ?_
 refine .bZ rfl rfl ?_
 refine .nil (Next.mod rfl ?_)
 refine RA.nil (by kernel_rfl) ?_
 refine aG ?_
 refine .ret (aO _ (.one (.ej rfl rfl)) (.none _) ?_)
 ·exact⟨rfl,rfl⟩
abbrev nA(l:List Value):List Value:=l
def fc(a b c:Value):List Value:=[.int .i64 0,a,b,c,.string ⟨#[]⟩,.string ⟨#[]⟩,.string ⟨#[]⟩,.string ⟨#[]⟩,.string ⟨#[]⟩,.string ⟨#[]⟩,.string ⟨#[]⟩,.int .u64 0]
theorem sh(a b c:Value) [One a] [One b] [One c]:bI (fc a b c):=by unfold fc;infer_instance
theorem LS(v k g f:Value)(cS no:List aZ)(cs:List cj)(R RD:ao)(h:RS R 12 nA v [fc k g f])(o:RS RD 7 aZ.enc k cS)(p:RS RD 7 aZ.enc g no)(n:RS RD 8 cj.enc f cs):
  Spec prog 98 [v,.int .i64 1] R [] λu H'=>∃T,H'=[T]/\∃a b c,OS 177 12 nA u [fc a b c] T/\RS RD 7 aZ.enc a (cS.take 34)/\RS RD 7 aZ.enc b (no.take 34)/\RS RD 8 cj.enc c (cs.take 34):=by
 have iv:=h.ay
 have im:=o.ay
 have a2:=p.ay
 have ic:=n.ay
 have a3:bI (nA (fc k g f)):=sh k g f
 refine Spec.du (H':=[[]]) (by simp) ?_
 refine Spec.body func98 rfl results98 ntmps98 rfl ?_
 refine .sr<|.ag rfl<|.z<|.ag rfl<|.zs<|.sr<|.az rfl<|.block ?_
 refine .loop (X:=Nat×Value×au) (λy=>One y.2.1/\((y.1=0/\y.2.1=sZ/\y.2.2=[])\/(y.1=1/\∃a b c,OS 177 12 nA y.2.1 [fc a b c] y.2.2/\RS RD 7 aZ.enc a (cS.take 34)/\RS RD 7 aZ.enc b (no.take 34)/\RS RD 8 cj.enc c (cs.take 34)))) (λy=>[(0,v),(1,.int .i64 1),(5,y.2.1),(6,iN y.1)]) (λy=>[y.2.2]) (λy=>1-y.1) (0,sZ,[]) ⟨⟨rfl⟩,.inl ⟨rfl,rfl,rfl⟩⟩ kE.c.c.c.c rH ?_
 rintro⟨i,vo,M⟩ ⟨io,D⟩
 simp only at io D⊢
 refine .seq<|.sr<|.mo rfl<|.mo rfl<|.q (.cv h) ?_
 refine .q .lss<|.mo rfl ?_
 refine .split (t:=12) rfl (λd=>?_) (λd=>?_)
 refine .gT d<|.mo rfl<|.gT d<|.mo rfl<|.gT d<|.q .lss<|.q (.bA d) ?_
 refine .zn ?_
 refine .cond rfl (λG=>?_) λG=>?_
 have a1:i<1:=by
  have:=bp d
  simp only[List.length_cons,adP]at this
  omega
 obtain⟨rfl,rfl,rfl⟩:=D.resolve_right (λC=>by omega)
 refine .kn<|.seq<|.block<|.sr<|.mo rfl<|.mo rfl ?_
 refine .cB 0 h (show [fc k g f][0]? =some (fc k g f)from rfl) (λa7=>?_)
 refine .q (.bj rfl) ?_
 refine .cn (λl=>?_)
 refine .bZ rfl rfl<|.zs<|.sr<|.fa rfl<|.lo rfl<|.q (.cv o) ?_
 refine .q .gtr<|.zn ?_
 refine bF.cut (X:=Value) (λw=>RS RD 7 aZ.enc w (cS.take 34)) (λw=>[(0,v),(1,.int .i64 1),(5,sZ),(6,.int .i64 0),(7,pT l)]) (λw=>[bl l (fc w g f) 177,[]]) ?_ ?_
 refine .cond rfl (λs=>?_) λs=>?_
 refine .region<|.fa rfl<|.lo rfl ?_
 refine .ld (R':=RD) 0 34 o rfl ⟨_,rfl⟩ (by omega) (by have:=bp s;omega) (λj e=>?_)
 have V:=e.ay
 refine .fa rfl<|.ca rfl rfl<|.nil ?_
 ·first
   |exact aN j (by simpa using e) kE.c.c.c.c.c rH
   |exact aN k (by rw[adS (by have:=ba s;omega)];exact o) kE.c.c.c.c.c rH
 refine .skip ?_
 ·first
   |exact aN j (by simpa using e) kE.c.c.c.c.c rH
   |exact aN k (by rw[adS (by have:=ba s;omega)];exact o) kE.c.c.c.c.c rH
 intro x O
 revert x
 intro m S
 have a5:=S.ay
 refine aG<|.seq<|.sr<|.fa rfl<|.lo rfl<|.q (.cv p) ?_
 refine .q .gtr<|.zn ?_
 refine bF.cut (X:=Value) (λw=>RS RD 7 aZ.enc w (no.take 34)) (λw=>[(0,v),(1,.int .i64 1),(5,sZ),(6,.int .i64 0),(7,pT l)]) (λw=>[bl l (fc m w f) 177,[]]) ?_ ?_
 refine .cond rfl (λA=>?_) λA=>?_
 refine .region<|.fa rfl<|.lo rfl ?_
 refine .ld (R':=RD) 0 34 p rfl ⟨_,rfl⟩ (by omega) (by have:=bp A;omega) (λj e=>?_)
 have V:=e.ay
 refine .fa rfl<|.ca rfl rfl<|.nil ?_
 ·first
   |exact aN j (by simpa using e) kE.c.c.c.c.c rH
   |exact aN g (by rw[adS (by have:=ba A;omega)];exact p) kE.c.c.c.c.c rH
 refine .skip ?_
 ·first
   |exact aN j (by simpa using e) kE.c.c.c.c.c rH
   |exact aN g (by rw[adS (by have:=ba A;omega)];exact p) kE.c.c.c.c.c rH
 intro x O
 revert x
 intro r U
 have a6:=U.ay
 refine aG<|.seq<|.sr<|.fa rfl<|.lo rfl<|.q (.cv n) ?_
 refine .q .gtr<|.zn ?_
 refine bF.cut (X:=Value) (λw=>RS RD 8 cj.enc w (cs.take 34)) (λw=>[(0,v),(1,.int .i64 1),(5,sZ),(6,.int .i64 0),(7,pT l)]) (λw=>[bl l (fc m r w) 177,[]]) ?_ ?_
 refine .cond rfl (λB=>?_) λB=>?_
 refine .region<|.fa rfl<|.lo rfl ?_
 refine .ld (R':=RD) 0 34 n rfl ⟨_,rfl⟩ (by omega) (by have:=bp B;omega) (λj e=>?_)
 have V:=e.ay
 refine .fa rfl<|.ca rfl rfl<|.nil ?_
 ·first
   |exact aN j (by simpa using e) kE.c.c.c.c.c rH
   |exact aN f (by rw[adS (by have:=ba B;omega)];exact n) kE.c.c.c.c.c rH
 refine .skip ?_
 ·first
   |exact aN j (by simpa using e) kE.c.c.c.c.c rH
   |exact aN f (by rw[adS (by have:=ba B;omega)];exact n) kE.c.c.c.c.c rH
 intro x O
 revert x
 intro F Q
 have a4:=Q.ay
 have Z:bI (fc m r F):=sh m r F
 refine aG<|.region<|.mo rfl<|.q (.bj rfl) ?_
 refine .hY (λa0=>?_)
 refine .append (OS.nil (E:=177) (sz:=12) (enc:=nA)) (RS.lits (xs:=[fc m r F]) rfl (by simp[fc]) (by have:=Z.h;simpa using this)) (by simp) (λv9 W N=>?_)
 have Y:=N.ay
 refine .ag rfl<|.nil<|bz<|aG<|.region<|.mo rfl ?_
 refine .ia (0+1) .add ?_
 refine .ag rfl<|.nil ?_
 ·exact br (1,v9,W) ⟨Y,.inr ⟨rfl,m,r,F,by simpa using N,S,U,Q⟩⟩ (by simp) kE.c.c.c.c (bG [2])
 refine .exit<|bk<|bw<|bq<|aG<|.sr<|.mo rfl<|.az rfl ?_
 refine .ret (aO _ (.one (.tmp rfl)) (.one [0] _) ?_)
 ·have L:i≠0:=by
   first
    |(have:=ba d;simp at this;omega)
    |(have:=ba G;omega)
  obtain⟨_,a,b,c,H,I,J,K⟩:=D.resolve_left (λC=>L C.1)
  exact⟨M,by simp[take],a,b,c,H,I,J,K⟩
 refine .gF d<|.gF d<|.gF d<|.q (.bg d) ?_
 refine .zn<|.bB<|.exit<|bk<|bw<|bq<|aG<|.sr<|.mo rfl<|.az rfl ?_
 refine .ret (aO _ (.one (.tmp rfl)) (.one [0] _) ?_)
 ·have L:i≠0:=by
   first
    |(have:=ba d;simp at this;omega)
    |(have:=ba G;omega)
  obtain⟨_,a,b,c,H,I,J,K⟩:=D.resolve_left (λC=>L C.1)
  exact⟨M,by simp[take],a,b,c,H,I,J,K⟩
def c5(o:eT)(cr:CR)(vs vx vy:Value)(tx:ByteArray)(a b c:Value):List Value:=[.int .i64 o.kind,.int .i64 o.n,.string cr.id,.string cr.cL,cr.vu,cr.vs,.string (short o.user 40),.string (short o.id 40),.string (short o.cL 70),.string (short o.uri 210),vs,.string (short o.word 140),.string tx,vx,vy,a,b,c,.int .u64 (o.rev:Nat)]
theorem uG(o:eT)(d:CR)(vs e f:Value)(g:ByteArray)(a b c:Value) [One d.vu] [One d.vs] [One vs] [One e] [One f] [One a] [One b] [One c]:bI (c5 o d vs e f g a b c):=by unfold c5;infer_instance
theorem NX(w:OW)(o:eT)(R:ao)(h:fO R w o):Spec prog 28 [.agg (dq w o).toArray] R [] λu H'=>∃T,H'=[T]/\∃w',u=.agg (dq w' o.ga).toArray/\fO (sg T) w' o.ga:=by
  have i1:bI (dq w o):=⟨h.bU⟩
  obtain⟨⟨a7,a8,vu,a9⟩,vs,vx,vy,vm,vn,vc⟩:=w
  have hc:eG R ⟨a7,a8,vu,a9⟩ o.cl:=h.c
  have hs:RS R 1 bL vs o.scopes:=h.s
  have hx:RS R 1 bS vx o.x:=h.x
  have hy:RS R 1 bS vy o.y:=h.y
  have hm:RS R 7 aZ.enc vm o.cS:=h.m
  have hn:RS R 7 aZ.enc vn o.no:=h.n
  have hg:RS R 8 cj.enc vc o.cs:=h.g
  have j7:=hc.u.ay
  have j8:=hc.s.ay
  simp only at j7 j8
  clear h
  obtain⟨q1,k1,rfl⟩:=hs.val
  obtain⟨q2,k2,rfl⟩:=hx.val
  obtain⟨q3,k3,rfl⟩:=hy.val
  obtain⟨q4,k4,rfl⟩:=hm.val
  obtain⟨q5,k5,rfl⟩:=hn.val
  obtain⟨q6,k6,rfl⟩:=hg.val
  refine Spec.body func28 rfl results28 ntmps28 rfl ?_
  refine .sr ?_
  refine .cc rfl (λb1=>?_)
  refine .cn (λF=>?_)
  refine .z<|.fa rfl<|.q (.loadT rfl) ?_
  refine .fa rfl<|.lo rfl<|.fa rfl<|.lo rfl<|.fa rfl<|.lo rfl<|.fa rfl<|.lo rfl<|.fa rfl<|.lo rfl<|.fa rfl<|.lo rfl<|.fa rfl<|.lo rfl<|.fa rfl<|.lo rfl<|.fa rfl<|.lo rfl ?_
  refine .q .cC ?_
  refine .bM (N6 ⟨⟨a7,a8,vu,a9⟩,.slice q1 o.scopes.length k1,.slice q2 o.x.length k2,.slice q3 o.y.length k3⟩ ⟨0,0,o.cl,o.user,o.id,o.cL,o.uri,o.scopes,o.word,o.text,o.x,o.y,0⟩ _ ⟨hc.mono λb o e=>.inl e,hs.rx,hx.rx,hy.rx⟩) (λu l r=>?_)
  obtain⟨⟨⟨v,A,D,C⟩,b0,b6,b7⟩,rfl,V⟩:=r
  have a3:eG (sg l) ⟨v,A,D,C⟩ o.cl.short:=V.1
  have a4:RS (sg l) 1 bL b0 (texts o.scopes 6 40):=V.2.1
  have a5:RS (sg l) 1 bS b6 (o.x.take 30):=V.2.2.1
  have a6:RS (sg l) 1 bS b7 (o.y.take 30):=V.2.2.2
  have ir:bI (mJ ⟨⟨v,A,D,C⟩,b0,b6,b7⟩ (OC.ga ⟨0,0,o.cl,o.user,o.id,o.cL,o.uri,o.scopes,o.word,o.text,o.x,o.y,0⟩)):=⟨V.bU⟩
  have r7:=a3.u.ay
  have r8:=a3.s.ay
  simp only at r7 r8
  have r1:=a4.ay
  have r2:=a5.ay
  have r3:=a6.ay
  clear V
  obtain⟨Q,M,rfl⟩:=a4.val
  obtain⟨S,N,rfl⟩:=a5.val
  obtain⟨U,O,rfl⟩:=a6.val
  refine .cn (λb3=>?_)
  refine .bZ rfl rfl<|.z ?_
  conv=>arg 8;simp only[bT,mJ,OC.ga]
  refine .fa rfl<|.lo rfl<|.fa rfl<|.lo rfl<|.fa rfl<|.lo rfl ?_
  refine .q .cC ?_
  refine .hY (λc0=>?_)
  refine .bM (LS _ (.slice q4 o.cS.length k4) (.slice q5 o.no.length k5) (.slice q6 o.cs.length k6) o.cS o.no o.cs _ R (RS.lits (xs:=[fc (.slice q4 o.cS.length k4) (.slice q5 o.no.length k5) (.slice q6 o.cs.length k6)]) rfl (by simp[fc]) (by simp[fc,ay])) hm hn hg) (λu TF r=>?_)
  obtain⟨a,b,c,hF,ha,e,Z⟩:=r
  have ia:=ha.ay
  have ib:=e.ay
  have ic:=Z.ay
  have c6:bI (nA (fc a b c)):=sh a b c
  have c8:(o.cS.take 34).length<=34:=by simp;omega
  have c9:(o.no.take 34).length<=34:=by simp;omega
  have c7:(o.cs.take 34).length<=34:=by simp;omega
  refine .aU 0 hF (show [fc a b c][0]? =some (fc a b c)from rfl) (λd1=>?_)
  refine .q (.bj rfl) ?_
  refine .cn (λG=>?_)
  refine .bZ rfl rfl<|.z<|.fa rfl<|.lo rfl<|.fa rfl<|.lo rfl<|.fa rfl<|.q (.loadT rfl) ?_
  refine .fa rfl<|.lo rfl<|.fa rfl<|.lo rfl<|.fa rfl<|.lo rfl<|.fa rfl<|.lo rfl<|.fa rfl<|.lo rfl<|.fa rfl<|.lo rfl<|.fa rfl<|.lo rfl<|.fa rfl<|.lo rfl<|.fa rfl<|.lo rfl<|.fa rfl<|.lo rfl ?_
  have c3:bI (c5 o ⟨v,A,D,C⟩ (.slice Q (texts o.scopes 6 40).length M) (.slice S (o.x.take 30).length N) (.slice U (o.y.take 30).length O) (short o.text 60) (sZ) (sZ) (sZ)):=uG _ _ _ _ _ _ _ _ _
  refine .q (.cast (v':=.agg (c5 o ⟨v,A,D,C⟩ (.slice Q (texts o.scopes 6 40).length M) (.slice S (o.x.take 30).length N) (.slice U (o.y.take 30).length O) (short o.text 60) (sZ) (sZ) (sZ)).toArray) .cC rfl) ?_
  refine .cn (λH=>?_)
  refine .bZ rfl rfl<|.zs<|.sr<|.fa rfl<|.lo rfl<|.q .cG<|.zn ?_
  refine bF.cut (X:=ByteArray) (λtx=>tx=short o.text (if o.kind=11 then 900 else 60)) (λtx=>[(1,pT b1),(2,pT F),(4,pT G),(5,pT H)]) (λtx=>[bl H (c5 o ⟨v,A,D,C⟩ (.slice Q (texts o.scopes 6 40).length M) (.slice S (o.x.take 30).length N) (.slice U (o.y.take 30).length O) tx (sZ) (sZ) (sZ)) 30,bl G (fc a b c) 177,l,bl F (dq mi mR) 30]) ?_ ?_
  refine .cond rfl (λY=>?_) λY=>?_
  refine .region<|.fa rfl<|.lo rfl ?_
  refine .aH (gZ o.text 900 _) (λu r=>?_)
  subst r
  refine .fa rfl<|.ca rfl rfl<|.nil ?_
  ·first
      |exact aN (short o.text 900) (by have L:o.kind=11:=by simpa using Y
                                       rw[if_pos L]) kE.c.c.c.c (bG [0,0,3,3])
      |exact aN (short o.text 60) (by have L:¬o.kind=11:=by simpa using Y
                                      rw[if_neg L]) kE.c.c.c.c (bG [0,0,3,3])
  refine .skip ?_
  ·first
      |exact aN (short o.text 900) (by have L:o.kind=11:=by simpa using Y
                                       rw[if_pos L]) kE.c.c.c.c (bG [0,0,3,3])
      |exact aN (short o.text 60) (by have L:¬o.kind=11:=by simpa using Y
                                      rw[if_neg L]) kE.c.c.c.c (bG [0,0,3,3])
  intro x hx
  refine aG<|.seq<|.sr<|.az rfl<|.block ?_
  refine .loop (X:=Nat×Value×au) (λy=>y.1<=(o.cS.take 34).length/\OS 154 7 aZ.enc y.2.1 (((o.cS.take 34).take y.1).map aZ.short) y.2.2) (λy=>[(1,pT b1),(2,pT F),(4,pT G),(5,pT H),(6,iN y.1)]) (λy=>[bl H (c5 o ⟨v,A,D,C⟩ (.slice Q (texts o.scopes 6 40).length M) (.slice S (o.x.take 30).length N) (.slice U (o.y.take 30).length O) x y.2.1 (sZ) (sZ)) 30,y.2.2,bl G (fc a b c) 177,l,bl F (dq mi mR) 30]) (λy=>(o.cS.take 34).length-y.1) (0,sZ,[]) ⟨adQ _,OS.nil⟩ kE.c.c.c.c.c (bu.cu (by simp)) ?_
  rintro⟨i,J,K⟩ ⟨hi,d⟩
  simp only at hi d⊢
  have iO:=d.ay
  refine .seq<|.sr<|.mo rfl<|.fa rfl<|.lo rfl<|.q (.cv ha) ?_
  refine .q .lss<|.zn ?_
  refine .cond rfl (λh2=>?_) λh2=>?_
  have I:i<(o.cS.take 34).length:=by have:=bp h2;omega
  obtain⟨z,t⟩:=dM I
  have a0:((o.cS.take 34).take (i+1)).map aZ.short=((o.cS.take 34).take i).map aZ.short++[z.short]:=by rw[adT,t];simp
  refine .kn<|.seq<|.block<|.sr<|.fa rfl<|.lo rfl<|.az rfl<|.region<|.mo rfl<|.fa rfl<|.lo rfl<|.mo rfl ?_
  refine .cB i ha t (λd2=>?_)
  refine .q (.bj rfl) ?_
  refine .aH (uc z _) (λu r=>?_)
  subst r
  refine .hY (λc1=>?_)
  refine .append d (RS.lits (xs:=[z.short]) rfl (by simp[aZ.enc]) (by have:=(aZ.one z.short).h;simpa using this)) (by simp;omega) (λv9 W p=>?_)
  have i9:=p.ay
  rw[<-a0]at p
  refine .fa rfl<|.ca rfl rfl<|.nil<|bz<|aG<|.region<|.mo rfl ?_
  refine .ia (i+1) .add ?_
  refine .ag rfl<|.nil ?_
  ·exact br (i+1,v9,W) ⟨I,p⟩ (by simp only;omega) kE.c.c.c.c.c (bG [1,1,1,1,1])
  have he:i=(o.cS.take 34).length:=by have:=ba h2;omega
  rw[he,adR]at d
  obtain⟨B,E,a1⟩:∃B E,OS 154 7 aZ.enc B ((o.cS.take 34).map aZ.short) E/\B=J/\E=K:=⟨J,K,d,rfl,rfl⟩
  obtain⟨a1,rfl,rfl⟩:=a1
  have iM:=a1.ay
  refine .exit<|bk<|bw<|bq<|aG<|.seq<|.sr<|.az rfl<|.block ?_
  refine .loop (X:=Nat×Value×au) (λy=>y.1<=(o.no.take 34).length/\OS 154 7 aZ.enc y.2.1 (((o.no.take 34).take y.1).map aZ.short) y.2.2) (λy=>[(1,pT b1),(2,pT F),(4,pT G),(5,pT H),(8,iN y.1)]) (λy=>[bl H (c5 o ⟨v,A,D,C⟩ (.slice Q (texts o.scopes 6 40).length M) (.slice S (o.x.take 30).length N) (.slice U (o.y.take 30).length O) x B y.2.1 (sZ)) 30,y.2.2,E,bl G (fc a b c) 177,l,bl F (dq mi mR) 30]) (λy=>(o.no.take 34).length-y.1) (0,sZ,[]) ⟨adQ _,OS.nil⟩ kE.c.c.c.c.c (bu.cu (by simp)) ?_
  clear d iO
  rintro⟨j,J,K⟩ ⟨hj,d⟩
  simp only at hj d⊢
  have iO:=d.ay
  refine .seq<|.sr<|.mo rfl<|.fa rfl<|.lo rfl<|.q (.cv e) ?_
  refine .q .lss<|.zn ?_
  refine .cond rfl (λh3=>?_) λh3=>?_
  have I:j<(o.no.take 34).length:=by have:=bp h3;omega
  obtain⟨z,t⟩:=dM I
  have a0:((o.no.take 34).take (j+1)).map aZ.short=((o.no.take 34).take j).map aZ.short++[z.short]:=by rw[adT,t];simp
  refine .kn<|.seq<|.block<|.sr<|.fa rfl<|.lo rfl<|.az rfl<|.region<|.mo rfl<|.fa rfl<|.lo rfl<|.mo rfl ?_
  refine .cB j e t (λd0=>?_)
  refine .q (.bj rfl) ?_
  refine .aH (uc z _) (λu r=>?_)
  subst r
  refine .hY (λb8=>?_)
  refine .append d (RS.lits (xs:=[z.short]) rfl (by simp[aZ.enc]) (by have:=(aZ.one z.short).h;simpa using this)) (by simp;omega) (λv9 W p=>?_)
  have i9:=p.ay
  rw[<-a0]at p
  refine .fa rfl<|.ca rfl rfl<|.nil<|bz<|aG<|.region<|.mo rfl ?_
  refine .ia (j+1) .add ?_
  refine .ag rfl<|.nil ?_
  ·exact br (j+1,v9,W) ⟨I,p⟩ (by simp only;omega) kE.c.c.c.c.c (bG [1,1,1,1,1,1])
  have he:j=(o.no.take 34).length:=by have:=ba h3;omega
  rw[he,adR]at d
  obtain⟨vN,TN,a2⟩:∃B E,OS 154 7 aZ.enc B ((o.no.take 34).map aZ.short) E/\B=J/\E=K:=⟨J,K,d,rfl,rfl⟩
  obtain⟨a2,rfl,rfl⟩:=a2
  have c2:=a2.ay
  refine .exit<|bk<|bw<|bq<|aG<|.seq<|.sr<|.az rfl<|.block ?_
  refine .loop (X:=Nat×Value×au) (λy=>y.1<=(o.cs.take 34).length/\OS 183 8 cj.enc y.2.1 (((o.cs.take 34).take y.1).map cj.short) y.2.2) (λy=>[(1,pT b1),(2,pT F),(4,pT G),(5,pT H),(10,iN y.1)]) (λy=>[bl H (c5 o ⟨v,A,D,C⟩ (.slice Q (texts o.scopes 6 40).length M) (.slice S (o.x.take 30).length N) (.slice U (o.y.take 30).length O) x B vN y.2.1) 30,y.2.2,TN,E,bl G (fc a b c) 177,l,bl F (dq mi mR) 30]) (λy=>(o.cs.take 34).length-y.1) (0,sZ,[]) ⟨adQ _,OS.nil⟩ kE.c.c.c.c.c (bu.cu (by simp)) ?_
  clear d iO
  rintro⟨k,J,K⟩ ⟨hk,d⟩
  simp only at hk d⊢
  have iO:=d.ay
  refine .seq<|.sr<|.mo rfl<|.fa rfl<|.lo rfl<|.q (.cv Z) ?_
  refine .q .lss<|.zn ?_
  refine .cond rfl (λh4=>?_) λh4=>?_
  have I:k<(o.cs.take 34).length:=by have:=bp h4;omega
  obtain⟨⟨zp,zt⟩,t⟩:=dM I
  have a0:((o.cs.take 34).take (k+1)).map cj.short=((o.cs.take 34).take k).map cj.short++[cj.short ⟨zp,zt⟩]:=by rw[adT,t];simp
  have pz:PC R (eA c (k*8)) (cj.enc ⟨zp,zt⟩):=Z.pc t
  refine .kn<|.seq<|.block<|.sr<|.fa rfl<|.lo rfl<|.az rfl<|.cq [16,18] mixed ?_
  refine .tO 0 rfl .move<|.tO 1 rfl (.fieldAddr rfl)<|.tO 2 rfl (.bo rfl)<|.tO 3 rfl .move ?_
  refine .tO 4 rfl (.cB k Z t rfl rfl rfl) ?_
  refine .tO 5 rfl (.fieldAddr rfl)<|.tO 6 rfl (.bo rfl)<|.tO 7 rfl (.fieldAddr rfl)<|.tO 8 rfl (.bo rfl)<|.tO 9 rfl .move ?_
  refine .tO 10 rfl (.cB k Z t rfl rfl rfl) ?_
  refine .tO 11 rfl (.fieldAddr rfl) ?_
  refine .tO 12 rfl (.loadT rfl) ?_
  refine .sT 13 rfl ?_
  refine .aH (uc zt _) (λu r=>?_)
  subst r
  refine .nil (Next.sub ?_)
  refine .tO 14 rfl .cC ?_
  refine .sT 15 rfl ?_
  refine .hY (λb9=>?_)
  refine .nil (Next.sub ?_)
  refine .sT 16 rfl ?_
  refine .append d (RS.lits (xs:=[cj.short ⟨zp,zt⟩]) rfl (by simp[cj.enc,aZ.enc]) (by have:=(cj.one (cj.short ⟨zp,zt⟩)).h;simpa using this)) (by simp;omega) (λv9 W p=>?_)
  have i9:=p.ay
  rw[<-a0]at p
  refine .nil (Next.mod rfl ?_)
  refine .tK 17 rfl (.dU rfl) ?_
  refine .sT 18 rfl ?_
  refine .ca rfl rfl ?_
  refine .nil (Next.mod rfl ?_)
  refine RA.nil (by kernel_rfl) ?_
  refine bz<|aG<|.region<|.mo rfl ?_
  refine .ia (k+1) .add ?_
  refine .ag rfl<|.nil ?_
  ·exact br (k+1,v9,W) ⟨I,p⟩ (by simp only;omega) kE.c.c.c.c.c (bG [1,1,1,1,1,1,1])
  have he:k=(o.cs.take 34).length:=by have:=ba h4;omega
  rw[he,adR]at d
  have c4:=uG o ⟨v,A,D,C⟩ (.slice Q (texts o.scopes 6 40).length M) (.slice S (o.x.take 30).length N) (.slice U (o.y.take 30).length O) x B vN J
  refine .exit<|bk<|bw<|bq<|aG<|.sr<|.q (.bj rfl)<|.bZ rfl rfl<|.zn ?_
  refine .ret (aO _ (.one (.ej rfl rfl)) (.one [1,1,1,2] _) ?_)
  ·subst hx
   refine⟨_,rfl,⟨⟨v,A,D,C⟩,_,_,_,B,vN,J⟩,rfl,⟨?_,?_,?_,?_,?_,?_,?_⟩⟩
   ·exact a3.mono λb o e=>by have f:(b,o)∈l:=e;simp[sg,take,bf,f]
   ·exact a4.mono λb o e=>by have f:(b,o)∈l:=e;simp[sg,take,bf,f]
   ·exact a5.mono λb o e=>by have f:(b,o)∈l:=e;simp[sg,take,bf,f]
   ·exact a6.mono λb o e=>by have f:(b,o)∈l:=e;simp[sg,take,bf,f]
   ·exact a1.sg.mono λb o e=>by have f:(b,o)∈E:=e;simp[sg,take,bf,f]
   ·exact a2.sg.mono λb o e=>by have f:(b,o)∈TN:=e;simp[sg,take,bf,f]
   ·exact d.sg.mono λb o e=>by have f:(b,o)∈K:=e;simp[sg,take,bf,f]
theorem Ns(w:OW)(o:eT)(R:ao)(h:fO R w o):Spec prog 10 [.agg (dq w o).toArray] R [] λu H'=>∃T,H'=[T]/\∃w',u=.agg (dq w' o.ga).toArray/\fO (sg T) w' o.ga:=by
 have Z:bI (dq w o):=⟨h.bU⟩
 refine Spec.body func10 rfl results10 ntmps10 rfl ?_
 refine .sr ?_
 refine .cc rfl (λW=>?_)
 refine .cn (λX=>?_)
 refine .z<|.q (.bj rfl) ?_
 refine .bM (NX w o _ (h.mono λb o t=>.inl t)) (λu r A=>?_)
 obtain⟨p,rfl,a⟩:=A
 have v:=a
 have ir:bI (dq p o.ga):=⟨a.bU⟩
 obtain⟨⟨Q,S,V,U⟩,vs,vx,vy,vm,vn,vc⟩:=p
 have d:=a.c
 have j:=a.s
 have k:=a.x
 have l:=a.y
 have f:=a.m
 have i:=a.n
 have e:=a.g
 simp only at d j k l f i e
 have B:=d.u.ay
 have C:=d.s.ay
 simp only at B C
 obtain⟨J,D,rfl⟩:=j.val
 obtain⟨K,E,rfl⟩:=k.val
 obtain⟨L,F,rfl⟩:=l.val
 obtain⟨M,G,rfl⟩:=f.val
 obtain⟨N,H,rfl⟩:=i.val
 obtain⟨O,I,rfl⟩:=e.val
 refine .cn (λY=>?_)
 refine .bZ rfl rfl<|.z ?_
 conv=>arg 8;simp only[bT,dq]
 refine .fa rfl<|.lo rfl<|.fa rfl<|.lo rfl<|.fa rfl<|.q (.loadT rfl) ?_
 refine .fa rfl<|.lo rfl<|.fa rfl<|.lo rfl<|.fa rfl<|.lo rfl<|.fa rfl<|.lo rfl<|.fa rfl<|.lo rfl<|.fa rfl<|.lo rfl<|.fa rfl<|.lo rfl<|.fa rfl<|.lo rfl<|.fa rfl<|.lo rfl<|.fa rfl<|.lo rfl<|.fa rfl<|.lo rfl<|.fa rfl<|.lo rfl<|.fa rfl<|.lo rfl ?_
 refine .q (.cC (out:=dq ⟨⟨Q,S,V,U⟩,.slice J o.ga.scopes.length D,.slice K o.ga.x.length E,.slice L o.ga.y.length F,.slice M o.ga.cS.length G,.slice N o.ga.no.length H,.slice O o.ga.cs.length I⟩ o.ga) rfl (by simp[eU,bT,dq])) ?_
 refine .bZ rfl rfl<|.zn ?_
 refine .ret (aO _ (.one (.ej rfl rfl)) (.one [1] _) ?_)
 ·exact⟨r,by simp[take,bf],_,rfl,v⟩
end Go.Proofs.YtocjmmbldeljnaaGreatDoor
