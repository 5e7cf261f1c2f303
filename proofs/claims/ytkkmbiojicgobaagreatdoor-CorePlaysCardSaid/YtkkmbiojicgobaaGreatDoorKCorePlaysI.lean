/- What the law 'CorePlays' uses. No condition. -/
import Derived.Test.YtkkmbiojicgobaaGreatDoorKCorePlaysB
import Derived.Test.YtkkmbiojicgobaaGreatDoorKCorePlaysH
set_option linter.unusedSimpArgs false
set_option linter.unusedVariables false
namespace Go.Proofs.YtkkmbiojicgobaaGreatDoor
set_option linter.defProp false
def ac2:=@congrArg
def ac3:=@Bool.eq_iff_iff
def ac4:=@decide_eq_true_eq
open Tryz
set_option linter.unusedVariables false
set_option maxRecDepth 4000
def kx(t u:Tok):Bool:=decide (t.text=u.text)&&(t.kind==u.kind)&&decide (t.aC=u.aC)&&decide (t.user=u.user)&&decide (t.scopes=u.scopes)&&(t.family==u.family)&&(t.cb==u.cb)&&(t.rev==u.rev)&&(t.used==u.used)
theorem MX{t u:Tok}:kx t u=true↔t=u:=by
 obtain⟨a,b,c,d,e,f,g,h,i⟩:=t
 obtain⟨j,k,l,m,n,o,p,q,r⟩:=u
 simp[kx,and_assoc]
theorem xM(t:Tok):kx t t=true:=MX.2 rfl
theorem xN(w w':Value)(t u:Tok)(R:au)(h:dh R (w,t))(l:dh R (w',u)):Spec prog 12 [.agg (bA (w,t)).toArray,.agg (bA (w',u)).toArray] R [] λv H'=>v=.bool (kx t u)/\H'=[]:=by
 have L:bG (bA (w,t)):=⟨h.bD⟩
 have M:bG (bA (w',u)):=⟨l.bD⟩
 have j:RS R 1 bz w t.scopes:=h
 have k:RS R 1 bz w' u.scopes:=l
 have N:=j.av
 have O:=k.av
 obtain⟨s,x,y,A,m,B,C,D,E⟩:=t
 obtain⟨F,n,o,G,p,H,I,J,K⟩:=u
 simp only at j k
 refine Spec.body func12 rfl results12 ntmps12 rfl ?_
 refine .sr ?_
 refine .dA rfl (λn=>?_)
 refine .dA rfl (λo=>?_)
 refine .ag rfl<|.z<|.fa rfl<|.lo rfl<|.fa rfl<|.lo rfl<|.q .eg<|.mo rfl ?_
 refine .split (t:=10) rfl (λg=>?_) (λg=>?_)
 refine .gT g<|.fa rfl<|.gT g<|.lo rfl<|.gT g<|.fa rfl<|.gT g<|.lo rfl<|.gT g<|.q .bR<|.q (.aW g) ?_
 refine .mo rfl ?_
 refine .split (t:=17) rfl (λa=>?_) (λa=>?_)
 refine .gT a<|.fa rfl<|.gT a<|.lo rfl<|.gT a<|.fa rfl<|.gT a<|.lo rfl<|.gT a<|.q .eg<|.q (.aW a) ?_
 refine .mo rfl ?_
 refine .split (t:=24) rfl (λb=>?_) (λb=>?_)
 refine .gT b<|.fa rfl<|.gT b<|.lo rfl<|.gT b<|.fa rfl<|.gT b<|.lo rfl<|.gT b<|.q .eg<|.q (.aW b) ?_
 refine .mo rfl ?_
 refine .split (t:=31) rfl (λc=>?_) (λc=>?_)
 refine .gT c<|.fa rfl<|.gT c<|.lo rfl<|.gT c<|.fa rfl<|.gT c<|.lo rfl<|.gT c ?_
 refine .aL (o9 w w' m p _ j.rx k.rx) (λv r=>?_)
 subst r
 refine .q (.aW c) ?_
 refine .mo rfl ?_
 refine .split (t:=38) rfl (λd=>?_) (λd=>?_)
 refine .gT d<|.fa rfl<|.gT d<|.lo rfl<|.gT d<|.fa rfl<|.gT d<|.lo rfl<|.gT d<|.q .bR<|.q (.aW d) ?_
 refine .mo rfl ?_
 refine .split (t:=45) rfl (λe=>?_) (λe=>?_)
 refine .gT e<|.fa rfl<|.gT e<|.lo rfl<|.gT e<|.fa rfl<|.gT e<|.lo rfl<|.gT e<|.q .bR<|.q (.aW e) ?_
 refine .mo rfl ?_
 refine .split (t:=52) rfl (λf=>?_) (λf=>?_)
 refine .gT f<|.fa rfl<|.gT f<|.lo rfl<|.gT f<|.fa rfl<|.gT f<|.lo rfl<|.gT f<|.q .bR<|.q (.aW f) ?_
 refine .mo rfl ?_
 refine .split (t:=59) rfl (λi=>?_) (λi=>?_)
 refine .gT i<|.fa rfl<|.gT i<|.lo rfl<|.gT i<|.fa rfl<|.gT i<|.lo rfl<|.gT i<|.q .uM<|.q (.aW i) ?_
 refine .az rfl ?_
 refine .ret (aO rfl ?_)
 ·refine⟨ac2 _ ?_,rfl⟩
  simp_all[kx]
 refine .gF i<|.gF i<|.gF i<|.gF i<|.gF i<|.q (.aQ i) ?_
 refine .az rfl ?_
 refine .ret (aO rfl ?_)
 ·refine⟨ac2 _ ?_,rfl⟩
  simp_all[kx]
 refine .gF f<|.gF f<|.gF f<|.gF f<|.gF f<|.q (.aQ f) ?_
 refine .mo rfl<|.gX<|.gX<|.gX<|.gX<|.gX<|.q .bW<|.az rfl ?_
 refine .ret (aO rfl ?_)
 ·refine⟨ac2 _ ?_,rfl⟩
  simp_all[kx]
 refine .gF e<|.gF e<|.gF e<|.gF e<|.gF e<|.q (.aQ e) ?_
 refine .mo rfl<|.gX<|.gX<|.gX<|.gX<|.gX<|.q .bW<|.mo rfl<|.gX<|.gX<|.gX<|.gX<|.gX<|.q .bW<|.az rfl ?_
 refine .ret (aO rfl ?_)
 ·refine⟨ac2 _ ?_,rfl⟩
  simp_all[kx]
 refine .gF d<|.gF d<|.gF d<|.gF d<|.gF d<|.q (.aQ d) ?_
 refine .mo rfl<|.gX<|.gX<|.gX<|.gX<|.gX<|.q .bW<|.mo rfl<|.gX<|.gX<|.gX<|.gX<|.gX<|.q .bW<|.mo rfl<|.gX<|.gX<|.gX<|.gX<|.gX<|.q .bW<|.az rfl ?_
 refine .ret (aO rfl ?_)
 ·refine⟨ac2 _ ?_,rfl⟩
  simp_all[kx]
 refine .gF c<|.gF c<|.gF c<|.gF c<|.gF c<|.q (.aQ c) ?_
 refine .mo rfl<|.gX<|.gX<|.gX<|.gX<|.gX<|.q .bW<|.mo rfl<|.gX<|.gX<|.gX<|.gX<|.gX<|.q .bW<|.mo rfl<|.gX<|.gX<|.gX<|.gX<|.gX<|.q .bW<|.mo rfl<|.gX<|.gX<|.gX<|.gX<|.gX<|.q .bW<|.az rfl ?_
 refine .ret (aO rfl ?_)
 ·refine⟨ac2 _ ?_,rfl⟩
  simp_all[kx]
 refine .gF b<|.gF b<|.gF b<|.gF b<|.gF b<|.q (.aQ b) ?_
 refine .mo rfl<|.gX<|.gX<|.gX<|.gX<|.gX<|.q .bW<|.mo rfl<|.gX<|.gX<|.gX<|.gX<|.gX<|.q .bW<|.mo rfl<|.gX<|.gX<|.gX<|.gX<|.gX<|.q .bW<|.mo rfl<|.gX<|.gX<|.gX<|.gX<|.gX<|.q .bW<|.mo rfl<|.gX<|.gX<|.gX<|.gX<|.gX<|.q .bW<|.az rfl ?_
 refine .ret (aO rfl ?_)
 ·refine⟨ac2 _ ?_,rfl⟩
  simp_all[kx]
 refine .gF a<|.gF a<|.gF a<|.gF a<|.gF a<|.q (.aQ a) ?_
 refine .mo rfl<|.gX<|.gX<|.gX<|.gX<|.gX<|.q .bW<|.mo rfl<|.gX<|.gX<|.gX<|.gX<|.gX<|.q .bW<|.mo rfl<|.gX<|.gX<|.gX<|.gX<|.gX<|.q .bW<|.mo rfl<|.gX<|.gX<|.gX<|.gX<|.gX<|.q .bW<|.mo rfl<|.gX<|.gX<|.gX<|.gX<|.gX<|.q .bW<|.mo rfl<|.gX<|.gX<|.gX<|.gX<|.gX<|.q .bW<|.az rfl ?_
 refine .ret (aO rfl ?_)
 ·refine⟨ac2 _ ?_,rfl⟩
  simp_all[kx]
 refine .gF g<|.gF g<|.gF g<|.gF g<|.gF g<|.q (.aQ g) ?_
 refine .mo rfl<|.gX<|.gX<|.gX<|.gX<|.gX<|.q .bW<|.mo rfl<|.gX<|.gX<|.gX<|.gX<|.gX<|.q .bW<|.mo rfl<|.gX<|.gX<|.gX<|.gX<|.gX<|.q .bW<|.mo rfl<|.gX<|.gX<|.gX<|.gX<|.gX<|.q .bW<|.mo rfl<|.gX<|.gX<|.gX<|.gX<|.gX<|.q .bW<|.mo rfl<|.gX<|.gX<|.gX<|.gX<|.gX<|.q .bW<|.mo rfl<|.gX<|.gX<|.gX<|.gX<|.gX<|.q .bW<|.az rfl ?_
 refine .ret (aO rfl ?_)
 ·refine⟨ac2 _ ?_,rfl⟩
  simp_all[kx]
def Tok.short(t:Tok):Tok:=⟨Go.Proofs.YtkkmbiojicgobaaGreatDoor.short t.text 40,t.kind,Go.Proofs.YtkkmbiojicgobaaGreatDoor.short t.aC 40,Go.Proofs.YtkkmbiojicgobaaGreatDoor.short t.user 40,texts t.scopes 5 20,t.family,t.cb,t.rev,t.used⟩
theorem Tok.sH(t:Tok):t.short.eh:=by
 unfold Tok.eh Tok.short texts
 simp;omega
theorem N1(k:ByteArray)(b:Nat)(w:Value)(t:Tok)(a:One w)(R:au) [pc:PC R (pT b) [.string k]]:
  Spec prog 162 [.agg (bA (w,t)).toArray,pT b] R [] λv H'=>v=.bool (decide (t.text=k))/\H'=[]:=by
 have d:=mY (t:=t) a
 refine Spec.body func162 rfl results162 ntmps162 rfl ?_
 refine .sr ?_
 refine .dA rfl (λc=>?_)
 refine .ag rfl<|.z<|.fa rfl<|.lo rfl<|.lo rfl<|.q .eg<|.az rfl ?_
 refine .ret (aO rfl ?_)
 ·exact⟨rfl,rfl⟩
def gw(aC user:ByteArray)(t:Tok):Bool:=decide (t.aC=aC)&&(decide (user=⟨#[]⟩)||decide (user=t.user))
theorem NK(aC user:ByteArray)(b d:Nat)(w:Value)(t:Tok)(e:One w)(R:au) [pc:PC R (pT b) [.string aC]] [h:PC R (.pointer (some ⟨d,0,none⟩)) [.string user]]:
  Spec prog 196 [.agg (bA (w,t)).toArray,pT b,.pointer (some ⟨d,0,none⟩)] R [] λv H'=>v=.bool (gw aC user t)/\H'=[]:=by
 have g:=mY (t:=t) e
 refine Spec.body func196 rfl results196 ntmps196 rfl ?_
 refine .sr ?_
 refine .dA rfl (λf=>?_)
 refine .ag rfl<|.z<|.fa rfl<|.lo rfl<|.lo rfl<|.q .eg<|.mo rfl ?_
 refine .split (t:=9) rfl (λa=>?_) (λa=>?_)
 refine .gT a<|.lo rfl<|.gT a<|.q .eg<|.gT a<|.mo rfl ?_
 refine .split (t:=12) rfl (λc=>?_) (λc=>?_)
 refine .gF c<|.gF c<|.gF c<|.gF c<|.gT a<|.q (.aW c) ?_
 refine .q (.aW a) ?_
 refine .az rfl ?_
 refine .ret (aO rfl ?_)
 ·refine⟨ac2 _ ?_,rfl⟩
  unfold gw
  simp_all
 refine .gT c<|.lo rfl<|.gT c<|.fa rfl<|.gT c<|.lo rfl<|.gT c<|.q .eg<|.gT a<|.q (.aQ c) ?_
 refine .q (.aW a) ?_
 refine .az rfl ?_
 refine .ret (aO rfl ?_)
 ·refine⟨ac2 _ ?_,rfl⟩
  unfold gw
  simp_all
 refine .gF a<|.gF a<|.gF a<|.cT rfl ?_
 refine .cT rfl ?_
 refine .cT rfl ?_
 refine .cT rfl ?_
 refine .gF a<|.q (.aQ a) ?_
 refine .az rfl ?_
 refine .ret (aO rfl ?_)
 ·refine⟨ac2 _ ?_,rfl⟩
  unfold gw
  simp_all
theorem Ol(g:Nat)(A:List (ByteArray×Tok))(last:Int)(T:ax)(h:VI g A last T)(aC user:ByteArray)(R:au):
  Spec prog 135 [pT g,.string aC,.string user] R [T] λv H'=>∃T',H'=[T']/\v=.tuple #[]/\VI g (A.filter λx=> !gw aC user x.2) last T':=by
 obtain⟨a,d,rfl,l⟩:=h
 have n:=l
 obtain⟨u,M,q,y,B,p,o,D,C,F⟩:=l
 obtain⟨k,rfl⟩:∃b,u=.map (some b):=by obtain⟨b,es,clock,h1,_⟩:=o;exact⟨b,h1⟩
 have G:PS d (pT g) [.map (some k),pT q,.int .i64 last]:=PS.of (E:=102) (fr:=(0,0)) (by rw[p];simp)
 refine Spec.cX (H':=[d,a]) (by simp) ?_
 refine Spec.body func135 rfl results135 ntmps135 rfl ?_
 refine .sr ?_
 refine .ki rfl (λe=>?_)
 refine .ki rfl (λf=>?_)
 refine .z<|.mo rfl ?_
 refine .aL (lR g k _ _ _) (λv i=>?_)
 subst i
 refine .zn<|.dn<|.region<|.mo rfl<|.q .makeFunc ?_
 refine .jK (tc g A last a d n 196 [pT e,pT f] (gw aC user) _ (λw t s c m=>by
  have:PC c (pT e) [.string aC]:=PC.of (E:=9) (fr:=(0,0)) (m _ _ (.inr (by simp)))
  have:PC c (pT f) [.string user]:=PC.of (E:=9) (fr:=(0,0)) (m _ _ (.inr (by simp)))
  exact NK aC user e f w t s c)) (λv j i=>?_)
 obtain⟨rfl,r⟩:=i
 refine .nil ?_
 refine ed _ .none ((aH [2,2]).trans (aU.bu (H':=[j++a]) (by simp[take,aY]))) ?_
 ·exact⟨_,rfl,rfl,a,j,rfl,r⟩
def fj(A:List (ByteArray×Tok))(k aC:ByteArray):Int×List (ByteArray×Tok):=match aS k A with
 |none=>(0,A)
 |some t=>if t.aC≠aC then(20,A)else if t.kind=2 then(0,A.filter λx=> !(x.2.family==t.family))else(0,A.filter λx=> !decide (x.2.text=k))
theorem Ot(g:Nat)(A:List (ByteArray×Tok))(last:Int)(T:ax)(h:VI g A last T)(k aC:ByteArray)(R:au):
  Spec prog 90 [pT g,.string k,.string aC] R [T] λv H'=>∃T',H'=[T']/\v=.int .i64 (fj A k aC).1/\VI g (fj A k aC).2 last T':=by
 have D:=h
 obtain⟨a,c,rfl,F⟩:=h
 have G:=F
 obtain⟨vm,M,q,Tm,Tq,H,z,L,K,hQ⟩:=F
 obtain⟨n,rfl⟩:∃b,vm=.map (some b):=by obtain⟨b,es,clock,h1,_⟩:=z;exact⟨b,h1⟩
 have ps:PS c (pT g) [.map (some n),pT q,.int .i64 last]:=PS.of (E:=102) (fr:=(0,0)) (by rw[H];simp)
 have rm:RM (sg c) (λs:ByteArray=>.string s) (λp:TP=>.agg (bA p).toArray) (.map (some n)) M:=z.rm λp U=>by rw[H];simp[sg,U]
 obtain⟨J,j,V,S,a0,W,a1,Y⟩:=qS z.nd L K k
 have i0:bG (bA (J,j)):=⟨S.bD⟩
 refine Spec.cX (H':=[c,a]) (by simp) ?_
 refine Spec.body func90 rfl results90 ntmps90 rfl ?_
 refine .sr ?_
 refine .ki rfl (λm=>?_)
 refine .ag rfl<|.zs<|.sr<|.mo rfl ?_
 refine .aL (lR g n _ _ _) (λv i=>?_)
 subst i
 refine .q .not<|.zn<|.bX<|.kn<|.seq<|.cP [10] mixed ?_
 refine .tO 0 rfl .move<|.tO 1 rfl (.nilCheck rfl)<|.tO 2 rfl (.fieldAddr rfl)<|.tO 3 rfl (.bK rfl)<|.tO 4 rfl (.bK rfl) ?_
 refine .eA 5 rfl (aP.cast (v':=.tuple [.agg (bA (J,j)).toArray,.bool (aS k A).isSome].toArray) (.kN (rm.mono λb o O=>.inr (by have Q:(b,o)∈c:=O;simp[Q])) rfl (show _=some (Value.string k)from rfl)) (by rw[<-W, <-V];rfl)) (by kernel_rfl) ?_
 refine .tO 6 rfl .move<|.tO 7 rfl .extract<|.tK 8 rfl .extract ?_
 refine .sT 9 rfl ?_
 refine .cG (λb7=>?_)
 refine .nil (Next.sub ?_)
 refine .sT 10 rfl ?_
 refine .cc rfl rfl ?_
 refine .nil (Next.mod rfl ?_)
 refine .tK 11 rfl .assign ?_
 refine RA.nil (by kernel_rfl) ?_
 refine aD<|.seq<|.block<|.sr<|.mo rfl<|.q .not<|.az rfl ?_
 refine .cond rfl (λr=>?_) λr=>?_
 refine .sr<|.az rfl ?_
 refine .ret (bp (aI (aN _ (.one (.tmp rfl)) ((aH [2,2]).trans (aU.bu (H':=[c++a]) (by simp[take,aY]))) ?_)))
 ·have f:aS k A=none:=by simpa using r
  have e:fj A k aC=(0,A):=by unfold fj;rw[f]
  rw[e];exact⟨_,rfl,rfl,D⟩
 have f:aS k A=some j:=by
  have X:(aS k A).isSome=true:=by simpa using r
  obtain⟨u,I⟩:=Option.isSome_iff_exists.1 X
  exact(Y u I).1▸I
 refine .sr<|.fa rfl<|.lo rfl<|.mo rfl<|.q .eU<|.az rfl ?_
 refine .cond rfl (λl=>?_) λl=>?_
 refine .sr<|.az rfl ?_
 refine .ret (bp (aI (aN _ (.one (.tmp rfl)) ((aH [2,2]).trans (aU.bu (H':=[c++a]) (by simp[take,aY]))) ?_)))
 ·have e:fj A k aC=(20,A):=by unfold fj;rw[f];simp only;rw[if_pos (by simpa using l)]
  rw[e];exact⟨_,rfl,rfl,D⟩
 refine .sr<|.fa rfl<|.lo rfl<|.q .bR<|.az rfl ?_
 refine .cond rfl (λy=>?_) λy=>?_
 refine .region<|.mo rfl<|.fa rfl<|.lo rfl ?_
 refine .bT (s7 g A last a c G j.family _) (λv d i=>?_)
 obtain⟨rfl,B⟩:=i
 refine .nil<|bw<|aD<|.sr<|.az rfl ?_
 refine .ret (aN _ (.one (.tmp rfl)) ((aH [2,2]).trans (aU.bu (H':=[d++a]) (by simp[take,aY]))) ?_)
 ·have e:fj A k aC=(0,A.filter λx=> !(x.2.family==j.family)):=by unfold fj;rw[f];simp only;rw[if_neg (by simpa using l),if_pos (by simpa using y)]
  rw[e];exact⟨_,rfl,rfl,a,d,rfl,B⟩
 refine .region<|.mo rfl<|.q .makeFunc ?_
 refine .jK (tc g A last a c G 162 [pT m] (λt=>decide (t.text=k)) _ (λw t Z C N=>by
  have:PC C (pT m) [.string k]:=PC.of (E:=9) (fr:=(0,0)) (N _ _ (.inr (by simp)))
  exact N1 k m w t Z C)) (λv d i=>?_)
 obtain⟨rfl,B⟩:=i
 refine .nil<|bw<|aD<|.sr<|.az rfl ?_
 refine .ret (aN _ (.one (.tmp rfl)) ((aH [2,2]).trans (aU.bu (H':=[d++a]) (by simp[take,aY]))) ?_)
 ·have e:fj A k aC=(0,A.filter λx=> !decide (x.2.text=k)):=by unfold fj;rw[f];simp only;rw[if_neg (by simpa using l),if_neg (by simpa using y)]
  rw[e];exact⟨_,rfl,rfl,a,d,rfl,B⟩
theorem ya{β:Type}{M:List (ByteArray×β)}{a:List ByteArray}{k:ByteArray}:dK k (M.filter λx=>decide (x.1∉a))=M.filter λx=>decide (x.1∉a++[k]):=by
 unfold dK
 rw[List.filter_filter]
 refine List.filter_congr λx _=>?_
 by_cases h:x.1=k<;>simp[h]
theorem Ow(g:Nat)(A:List (ByteArray×Tok))(last:Int)(T:ax)(h:VI g A last T)(now:Int)(R:au):
  Spec prog 65 [pT g,.int .i64 now] R [T] λv H'=>∃T',H'=[T']/\v=.tuple #[]/\VI g (A.filter λx=>decide (now<x.2.cb)) last T':=by
 have J:=h.nd
 obtain⟨d,_,rfl,vm,M,q,n,G,rfl,L,Y,I,hQ⟩:=h
 obtain⟨a,rfl⟩:∃b,vm=.map (some b):=by obtain⟨b,es,clock,h1,_⟩:=L;exact⟨b,h1⟩
 refine Spec.cX (H':=[bl g [.map (some a),pT q,.int .i64 last] 102,n,G,d]) (by simp) ?_
 refine Spec.body func65 rfl results65 ntmps65 rfl ?_
 refine .seq<|.sr<|.mo rfl ?_
 refine .aL (lR g a _ _ _) (λv hv=>?_)
 subst hv
 refine .q .not<|.zn<|.bX<|.kn<|.sr<|.mo rfl<|.nc rfl<|.fa rfl<|.lo rfl<|.mo rfl ?_
 refine .call [2] (xm q _ G hQ now _) (λu H' hu=>?_)
 obtain⟨e,F,B,A',rfl,C,a0,r,K⟩:=hu
 show aF _ _ _ _ _ _ _ [e,F,bl g [.map (some a),pT q,.int .i64 last] 102,n,d] _
 have a4:=C.le
 refine .q (.ei C) ?_
 refine .mo rfl<|.zn<|.block ?_
 refine .loop (X:=Nat×List (ByteArray×TP)×ax) (λy=>(y.1<=B.length/\y.2.1=M.filter λx=>decide (x.1∉(B.map (·.1)).take y.1))/\MS (λs:ByteArray=>.string s) (λp:TP=>.agg (bA p).toArray) (.map (some a)) y.2.1 y.2.2) (λy=>[(0,pT g),(14,u),(15,.int .i64 ((B.map (·.1)).length:Nat)),(16,iN y.1)]) (λy=>[e,F,bl g [.map (some a),pT q,.int .i64 last] 102,y.2.2,d]) (λy=>B.length-y.1) (0,M,n) ⟨⟨by omega,by simp only[List.take_zero];exact(List.filter_eq_self.2 λx _=>by simp).symm⟩,L⟩ kE.c.c.c.c rH ?_
 rintro⟨i,m,E⟩ ⟨⟨hi,w⟩,j⟩
 simp only at hi w j⊢
 refine .sr<|.q .lss<|.zs ?_
 refine .cond rfl (λo=>?_) λo=>?_
 have Q:i<(B.map (·.1)).length:=by have:=bq o;omega
 obtain⟨k,O⟩:=dR Q
 have a5:i<B.length:=by simpa using Q
 refine .kn<|.seq<|.block<|.sr ?_
 refine .ba i C O (λa6=>?_)
 refine .lo rfl<|.az rfl<|.region<|.mo rfl ?_
 refine .nc rfl<|.fa rfl<|.lo rfl<|.mo rfl ?_
 refine .delete j rfl (show _=some (Value.string k)from rfl) (λV Z _=>?_)
 refine .nil<|bw<|aD<|.region ?_
 refine .ia (i+1) .add ?_
 refine .mo rfl<|.nil ?_
 ·exact bd (i+1,eC k m,V) ⟨⟨by simp only;omega,by simp only;rw[mj j.nd,w,ya,List.take_add_one,O];rfl⟩,Z⟩ (by simp only;omega) kE.c.c.c.c rH
 have a1:i=B.length:=by have:=bi o;simp at this;omega
 have N:m=M.filter λx=>decide (now<x.2.2.cb):=by
  rw[w,a1,List.take_of_length_le (by simp)]
  refine List.filter_congr λx hx=>?_
  have S:=r.pm
  have a3:(x.1,x.2.2)∈A:=I.mem_iff.1 (oP hx)
  have U:(x.1,x.2.2.cb)∈dL (λt:Tok=>t.cb) A:=oP a3
  by_cases D:now<x.2.2.cb
  ·have:x.1∉B.map (·.1):=λhm=>by
    obtain⟨p,l,a2⟩:=List.mem_map.1 hm
    have h5:p∈dL (λt:Tok=>t.cb) A:=S.mem_iff.2 (List.mem_append_left _ l)
    have W:aS x.1 (dL (λt:Tok=>t.cb) A)=some p.2:=gu (by rw[kM];exact J) (by rw[<-a2];exact h5)
    have H:aS x.1 (dL (λt:Tok=>t.cb) A)=some x.2.2.cb:=gu (by rw[kM];exact J) U
    rw[W]at H
    have h8:=r.le p l
    simp only[Option.some.injEq]at H
    omega
   rw[decide_eq_true this,decide_eq_true D]
  ·have:x.1∈B.map (·.1):=by
    rcases List.mem_append.1 (S.mem_iff.1 U)with h5|h5
    ·exact List.mem_map.2 ⟨_,h5,rfl⟩
    ·exact absurd (K _ h5) D
   rw[decide_eq_false D,decide_eq_false (λhh=>hh this)]
 refine .exit<|bE<|bH<|bF ?_
 refine ed _ .none ((aH [2,2,0,1]).trans (aU.bu (H':=[((g,.cells [.map (some a),pT q,.int .i64 last].toArray 102 (0,0))::(E++e))++d]) (by simp[take,aY]))) ?_
 ·refine⟨_,rfl,rfl,d,_,rfl,_,m,q,E,e,rfl,j,λp l=>Y p (List.mem_filter.1 (N▸l)).1,?_,?_⟩
  ·rw[N, <-me (q:=λt:Tok=>decide (now<t.cb))]
   exact I.filter _
  ·refine a0.perm ((r.filter K).trans (List.Perm.of_eq ?_))
   exact me (f:=λt:Tok=>t.cb) (q:=λz:Int=>decide (now<z))
theorem NZ{A:List (ByteArray×Tok)}{last:Int}{t:Tok}(h:(ft A last t).1=0):(ft A last t).2=cO t.text t.fresh A/\aS t.text A=none/\hK t last=true:=by
 unfold ft at h⊢
 split at h
 ·cases h
 ·split at h
  ·cases h
  ·split at h
   ·cases h
   ·rename_i a b c
    rw[if_neg a,if_neg b,if_neg c]
    exact⟨rfl,by simpa using b,by simpa using a⟩
theorem NX{A:List (ByteArray×Tok)}{last:Int}{t:Tok}(h:(ft A last t).1≠0):(ft A last t).2=A:=by
 unfold ft at h⊢
 split
 ·rfl
 ·split
  ·rfl
  ·split
   ·rfl
   ·rename_i a b c
    rw[if_neg a,if_neg b,if_neg c]at h
    exact absurd rfl h
abbrev CP:Type:=CR×bx
def dX(p:CP):List Value:=p.1.cells
def qZ(p:CP):Prop:=∀u∈dX p,av u=true
def fT(p q:CP):Int:=fS p.1.id q.1.id
theorem zJ(p q:CP)(R:au)(g:qZ p)(h:qZ q):Spec prog 131 [.agg (dX p).toArray,.agg (dX q).toArray] R [] λv H'=>v=.int .i64 (fT p q)/\H'=[]:=by
 have n:bG (dX p):=⟨g⟩
 have o:bG (dX q):=⟨h⟩
 obtain⟨⟨a,j,k,l⟩,c⟩:=p
 obtain⟨⟨b,e,f,m⟩,d⟩:=q
 refine Spec.body func131 rfl results131 ntmps131 rfl ?_
 refine .sr ?_
 refine .dA rfl (λe=>?_)
 refine .dA rfl (λf=>?_)
 refine .ag rfl<|.z<|.fa rfl<|.lo rfl<|.fa rfl<|.lo rfl ?_
 refine .aL (nk a b _) (λv i=>?_)
 subst i
 refine .az rfl ?_
 refine .ret (aO rfl ?_)
 ·exact⟨rfl,rfl⟩
theorem uf:SO (ay fT):=by
 have e:∀p q:CP,ay fT p q=cq p.1.id q.1.id:=λp q=>by
  unfold ay fT
  rw[ac3,jE,ac4]
 exact⟨λx=>by rw[e];exact kr.fI _,λx y z a b=>by rw[e]at *;exact kr.tr _ _ _ a b,λx y z a b=>by rw[e]at *;exact kr.gQ _ _ _ a b⟩
theorem mI(p q:CP):ay fT p q=cq p.1.id q.1.id:=by
 unfold ay fT
 rw[ac3,jE,ac4]
def mn(c d:bx):Bool:=decide (c.id=d.id)&&decide (c.cy=d.cy)&&decide (c.cp=d.cp)&&decide (c.scopes=d.scopes)
theorem MT(r s:CR)(c d:bx)(R:au)(h:eR R r c)(n:eR R s d):Spec prog 127 [.agg r.cells.toArray,.agg s.cells.toArray] R [] λv H'=>v=.bool (mn c d)/\H'=[]:=by
 obtain⟨A,B,p,o⟩:=r
 obtain⟨f,g,k,j⟩:=h
 simp only at f g k j
 subst f;subst g
 obtain⟨C,D,w,u⟩:=s
 obtain⟨f,g,m,l⟩:=n
 simp only at f g m l
 subst f;subst g
 refine Spec.body func127 rfl results127 ntmps127 rfl ?_
 refine .sr ?_
 refine .dA rfl (λx=>?_)
 refine .dA rfl (λy=>?_)
 refine .ag rfl<|.z<|.fa rfl<|.lo rfl<|.fa rfl<|.lo rfl<|.q .eg<|.mo rfl ?_
 refine .split (t:=10) rfl (λe=>?_) (λe=>?_)
 refine .gT e<|.fa rfl<|.gT e<|.lo rfl<|.gT e<|.fa rfl<|.gT e<|.lo rfl<|.gT e<|.q .eg<|.q (.aW e) ?_
 refine .mo rfl ?_
 refine .split (t:=17) rfl (λa=>?_) (λa=>?_)
 refine .gT a<|.fa rfl<|.gT a<|.lo rfl<|.gT a<|.fa rfl<|.gT a<|.lo rfl<|.gT a ?_
 refine .aL (o9 p w _ _ _ k.rx m.rx) (λv i=>?_)
 subst i
 refine .q (.aW a) ?_
 refine .mo rfl ?_
 refine .split (t:=24) rfl (λb=>?_) (λb=>?_)
 refine .gT b<|.fa rfl<|.gT b<|.lo rfl<|.gT b<|.fa rfl<|.gT b<|.lo rfl<|.gT b ?_
 refine .aL (o9 o u _ _ _ j.rx l.rx) (λv i=>?_)
 subst i
 refine .q (.aW b) ?_
 refine .az rfl ?_
 refine .ret (aO rfl ?_)
 ·exact⟨by unfold mn;simp_all,rfl⟩
 refine .gF b<|.gF b<|.gF b<|.gF b<|.gF b<|.q (.aQ b) ?_
 refine .az rfl ?_
 refine .ret (aO rfl ?_)
 ·exact⟨by unfold mn;simp_all,rfl⟩
 refine .gF a<|.gF a<|.gF a<|.gF a<|.gF a<|.q (.aQ a) ?_
 refine .mo rfl<|.gX<|.gX<|.gX<|.gX<|.gX<|.q .bW<|.az rfl ?_
 refine .ret (aO rfl ?_)
 ·exact⟨by unfold mn;simp_all,rfl⟩
 refine .gF e<|.gF e<|.gF e<|.gF e<|.gF e<|.q (.aQ e) ?_
 refine .mo rfl<|.gX<|.gX<|.gX<|.gX<|.gX<|.q .bW<|.mo rfl<|.gX<|.gX<|.gX<|.gX<|.gX<|.q .bW<|.az rfl ?_
 refine .ret (aO rfl ?_)
 ·exact⟨by unfold mn;simp_all,rfl⟩
structure gk{α:Type}(c:α->α->Int):Prop where
 sw:∀x y,c x y<0↔0<c y x
 tr:∀x y z,c x y<=0->c y z<=0->c x z<=0
 tl:∀x y z,c x y<0->c y z<=0->c x z<0
section
variable{α β:Type}{c d:α->α->Int}
theorem gk.refl(h:gk c)(x:α):c x x=0:=by have:=h.sw x x;omega
theorem gk.OT(h:gk c){x y:α}(a:c x y=0):c y x=0:=by have b:=h.sw x y;have d:=h.sw y x;omega
theorem gk.t2(h:gk c)(x y z:α)(a:c x y<=0)(b:c y z<0):c x z<0:=by
 have d:=h.tr x y z a (by omega)
 rcases Int.lt_or_eq_of_le d with h4|h4
 ·exact h4
 ·have f:=h.OT h4
  have e:=h.tl y z x b (by omega)
  have g:=(h.sw y x).1 e
  omega
theorem gk.map(h:gk c)(f:β->α):gk (λx y=>c (f x) (f y)):=⟨λx y=>h.sw _ _,λx y z=>h.tr _ _ _,λx y z=>h.tl _ _ _⟩
theorem gk.so(h:gk c):SO (ay c) where
 fI x:=by unfold ay;rw[h.refl];rfl
 tr x y z a b:=by
  unfold ay at *
  have a:=bq a
  have b:=bq b
  exact decide_eq_true (h.tl x y z a (by omega))
 gQ x y z a b:=by
  unfold ay at *
  have a:=bi a
  have b:=bi b
  refine decide_eq_false λf=>?_
  have d:c y x<=0:=by have:=h.sw y x;have:=h.sw x y;omega
  have e:c z y<=0:=by have:=h.sw y z;have:=h.sw z y;omega
  have g:=h.tr z y x e d
  have i:=(h.sw x z).1 f
  omega
theorem nM(a:Int)(l:List Int):gi (a::l)=if a=0 then gi l else a:=rfl
theorem gk.nil:gk (λ_ _:α=>gi []):=⟨λx y=>by simp[gi],λx y z _ _=>by simp[gi],λx y z h _=>by simp[gi]at h⟩
theorem gk.cons{L:α->α->List Int}(d:gk c)(g:gk λa b=>gi (L a b)):gk (λa b=>gi (c a b::L a b)) where
 sw x y:=by
  simp only[nM]
  have e:=d.sw x y
  have f:=d.sw y x
  have s:=g.sw x y
  split<;>split<;>omega
 tr x y z e f:=by
  simp only[nM]at *
  have h:=d.tr x y z
  have i:=d.tl x y z
  have j:=d.t2 x y z
  have k:=g.tr x y z
  have l:=d.tr z y x
  have m:=d.sw x y
  have n:=d.sw y x
  have o:=d.sw z y
  have p:=d.sw y z
  have q:=d.sw x z
  have r:=d.sw z x
  split<;>(try split at e)<;>(try split at f)<;>omega
 tl x y z e f:=by
  simp only[nM]at *
  have h:=d.tr x y z
  have i:=d.tl x y z
  have j:=d.t2 x y z
  have k:=g.tl x y z
  have l:=d.tr z y x
  have m:=d.sw x y
  have n:=d.sw y x
  have o:=d.sw z y
  have p:=d.sw y z
  have q:=d.sw x z
  have r:=d.sw z x
  split<;>(try split at e)<;>(try split at f)<;>omega
theorem wJ{a:Int}{l:List Int}(h:gi (a::l)=0):a=0/\gi l=0:=by
 rw[nM]at h
 split at h
 ·rename_i b;exact⟨b,h⟩
 ·omega
end
theorem qH:gk fS where
 sw x y:=by rw[<-jE, <-o8]
 tr x y z h1 h2:=by
  have a:cq y x=false:=Bool.eq_false_iff.2 λh=>by have:=o8.1 h;omega
  have c:cq z y=false:=Bool.eq_false_iff.2 λh=>by have:=o8.1 h;omega
  have b:=kr.gQ z y x c a
  rcases Int.lt_or_le 0 (fS x z)with h|h
  ·rw[o8.2 h]at b;cases b
  ·exact h
 tl x y z h1 h2:=by
  have a:=jE.2 h1
  rcases Int.lt_or_eq_of_le h2 with h|h
  ·exact jE.1 (na a (jE.2 h))
  ·rw[nT]at h;subst h;exact h1
abbrev NP:Type:=Value×(cw×List ByteArray)
def eb(p:NP):List Value:=[.string p.2.1.1,.string p.2.1.2,p.1]
def iB(R:au)(p:NP):Prop:=RS R 1 bz p.1 p.2.2
theorem iB.mono{R R':au}{p:NP}(h:iB R p)(a:∀b o,R b o->R' b o):iB R' p:=RS.mono h a
theorem iB.bD{R:au}{p:NP}(h:iB R p):∀u∈eb p,av u=true:=by
 have b:=h.av.h
 intro u a
 simp only[eb,List.mem_cons,List.not_mem_nil,or_false]at a
 rcases a with rfl|rfl|rfl<;>first|rfl|assumption
def q5(p:NP):Prop:=∀u∈eb p,av u=true
def mQ(a b:cw):Int:=gi [fS a.1 b.1,fS a.2 b.2]
def dw(p q:NP):Int:=mQ p.2.1 q.2.1
theorem mR:gk mQ:=gk.cons (qH.map λp:cw=>p.1) (gk.cons (qH.map λp:cw=>p.2) gk.nil)
theorem yw{a b:cw}:mQ a b=0↔a=b:=by
 constructor
 ·intro h
  obtain⟨c,d⟩:=wJ h
  obtain⟨e,_⟩:=wJ d
  exact Prod.ext (nT.1 c) (nT.1 e)
 ·rintro rfl;exact mR.refl _
theorem qq:gk dw:=mR.map λp:NP=>p.2.1
theorem yZ(p q:NP)(R:au)(b:q5 p)(c:q5 q):Spec prog 123 [.agg (eb p).toArray,.agg (eb q).toArray] R [] λv H'=>v=.int .i64 (dw p q)/\H'=[]:=by
 have g:bG (eb p):=⟨b⟩
 have h:bG (eb q):=⟨c⟩
 refine Spec.body func123 rfl results123 ntmps123 rfl ?_
 refine .sr ?_
 refine .dA rfl (λe=>?_)
 refine .dA rfl (λf=>?_)
 refine .ag rfl<|.zs<|.cP [] mixed ?_
 refine .tO 0 rfl (.fieldAddr rfl)<|.tO 1 rfl (.bK rfl)<|.tO 2 rfl (.fieldAddr rfl)<|.tO 3 rfl (.bK rfl)<|.tO 5 rfl (.fieldAddr rfl)<|.tO 6 rfl (.bK rfl)<|.tO 7 rfl (.fieldAddr rfl)<|.tO 8 rfl (.bK rfl) ?_
 refine .sT 4 rfl ?_
 refine .aL (nk p.2.1.1 q.2.1.1 _) (λv a=>?_)
 subst a
 refine .nil (Next.sub ?_)
 refine .sT 9 rfl ?_
 refine .aL (nk p.2.1.2 q.2.1.2 _) (λv a=>?_)
 subst a
 refine .nil (Next.sub ?_)
 refine .sT 10 rfl ?_
 refine .p8 [_,_] (λd=>?_)
 refine .nil (Next.sub ?_)
 refine .sT 11 rfl ?_
 refine .aL (wM _ [fS p.2.1.1 q.2.1.1,fS p.2.1.2 q.2.1.2] _ (RS.lits rfl (by simp[oK]) (by simp[oK,av]))) (λv a=>?_)
 subst a
 refine .nil (Next.sub ?_)
 refine .tO 12 rfl .assign ?_
 refine RA.nil (by kernel_rfl) ?_
 refine aD ?_
 refine .ret (aO rfl ?_)
 ·exact⟨rfl,rfl⟩
def q4(p:GP):Prop:=∀u∈bM p,av u=true
def dP(p q:GP):Int:=fS p.2.text q.2.text
theorem Kc(p q:GP)(R:au)(a:q4 p)(b:q4 q):Spec prog 126 [.agg (bM p).toArray,.agg (bM q).toArray] R [] λv H'=>v=.int .i64 (dP p q)/\H'=[]:=by
 have f:bG (bM p):=⟨a⟩
 have g:bG (bM q):=⟨b⟩
 refine Spec.body func126 rfl results126 ntmps126 rfl ?_
 refine .sr ?_
 refine .dA rfl (λd=>?_)
 refine .dA rfl (λe=>?_)
 refine .ag rfl<|.z<|.fa rfl<|.lo rfl<|.fa rfl<|.lo rfl ?_
 refine .aL (nk p.2.text q.2.text _) (λv c=>?_)
 subst c
 refine .az rfl ?_
 refine .ret (aO rfl ?_)
 ·exact⟨rfl,rfl⟩
theorem lj(p q:GP):ay dP p q=cq p.2.text q.2.text:=by
 unfold ay dP
 rw[ac3,jE,ac4]
theorem vl:SO (ay dP):=⟨λx=>by rw[lj];exact kr.fI _,λx y z a b=>by rw[lj]at *;exact kr.tr _ _ _ a b,λx y z a b=>by rw[lj]at *;exact kr.gQ _ _ _ a b⟩
def q9(p:TP):Prop:=∀u∈bA p,av u=true
def dY(p q:TP):Int:=fS p.2.text q.2.text
theorem NI(p q:TP)(R:au)(a:q9 p)(b:q9 q):Spec prog 47 [.agg (bA p).toArray,.agg (bA q).toArray] R [] λv H'=>v=.int .i64 (dY p q)/\H'=[]:=by
 have f:bG (bA p):=⟨a⟩
 have g:bG (bA q):=⟨b⟩
 refine Spec.body func47 rfl results47 ntmps47 rfl ?_
 refine .sr ?_
 refine .dA rfl (λd=>?_)
 refine .dA rfl (λe=>?_)
 refine .ag rfl<|.z<|.fa rfl<|.lo rfl<|.fa rfl<|.lo rfl ?_
 refine .aL (nk p.2.text q.2.text _) (λv c=>?_)
 subst c
 refine .az rfl ?_
 refine .ret (aO rfl ?_)
 ·exact⟨rfl,rfl⟩
theorem lk(p q:TP):ay dY p q=cq p.2.text q.2.text:=by
 unfold ay dY
 rw[ac3,jE,ac4]
theorem ye:SO (ay dY):=⟨λx=>by rw[lk];exact kr.fI _,λx y z a b=>by rw[lk]at *;exact kr.tr _ _ _ a b,λx y z a b=>by rw[lk]at *;exact kr.gQ _ _ _ a b⟩
theorem tH{α:Type}(key:α->ByteArray){cs f:List α}(e:cs.Pairwise λc d=>cq (key c) (key d)=true)(m:f.Perm cs)(r:f.Pairwise λc d=>cq (key d) (key c)=false):f=cs:=by
 refine List.Perm.eq_of_pairwise (le:=λc d:α=>cq (key d) (key c)=false) (λa b g q n o=>?_) r (e.imp λ{a b} p=>?_) m
 ·have h:key a=key b:=lp o n
  have g:=m.mem_iff.1 g
  obtain⟨i,k,rfl⟩:=List.mem_iff_getElem.1 g
  obtain⟨j,l,rfl⟩:=List.mem_iff_getElem.1 q
  rw[List.pairwise_iff_getElem]at e
  rcases Nat.lt_trichotomy i j with hij|hij|hij
  ·have:=e i j k l hij
   rw[h,lq]at this;cases this
  ·subst hij;rfl
  ·have:=e j i l k hij
   rw[h,lq]at this;cases this
 ·exact kr.kF p
theorem rb{α:Type}(key:α->ByteArray){cs:List α}(f:cs.Pairwise λc d=>cq (key c) (key d)=true):(cs.map key).Nodup:=by
 rw[List.Nodup,List.pairwise_map]
 exact f.imp λ{a b} e g=>by rw[g,lq]at e;cases e
end Go.Proofs.YtkkmbiojicgobaaGreatDoor
