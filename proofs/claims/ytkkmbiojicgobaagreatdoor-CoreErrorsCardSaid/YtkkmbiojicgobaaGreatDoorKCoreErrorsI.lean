/- What the law 'CoreErrors' uses. No condition. -/
import Derived.Test.YtkkmbiojicgobaaGreatDoorKCoreErrorsB
import Derived.Test.YtkkmbiojicgobaaGreatDoorKCoreErrorsH
set_option linter.unusedSimpArgs false
set_option linter.unusedVariables false
namespace Go.Proofs.YtkkmbiojicgobaaGreatDoor
set_option linter.defProp false
def ac2:=@congrArg
def ac3:=@Bool.eq_iff_iff
def ac4:=@decide_eq_true_eq
open Tryz
set_option linter.unusedVariables false
set_option maxRecDepth 4000
def jm(t u:Tok):Bool:=decide (t.text=u.text)&&(t.kind==u.kind)&&decide (t.aE=u.aE)&&decide (t.user=u.user)&&decide (t.scopes=u.scopes)&&(t.family==u.family)&&(t.cq==u.cq)&&(t.rev==u.rev)&&(t.used==u.used)
theorem Nd{t u:Tok}:jm t u=true↔t=u:=by
 obtain⟨a,b,c,d,e,f,g,h,i⟩:=t
 obtain⟨j,k,l,m,n,o,p,q,r⟩:=u
 simp[jm,and_assoc]
theorem xT(t:Tok):jm t t=true:=Nd.2 rfl
theorem xU(w w':Value)(t u:Tok)(R:av)(h:dS R (w,t))(l:dS R (w',u)):Spec prog 12 [.agg (bE (w,t)).toArray,.agg (bE (w',u)).toArray] R [] λv H'=>v=.bool (jm t u)/\H'=[]:=by
 have L:bJ (bE (w,t)):=⟨h.bG⟩
 have M:bJ (bE (w',u)):=⟨l.bG⟩
 have j:RS R 1 bB w t.scopes:=h
 have k:RS R 1 bB w' u.scopes:=l
 have N:=j.aw
 have O:=k.aw
 obtain⟨s,x,y,A,m,B,C,D,E⟩:=t
 obtain⟨F,n,o,G,p,H,I,J,K⟩:=u
 simp only at j k
 refine Spec.body func12 rfl results12 ntmps12 rfl ?_
 refine .sr ?_
 refine .dv rfl (λn=>?_)
 refine .dv rfl (λo=>?_)
 refine .ag rfl<|.z<|.fa rfl<|.lo rfl<|.fa rfl<|.lo rfl<|.q .ek<|.mo rfl ?_
 refine .split (t:=10) rfl (λg=>?_) (λg=>?_)
 refine .gT g<|.fa rfl<|.gT g<|.lo rfl<|.gT g<|.fa rfl<|.gT g<|.lo rfl<|.gT g<|.q .bS<|.q (.aY g) ?_
 refine .mo rfl ?_
 refine .split (t:=17) rfl (λa=>?_) (λa=>?_)
 refine .gT a<|.fa rfl<|.gT a<|.lo rfl<|.gT a<|.fa rfl<|.gT a<|.lo rfl<|.gT a<|.q .ek<|.q (.aY a) ?_
 refine .mo rfl ?_
 refine .split (t:=24) rfl (λb=>?_) (λb=>?_)
 refine .gT b<|.fa rfl<|.gT b<|.lo rfl<|.gT b<|.fa rfl<|.gT b<|.lo rfl<|.gT b<|.q .ek<|.q (.aY b) ?_
 refine .mo rfl ?_
 refine .split (t:=31) rfl (λc=>?_) (λc=>?_)
 refine .gT c<|.fa rfl<|.gT c<|.lo rfl<|.gT c<|.fa rfl<|.gT c<|.lo rfl<|.gT c ?_
 refine .aM (pn w w' m p _ j.rx k.rx) (λv r=>?_)
 subst r
 refine .q (.aY c) ?_
 refine .mo rfl ?_
 refine .split (t:=38) rfl (λd=>?_) (λd=>?_)
 refine .gT d<|.fa rfl<|.gT d<|.lo rfl<|.gT d<|.fa rfl<|.gT d<|.lo rfl<|.gT d<|.q .bS<|.q (.aY d) ?_
 refine .mo rfl ?_
 refine .split (t:=45) rfl (λe=>?_) (λe=>?_)
 refine .gT e<|.fa rfl<|.gT e<|.lo rfl<|.gT e<|.fa rfl<|.gT e<|.lo rfl<|.gT e<|.q .bS<|.q (.aY e) ?_
 refine .mo rfl ?_
 refine .split (t:=52) rfl (λf=>?_) (λf=>?_)
 refine .gT f<|.fa rfl<|.gT f<|.lo rfl<|.gT f<|.fa rfl<|.gT f<|.lo rfl<|.gT f<|.q .bS<|.q (.aY f) ?_
 refine .mo rfl ?_
 refine .split (t:=59) rfl (λi=>?_) (λi=>?_)
 refine .gT i<|.fa rfl<|.gT i<|.lo rfl<|.gT i<|.fa rfl<|.gT i<|.lo rfl<|.gT i<|.q .uU<|.q (.aY i) ?_
 refine .az rfl ?_
 refine .ret (aO rfl ?_)
 ·refine⟨ac2 _ ?_,rfl⟩
  simp_all[jm]
 refine .gF i<|.gF i<|.gF i<|.gF i<|.gF i<|.q (.aS i) ?_
 refine .az rfl ?_
 refine .ret (aO rfl ?_)
 ·refine⟨ac2 _ ?_,rfl⟩
  simp_all[jm]
 refine .gF f<|.gF f<|.gF f<|.gF f<|.gF f<|.q (.aS f) ?_
 refine .mo rfl<|.gX<|.gX<|.gX<|.gX<|.gX<|.q .bY<|.az rfl ?_
 refine .ret (aO rfl ?_)
 ·refine⟨ac2 _ ?_,rfl⟩
  simp_all[jm]
 refine .gF e<|.gF e<|.gF e<|.gF e<|.gF e<|.q (.aS e) ?_
 refine .mo rfl<|.gX<|.gX<|.gX<|.gX<|.gX<|.q .bY<|.mo rfl<|.gX<|.gX<|.gX<|.gX<|.gX<|.q .bY<|.az rfl ?_
 refine .ret (aO rfl ?_)
 ·refine⟨ac2 _ ?_,rfl⟩
  simp_all[jm]
 refine .gF d<|.gF d<|.gF d<|.gF d<|.gF d<|.q (.aS d) ?_
 refine .mo rfl<|.gX<|.gX<|.gX<|.gX<|.gX<|.q .bY<|.mo rfl<|.gX<|.gX<|.gX<|.gX<|.gX<|.q .bY<|.mo rfl<|.gX<|.gX<|.gX<|.gX<|.gX<|.q .bY<|.az rfl ?_
 refine .ret (aO rfl ?_)
 ·refine⟨ac2 _ ?_,rfl⟩
  simp_all[jm]
 refine .gF c<|.gF c<|.gF c<|.gF c<|.gF c<|.q (.aS c) ?_
 refine .mo rfl<|.gX<|.gX<|.gX<|.gX<|.gX<|.q .bY<|.mo rfl<|.gX<|.gX<|.gX<|.gX<|.gX<|.q .bY<|.mo rfl<|.gX<|.gX<|.gX<|.gX<|.gX<|.q .bY<|.mo rfl<|.gX<|.gX<|.gX<|.gX<|.gX<|.q .bY<|.az rfl ?_
 refine .ret (aO rfl ?_)
 ·refine⟨ac2 _ ?_,rfl⟩
  simp_all[jm]
 refine .gF b<|.gF b<|.gF b<|.gF b<|.gF b<|.q (.aS b) ?_
 refine .mo rfl<|.gX<|.gX<|.gX<|.gX<|.gX<|.q .bY<|.mo rfl<|.gX<|.gX<|.gX<|.gX<|.gX<|.q .bY<|.mo rfl<|.gX<|.gX<|.gX<|.gX<|.gX<|.q .bY<|.mo rfl<|.gX<|.gX<|.gX<|.gX<|.gX<|.q .bY<|.mo rfl<|.gX<|.gX<|.gX<|.gX<|.gX<|.q .bY<|.az rfl ?_
 refine .ret (aO rfl ?_)
 ·refine⟨ac2 _ ?_,rfl⟩
  simp_all[jm]
 refine .gF a<|.gF a<|.gF a<|.gF a<|.gF a<|.q (.aS a) ?_
 refine .mo rfl<|.gX<|.gX<|.gX<|.gX<|.gX<|.q .bY<|.mo rfl<|.gX<|.gX<|.gX<|.gX<|.gX<|.q .bY<|.mo rfl<|.gX<|.gX<|.gX<|.gX<|.gX<|.q .bY<|.mo rfl<|.gX<|.gX<|.gX<|.gX<|.gX<|.q .bY<|.mo rfl<|.gX<|.gX<|.gX<|.gX<|.gX<|.q .bY<|.mo rfl<|.gX<|.gX<|.gX<|.gX<|.gX<|.q .bY<|.az rfl ?_
 refine .ret (aO rfl ?_)
 ·refine⟨ac2 _ ?_,rfl⟩
  simp_all[jm]
 refine .gF g<|.gF g<|.gF g<|.gF g<|.gF g<|.q (.aS g) ?_
 refine .mo rfl<|.gX<|.gX<|.gX<|.gX<|.gX<|.q .bY<|.mo rfl<|.gX<|.gX<|.gX<|.gX<|.gX<|.q .bY<|.mo rfl<|.gX<|.gX<|.gX<|.gX<|.gX<|.q .bY<|.mo rfl<|.gX<|.gX<|.gX<|.gX<|.gX<|.q .bY<|.mo rfl<|.gX<|.gX<|.gX<|.gX<|.gX<|.q .bY<|.mo rfl<|.gX<|.gX<|.gX<|.gX<|.gX<|.q .bY<|.mo rfl<|.gX<|.gX<|.gX<|.gX<|.gX<|.q .bY<|.az rfl ?_
 refine .ret (aO rfl ?_)
 ·refine⟨ac2 _ ?_,rfl⟩
  simp_all[jm]
def Tok.short(t:Tok):Tok:=⟨Go.Proofs.YtkkmbiojicgobaaGreatDoor.short t.text 40,t.kind,Go.Proofs.YtkkmbiojicgobaaGreatDoor.short t.aE 40,Go.Proofs.YtkkmbiojicgobaaGreatDoor.short t.user 40,texts t.scopes 5 20,t.family,t.cq,t.rev,t.used⟩
theorem Tok.sO(t:Tok):t.short.eo:=by
 unfold Tok.eo Tok.short texts
 simp;omega
theorem Oh(k:ByteArray)(b:Nat)(w:Value)(t:Tok)(a:One w)(R:av) [pc:PC R (pT b) [.string k]]:
  Spec prog 162 [.agg (bE (w,t)).toArray,pT b] R [] λv H'=>v=.bool (decide (t.text=k))/\H'=[]:=by
 have d:=m5 (t:=t) a
 refine Spec.body func162 rfl results162 ntmps162 rfl ?_
 refine .sr ?_
 refine .dv rfl (λc=>?_)
 refine .ag rfl<|.z<|.fa rfl<|.lo rfl<|.lo rfl<|.q .ek<|.az rfl ?_
 refine .ret (aO rfl ?_)
 ·exact⟨rfl,rfl⟩
def gD(aE user:ByteArray)(t:Tok):Bool:=decide (t.aE=aE)&&(decide (user=⟨#[]⟩)||decide (user=t.user))
theorem N0(aE user:ByteArray)(b d:Nat)(w:Value)(t:Tok)(e:One w)(R:av) [pc:PC R (pT b) [.string aE]] [h:PC R (.pointer (some ⟨d,0,none⟩)) [.string user]]:
  Spec prog 196 [.agg (bE (w,t)).toArray,pT b,.pointer (some ⟨d,0,none⟩)] R [] λv H'=>v=.bool (gD aE user t)/\H'=[]:=by
 have g:=m5 (t:=t) e
 refine Spec.body func196 rfl results196 ntmps196 rfl ?_
 refine .sr ?_
 refine .dv rfl (λf=>?_)
 refine .ag rfl<|.z<|.fa rfl<|.lo rfl<|.lo rfl<|.q .ek<|.mo rfl ?_
 refine .split (t:=9) rfl (λa=>?_) (λa=>?_)
 refine .gT a<|.lo rfl<|.gT a<|.q .ek<|.gT a<|.mo rfl ?_
 refine .split (t:=12) rfl (λc=>?_) (λc=>?_)
 refine .gF c<|.gF c<|.gF c<|.gF c<|.gT a<|.q (.aY c) ?_
 refine .q (.aY a) ?_
 refine .az rfl ?_
 refine .ret (aO rfl ?_)
 ·refine⟨ac2 _ ?_,rfl⟩
  unfold gD
  simp_all
 refine .gT c<|.lo rfl<|.gT c<|.fa rfl<|.gT c<|.lo rfl<|.gT c<|.q .ek<|.gT a<|.q (.aS c) ?_
 refine .q (.aY a) ?_
 refine .az rfl ?_
 refine .ret (aO rfl ?_)
 ·refine⟨ac2 _ ?_,rfl⟩
  unfold gD
  simp_all
 refine .gF a<|.gF a<|.gF a<|.cX rfl ?_
 refine .cX rfl ?_
 refine .cX rfl ?_
 refine .cX rfl ?_
 refine .gF a<|.q (.aS a) ?_
 refine .az rfl ?_
 refine .ret (aO rfl ?_)
 ·refine⟨ac2 _ ?_,rfl⟩
  unfold gD
  simp_all
theorem OI(g:Nat)(A:List (ByteArray×Tok))(last:Int)(T:ax)(h:VI g A last T)(aE user:ByteArray)(R:av):
  Spec prog 135 [pT g,.string aE,.string user] R [T] λv H'=>∃T',H'=[T']/\v=.tuple #[]/\VI g (A.filter λx=> !gD aE user x.2) last T':=by
 obtain⟨a,d,rfl,l⟩:=h
 have n:=l
 obtain⟨u,M,q,y,B,p,o,D,C,F⟩:=l
 obtain⟨k,rfl⟩:∃b,u=.map (some b):=by obtain⟨b,es,clock,h1,_⟩:=o;exact⟨b,h1⟩
 have G:PS d (pT g) [.map (some k),pT q,.int .i64 last]:=PS.of (E:=102) (fr:=(0,0)) (by rw[p];simp)
 refine Spec.dg (H':=[d,a]) (by simp) ?_
 refine Spec.body func135 rfl results135 ntmps135 rfl ?_
 refine .sr ?_
 refine .ko rfl (λe=>?_)
 refine .ko rfl (λf=>?_)
 refine .z<|.mo rfl ?_
 refine .aM (lV g k _ _ _) (λv i=>?_)
 subst i
 refine .zn<|.dF<|.region<|.mo rfl<|.q .makeFunc ?_
 refine .jO (tj g A last a d n 196 [pT e,pT f] (gD aE user) _ (λw t s c m=>by
  have:PC c (pT e) [.string aE]:=PC.of (E:=9) (fr:=(0,0)) (m _ _ (.inr (by simp)))
  have:PC c (pT f) [.string user]:=PC.of (E:=9) (fr:=(0,0)) (m _ _ (.inr (by simp)))
  exact N0 aE user e f w t s c)) (λv j i=>?_)
 obtain⟨rfl,r⟩:=i
 refine .nil ?_
 refine eh _ .none ((aI [2,2]).trans (aT.bu (H':=[j++a]) (by simp[take,aZ]))) ?_
 ·exact⟨_,rfl,rfl,a,j,rfl,r⟩
def eU(A:List (ByteArray×Tok))(k aE:ByteArray):Int×List (ByteArray×Tok):=match aU k A with
 |none=>(0,A)
 |some t=>if t.aE≠aE then(20,A)else if t.kind=2 then(0,A.filter λx=> !(x.2.family==t.family))else(0,A.filter λx=> !decide (x.2.text=k))
theorem ON(g:Nat)(A:List (ByteArray×Tok))(last:Int)(T:ax)(h:VI g A last T)(k aE:ByteArray)(R:av):
  Spec prog 90 [pT g,.string k,.string aE] R [T] λv H'=>∃T',H'=[T']/\v=.int .i64 (eU A k aE).1/\VI g (eU A k aE).2 last T':=by
 have D:=h
 obtain⟨a,c,rfl,F⟩:=h
 have G:=F
 obtain⟨vm,M,q,Tm,Tq,H,z,L,K,hQ⟩:=F
 obtain⟨n,rfl⟩:∃b,vm=.map (some b):=by obtain⟨b,es,clock,h1,_⟩:=z;exact⟨b,h1⟩
 have ps:PS c (pT g) [.map (some n),pT q,.int .i64 last]:=PS.of (E:=102) (fr:=(0,0)) (by rw[H];simp)
 have rm:RM (sg c) (λs:ByteArray=>.string s) (λp:TP=>.agg (bE p).toArray) (.map (some n)) M:=z.rm λp U=>by rw[H];simp[sg,U]
 obtain⟨J,j,V,S,a0,W,a1,Y⟩:=qZ z.nd L K k
 have i0:bJ (bE (J,j)):=⟨S.bG⟩
 refine Spec.dg (H':=[c,a]) (by simp) ?_
 refine Spec.body func90 rfl results90 ntmps90 rfl ?_
 refine .sr ?_
 refine .ko rfl (λm=>?_)
 refine .ag rfl<|.zs<|.sr<|.mo rfl ?_
 refine .aM (lV g n _ _ _) (λv i=>?_)
 subst i
 refine .q .not<|.zn<|.bZ<|.kn<|.seq<|.cW [10] mixed ?_
 refine .tO 0 rfl .move<|.tO 1 rfl (.nilCheck rfl)<|.tO 2 rfl (.fieldAddr rfl)<|.tO 3 rfl (.bN rfl)<|.tO 4 rfl (.bN rfl) ?_
 refine .eE 5 rfl (aP.cast (v':=.tuple [.agg (bE (J,j)).toArray,.bool (aU k A).isSome].toArray) (.kP (rm.mono λb o O=>.inr (by have Q:(b,o)∈c:=O;simp[Q])) rfl (show _=some (Value.string k)from rfl)) (by rw[<-W, <-V];rfl)) (by kernel_rfl) ?_
 refine .tO 6 rfl .move<|.tO 7 rfl .extract<|.tK 8 rfl .extract ?_
 refine .sT 9 rfl ?_
 refine .cN (λb7=>?_)
 refine .nil (Next.sub ?_)
 refine .sT 10 rfl ?_
 refine .ct rfl rfl ?_
 refine .nil (Next.mod rfl ?_)
 refine .tK 11 rfl .assign ?_
 refine RA.nil (by kernel_rfl) ?_
 refine aD<|.seq<|.block<|.sr<|.mo rfl<|.q .not<|.az rfl ?_
 refine .cond rfl (λr=>?_) λr=>?_
 refine .sr<|.az rfl ?_
 refine .ret (br (aL (aR _ (.one (.tmp rfl)) ((aI [2,2]).trans (aT.bu (H':=[c++a]) (by simp[take,aZ]))) ?_)))
 ·have f:aU k A=none:=by simpa using r
  have e:eU A k aE=(0,A):=by unfold eU;rw[f]
  rw[e];exact⟨_,rfl,rfl,D⟩
 have f:aU k A=some j:=by
  have X:(aU k A).isSome=true:=by simpa using r
  obtain⟨u,I⟩:=Option.isSome_iff_exists.1 X
  exact(Y u I).1▸I
 refine .sr<|.fa rfl<|.lo rfl<|.mo rfl<|.q .fj<|.az rfl ?_
 refine .cond rfl (λl=>?_) λl=>?_
 refine .sr<|.az rfl ?_
 refine .ret (br (aL (aR _ (.one (.tmp rfl)) ((aI [2,2]).trans (aT.bu (H':=[c++a]) (by simp[take,aZ]))) ?_)))
 ·have e:eU A k aE=(20,A):=by unfold eU;rw[f];simp only;rw[if_pos (by simpa using l)]
  rw[e];exact⟨_,rfl,rfl,D⟩
 refine .sr<|.fa rfl<|.lo rfl<|.q .bS<|.az rfl ?_
 refine .cond rfl (λy=>?_) λy=>?_
 refine .region<|.mo rfl<|.fa rfl<|.lo rfl ?_
 refine .bW (ti g A last a c G j.family _) (λv d i=>?_)
 obtain⟨rfl,B⟩:=i
 refine .nil<|bz<|aD<|.sr<|.az rfl ?_
 refine .ret (aR _ (.one (.tmp rfl)) ((aI [2,2]).trans (aT.bu (H':=[d++a]) (by simp[take,aZ]))) ?_)
 ·have e:eU A k aE=(0,A.filter λx=> !(x.2.family==j.family)):=by unfold eU;rw[f];simp only;rw[if_neg (by simpa using l),if_pos (by simpa using y)]
  rw[e];exact⟨_,rfl,rfl,a,d,rfl,B⟩
 refine .region<|.mo rfl<|.q .makeFunc ?_
 refine .jO (tj g A last a c G 162 [pT m] (λt=>decide (t.text=k)) _ (λw t Z C N=>by
  have:PC C (pT m) [.string k]:=PC.of (E:=9) (fr:=(0,0)) (N _ _ (.inr (by simp)))
  exact Oh k m w t Z C)) (λv d i=>?_)
 obtain⟨rfl,B⟩:=i
 refine .nil<|bz<|aD<|.sr<|.az rfl ?_
 refine .ret (aR _ (.one (.tmp rfl)) ((aI [2,2]).trans (aT.bu (H':=[d++a]) (by simp[take,aZ]))) ?_)
 ·have e:eU A k aE=(0,A.filter λx=> !decide (x.2.text=k)):=by unfold eU;rw[f];simp only;rw[if_neg (by simpa using l),if_neg (by simpa using y)]
  rw[e];exact⟨_,rfl,rfl,a,d,rfl,B⟩
theorem yi{β:Type}{M:List (ByteArray×β)}{a:List ByteArray}{k:ByteArray}:dO k (M.filter λx=>decide (x.1∉a))=M.filter λx=>decide (x.1∉a++[k]):=by
 unfold dO
 rw[List.filter_filter]
 refine List.filter_congr λx _=>?_
 by_cases h:x.1=k<;>simp[h]
theorem OQ(g:Nat)(A:List (ByteArray×Tok))(last:Int)(T:ax)(h:VI g A last T)(now:Int)(R:av):
  Spec prog 65 [pT g,.int .i64 now] R [T] λv H'=>∃T',H'=[T']/\v=.tuple #[]/\VI g (A.filter λx=>decide (now<x.2.cq)) last T':=by
 have J:=h.nd
 obtain⟨d,_,rfl,vm,M,q,n,G,rfl,L,Y,I,hQ⟩:=h
 obtain⟨a,rfl⟩:∃b,vm=.map (some b):=by obtain⟨b,es,clock,h1,_⟩:=L;exact⟨b,h1⟩
 refine Spec.dg (H':=[bl g [.map (some a),pT q,.int .i64 last] 102,n,G,d]) (by simp) ?_
 refine Spec.body func65 rfl results65 ntmps65 rfl ?_
 refine .seq<|.sr<|.mo rfl ?_
 refine .aM (lV g a _ _ _) (λv hv=>?_)
 subst hv
 refine .q .not<|.zn<|.bZ<|.kn<|.sr<|.mo rfl<|.nc rfl<|.fa rfl<|.lo rfl<|.mo rfl ?_
 refine .call [2] (xu q _ G hQ now _) (λu H' hu=>?_)
 obtain⟨e,F,B,A',rfl,C,a0,r,K⟩:=hu
 show aG _ _ _ _ _ _ _ [e,F,bl g [.map (some a),pT q,.int .i64 last] 102,n,d] _
 have a4:=C.le
 refine .q (.ec C) ?_
 refine .mo rfl<|.zn<|.block ?_
 refine .loop (X:=Nat×List (ByteArray×TP)×ax) (λy=>(y.1<=B.length/\y.2.1=M.filter λx=>decide (x.1∉(B.map (·.1)).take y.1))/\MS (λs:ByteArray=>.string s) (λp:TP=>.agg (bE p).toArray) (.map (some a)) y.2.1 y.2.2) (λy=>[(0,pT g),(14,u),(15,.int .i64 ((B.map (·.1)).length:Nat)),(16,iN y.1)]) (λy=>[e,F,bl g [.map (some a),pT q,.int .i64 last] 102,y.2.2,d]) (λy=>B.length-y.1) (0,M,n) ⟨⟨by omega,by simp only[List.take_zero];exact(List.filter_eq_self.2 λx _=>by simp).symm⟩,L⟩ kE.c.c.c.c rH ?_
 rintro⟨i,m,E⟩ ⟨⟨hi,w⟩,j⟩
 simp only at hi w j⊢
 refine .sr<|.q .lss<|.zs ?_
 refine .cond rfl (λo=>?_) λo=>?_
 have Q:i<(B.map (·.1)).length:=by have:=bx o;omega
 obtain⟨k,O⟩:=dN Q
 have a5:i<B.length:=by simpa using Q
 refine .kn<|.seq<|.block<|.sr ?_
 refine .bb i C O (λa6=>?_)
 refine .lo rfl<|.az rfl<|.region<|.mo rfl ?_
 refine .nc rfl<|.fa rfl<|.lo rfl<|.mo rfl ?_
 refine .delete j rfl (show _=some (Value.string k)from rfl) (λV Z _=>?_)
 refine .nil<|bz<|aD<|.region ?_
 refine .ia (i+1) .add ?_
 refine .mo rfl<|.nil ?_
 ·exact bf (i+1,eG k m,V) ⟨⟨by simp only;omega,by simp only;rw[mm j.nd,w,yi,List.take_add_one,O];rfl⟩,Z⟩ (by simp only;omega) kE.c.c.c.c rH
 have a1:i=B.length:=by have:=bo o;simp at this;omega
 have N:m=M.filter λx=>decide (now<x.2.2.cq):=by
  rw[w,a1,List.take_of_length_le (by simp)]
  refine List.filter_congr λx hx=>?_
  have S:=r.pm
  have a3:(x.1,x.2.2)∈A:=I.mem_iff.1 (oW hx)
  have U:(x.1,x.2.2.cq)∈dP (λt:Tok=>t.cq) A:=oW a3
  by_cases D:now<x.2.2.cq
  ·have:x.1∉B.map (·.1):=λhm=>by
    obtain⟨p,l,a2⟩:=List.mem_map.1 hm
    have h5:p∈dP (λt:Tok=>t.cq) A:=S.mem_iff.2 (List.mem_append_left _ l)
    have W:aU x.1 (dP (λt:Tok=>t.cq) A)=some p.2:=gC (by rw[kO];exact J) (by rw[<-a2];exact h5)
    have H:aU x.1 (dP (λt:Tok=>t.cq) A)=some x.2.2.cq:=gC (by rw[kO];exact J) U
    rw[W]at H
    have h8:=r.le p l
    simp only[Option.some.injEq]at H
    omega
   rw[decide_eq_true this,decide_eq_true D]
  ·have:x.1∈B.map (·.1):=by
    rcases List.mem_append.1 (S.mem_iff.1 U)with h5|h5
    ·exact List.mem_map.2 ⟨_,h5,rfl⟩
    ·exact absurd (K _ h5) D
   rw[decide_eq_false D,decide_eq_false (λhh=>hh this)]
 refine .exit<|bD<|bH<|bF ?_
 refine eh _ .none ((aI [2,2,0,1]).trans (aT.bu (H':=[((g,.cells [.map (some a),pT q,.int .i64 last].toArray 102 (0,0))::(E++e))++d]) (by simp[take,aZ]))) ?_
 ·refine⟨_,rfl,rfl,d,_,rfl,_,m,q,E,e,rfl,j,λp l=>Y p (List.mem_filter.1 (N▸l)).1,?_,?_⟩
  ·rw[N, <-mf (q:=λt:Tok=>decide (now<t.cq))]
   exact I.filter _
  ·refine a0.perm ((r.filter K).trans (List.Perm.of_eq ?_))
   exact mf (f:=λt:Tok=>t.cq) (q:=λz:Int=>decide (now<z))
theorem Of{A:List (ByteArray×Tok)}{last:Int}{t:Tok}(h:(fu A last t).1=0):(fu A last t).2=cT t.text t.fresh A/\aU t.text A=none/\hU t last=true:=by
 unfold fu at h⊢
 split at h
 ·cases h
 ·split at h
  ·cases h
  ·split at h
   ·cases h
   ·rename_i a b c
    rw[if_neg a,if_neg b,if_neg c]
    exact⟨rfl,by simpa using b,by simpa using a⟩
theorem Od{A:List (ByteArray×Tok)}{last:Int}{t:Tok}(h:(fu A last t).1≠0):(fu A last t).2=A:=by
 unfold fu at h⊢
 split
 ·rfl
 ·split
  ·rfl
  ·split
   ·rfl
   ·rename_i a b c
    rw[if_neg a,if_neg b,if_neg c]at h
    exact absurd rfl h
abbrev CP:Type:=CR×bA
def eb(p:CP):List Value:=p.1.cells
def q9(p:CP):Prop:=∀u∈eb p,aw u=true
def fV(p q:CP):Int:=fT p.1.id q.1.id
theorem zV(p q:CP)(R:av)(g:q9 p)(h:q9 q):Spec prog 131 [.agg (eb p).toArray,.agg (eb q).toArray] R [] λv H'=>v=.int .i64 (fV p q)/\H'=[]:=by
 have n:bJ (eb p):=⟨g⟩
 have o:bJ (eb q):=⟨h⟩
 obtain⟨⟨a,j,k,l⟩,c⟩:=p
 obtain⟨⟨b,e,f,m⟩,d⟩:=q
 refine Spec.body func131 rfl results131 ntmps131 rfl ?_
 refine .sr ?_
 refine .dv rfl (λe=>?_)
 refine .dv rfl (λf=>?_)
 refine .ag rfl<|.z<|.fa rfl<|.lo rfl<|.fa rfl<|.lo rfl ?_
 refine .aM (nt a b _) (λv i=>?_)
 subst i
 refine .az rfl ?_
 refine .ret (aO rfl ?_)
 ·exact⟨rfl,rfl⟩
theorem uw:SO (aA fV):=by
 have e:∀p q:CP,aA fV p q=cp p.1.id q.1.id:=λp q=>by
  unfold aA fV
  rw[ac3,jI,ac4]
 exact⟨λx=>by rw[e];exact kB.fK _,λx y z a b=>by rw[e]at *;exact kB.tr _ _ _ a b,λx y z a b=>by rw[e]at *;exact kB.gU _ _ _ a b⟩
theorem mM(p q:CP):aA fV p q=cp p.1.id q.1.id:=by
 unfold aA fV
 rw[ac3,jI,ac4]
def mu(c d:bA):Bool:=decide (c.id=d.id)&&decide (c.cD=d.cD)&&decide (c.cm=d.cm)&&decide (c.scopes=d.scopes)
theorem M9(r s:CR)(c d:bA)(R:av)(h:eV R r c)(n:eV R s d):Spec prog 127 [.agg r.cells.toArray,.agg s.cells.toArray] R [] λv H'=>v=.bool (mu c d)/\H'=[]:=by
 obtain⟨A,B,p,o⟩:=r
 obtain⟨f,g,k,j⟩:=h
 simp only at f g k j
 subst f;subst g
 obtain⟨C,D,w,u⟩:=s
 obtain⟨f,g,m,l⟩:=n
 simp only at f g m l
 subst f;subst g
 refine Spec.body func127 rfl results127 ntmps127 rfl ?_
 refine .sr ?_
 refine .dv rfl (λx=>?_)
 refine .dv rfl (λy=>?_)
 refine .ag rfl<|.z<|.fa rfl<|.lo rfl<|.fa rfl<|.lo rfl<|.q .ek<|.mo rfl ?_
 refine .split (t:=10) rfl (λe=>?_) (λe=>?_)
 refine .gT e<|.fa rfl<|.gT e<|.lo rfl<|.gT e<|.fa rfl<|.gT e<|.lo rfl<|.gT e<|.q .ek<|.q (.aY e) ?_
 refine .mo rfl ?_
 refine .split (t:=17) rfl (λa=>?_) (λa=>?_)
 refine .gT a<|.fa rfl<|.gT a<|.lo rfl<|.gT a<|.fa rfl<|.gT a<|.lo rfl<|.gT a ?_
 refine .aM (pn p w _ _ _ k.rx m.rx) (λv i=>?_)
 subst i
 refine .q (.aY a) ?_
 refine .mo rfl ?_
 refine .split (t:=24) rfl (λb=>?_) (λb=>?_)
 refine .gT b<|.fa rfl<|.gT b<|.lo rfl<|.gT b<|.fa rfl<|.gT b<|.lo rfl<|.gT b ?_
 refine .aM (pn o u _ _ _ j.rx l.rx) (λv i=>?_)
 subst i
 refine .q (.aY b) ?_
 refine .az rfl ?_
 refine .ret (aO rfl ?_)
 ·exact⟨by unfold mu;simp_all,rfl⟩
 refine .gF b<|.gF b<|.gF b<|.gF b<|.gF b<|.q (.aS b) ?_
 refine .az rfl ?_
 refine .ret (aO rfl ?_)
 ·exact⟨by unfold mu;simp_all,rfl⟩
 refine .gF a<|.gF a<|.gF a<|.gF a<|.gF a<|.q (.aS a) ?_
 refine .mo rfl<|.gX<|.gX<|.gX<|.gX<|.gX<|.q .bY<|.az rfl ?_
 refine .ret (aO rfl ?_)
 ·exact⟨by unfold mu;simp_all,rfl⟩
 refine .gF e<|.gF e<|.gF e<|.gF e<|.gF e<|.q (.aS e) ?_
 refine .mo rfl<|.gX<|.gX<|.gX<|.gX<|.gX<|.q .bY<|.mo rfl<|.gX<|.gX<|.gX<|.gX<|.gX<|.q .bY<|.az rfl ?_
 refine .ret (aO rfl ?_)
 ·exact⟨by unfold mu;simp_all,rfl⟩
structure gw{α:Type}(c:α->α->Int):Prop where
 sw:∀x y,c x y<0↔0<c y x
 tr:∀x y z,c x y<=0->c y z<=0->c x z<=0
 tl:∀x y z,c x y<0->c y z<=0->c x z<0
section
variable{α β:Type}{c d:α->α->Int}
theorem gw.refl(h:gw c)(x:α):c x x=0:=by have:=h.sw x x;omega
theorem gw.Pd(h:gw c){x y:α}(a:c x y=0):c y x=0:=by have b:=h.sw x y;have d:=h.sw y x;omega
theorem gw.t2(h:gw c)(x y z:α)(a:c x y<=0)(b:c y z<0):c x z<0:=by
 have d:=h.tr x y z a (by omega)
 rcases Int.lt_or_eq_of_le d with h4|h4
 ·exact h4
 ·have f:=h.Pd h4
  have e:=h.tl y z x b (by omega)
  have g:=(h.sw y x).1 e
  omega
theorem gw.map(h:gw c)(f:β->α):gw (λx y=>c (f x) (f y)):=⟨λx y=>h.sw _ _,λx y z=>h.tr _ _ _,λx y z=>h.tl _ _ _⟩
theorem gw.so(h:gw c):SO (aA c) where
 fK x:=by unfold aA;rw[h.refl];rfl
 tr x y z a b:=by
  unfold aA at *
  have a:=bx a
  have b:=bx b
  exact decide_eq_true (h.tl x y z a (by omega))
 gU x y z a b:=by
  unfold aA at *
  have a:=bo a
  have b:=bo b
  refine decide_eq_false λf=>?_
  have d:c y x<=0:=by have:=h.sw y x;have:=h.sw x y;omega
  have e:c z y<=0:=by have:=h.sw y z;have:=h.sw z y;omega
  have g:=h.tr z y x e d
  have i:=(h.sw x z).1 f
  omega
theorem nS(a:Int)(l:List Int):gq (a::l)=if a=0 then gq l else a:=rfl
theorem gw.nil:gw (λ_ _:α=>gq []):=⟨λx y=>by simp[gq],λx y z _ _=>by simp[gq],λx y z h _=>by simp[gq]at h⟩
theorem gw.cons{L:α->α->List Int}(d:gw c)(g:gw λa b=>gq (L a b)):gw (λa b=>gq (c a b::L a b)) where
 sw x y:=by
  simp only[nS]
  have e:=d.sw x y
  have f:=d.sw y x
  have s:=g.sw x y
  split<;>split<;>omega
 tr x y z e f:=by
  simp only[nS]at *
  have h:=d.tr x y z
  have i:=d.tl x y z
  have j:=d.t2 x y z
  have k:=g.tr x y z
  have l:=d.tr z y x
  have m:=d.sw x y
  have n:=d.sw y x
  have o:=d.sw z y
  have p:=d.sw y z
  have q:=d.sw x z
  have r:=d.sw z x
  split<;>(try split at e)<;>(try split at f)<;>omega
 tl x y z e f:=by
  simp only[nS]at *
  have h:=d.tr x y z
  have i:=d.tl x y z
  have j:=d.t2 x y z
  have k:=g.tl x y z
  have l:=d.tr z y x
  have m:=d.sw x y
  have n:=d.sw y x
  have o:=d.sw z y
  have p:=d.sw y z
  have q:=d.sw x z
  have r:=d.sw z x
  split<;>(try split at e)<;>(try split at f)<;>omega
theorem wS{a:Int}{l:List Int}(h:gq (a::l)=0):a=0/\gq l=0:=by
 rw[nS]at h
 split at h
 ·rename_i b;exact⟨b,h⟩
 ·omega
end
theorem qQ:gw fT where
 sw x y:=by rw[<-jI, <-pg]
 tr x y z h1 h2:=by
  have a:cp y x=false:=Bool.eq_false_iff.2 λh=>by have:=pg.1 h;omega
  have c:cp z y=false:=Bool.eq_false_iff.2 λh=>by have:=pg.1 h;omega
  have b:=kB.gU z y x c a
  rcases Int.lt_or_le 0 (fT x z)with h|h
  ·rw[pg.2 h]at b;cases b
  ·exact h
 tl x y z h1 h2:=by
  have a:=jI.2 h1
  rcases Int.lt_or_eq_of_le h2 with h|h
  ·exact jI.1 (nk a (jI.2 h))
  ·rw[nX]at h;subst h;exact h1
abbrev NP:Type:=Value×(cB×List ByteArray)
def ee(p:NP):List Value:=[.string p.2.1.1,.string p.2.1.2,p.1]
def iE(R:av)(p:NP):Prop:=RS R 1 bB p.1 p.2.2
theorem iE.mono{R R':av}{p:NP}(h:iE R p)(a:∀b o,R b o->R' b o):iE R' p:=RS.mono h a
theorem iE.bG{R:av}{p:NP}(h:iE R p):∀u∈ee p,aw u=true:=by
 have b:=h.aw.h
 intro u a
 simp only[ee,List.mem_cons,List.not_mem_nil,or_false]at a
 rcases a with rfl|rfl|rfl<;>first|rfl|assumption
def rb(p:NP):Prop:=∀u∈ee p,aw u=true
def mW(a b:cB):Int:=gq [fT a.1 b.1,fT a.2 b.2]
def dx(p q:NP):Int:=mW p.2.1 q.2.1
theorem mX:gw mW:=gw.cons (qQ.map λp:cB=>p.1) (gw.cons (qQ.map λp:cB=>p.2) gw.nil)
theorem yG{a b:cB}:mW a b=0↔a=b:=by
 constructor
 ·intro h
  obtain⟨c,d⟩:=wS h
  obtain⟨e,_⟩:=wS d
  exact Prod.ext (nX.1 c) (nX.1 e)
 ·rintro rfl;exact mX.refl _
theorem qy:gw dx:=mX.map λp:NP=>p.2.1
theorem zk(p q:NP)(R:av)(b:rb p)(c:rb q):Spec prog 123 [.agg (ee p).toArray,.agg (ee q).toArray] R [] λv H'=>v=.int .i64 (dx p q)/\H'=[]:=by
 have g:bJ (ee p):=⟨b⟩
 have h:bJ (ee q):=⟨c⟩
 refine Spec.body func123 rfl results123 ntmps123 rfl ?_
 refine .sr ?_
 refine .dv rfl (λe=>?_)
 refine .dv rfl (λf=>?_)
 refine .ag rfl<|.zs<|.cW [] mixed ?_
 refine .tO 0 rfl (.fieldAddr rfl)<|.tO 1 rfl (.bN rfl)<|.tO 2 rfl (.fieldAddr rfl)<|.tO 3 rfl (.bN rfl)<|.tO 5 rfl (.fieldAddr rfl)<|.tO 6 rfl (.bN rfl)<|.tO 7 rfl (.fieldAddr rfl)<|.tO 8 rfl (.bN rfl) ?_
 refine .sT 4 rfl ?_
 refine .aM (nt p.2.1.1 q.2.1.1 _) (λv a=>?_)
 subst a
 refine .nil (Next.sub ?_)
 refine .sT 9 rfl ?_
 refine .aM (nt p.2.1.2 q.2.1.2 _) (λv a=>?_)
 subst a
 refine .nil (Next.sub ?_)
 refine .sT 10 rfl ?_
 refine .qd [_,_] (λd=>?_)
 refine .nil (Next.sub ?_)
 refine .sT 11 rfl ?_
 refine .aM (wV _ [fT p.2.1.1 q.2.1.1,fT p.2.1.2 q.2.1.2] _ (RS.lits rfl (by simp[oQ]) (by simp[oQ,aw]))) (λv a=>?_)
 subst a
 refine .nil (Next.sub ?_)
 refine .tO 12 rfl .assign ?_
 refine RA.nil (by kernel_rfl) ?_
 refine aD ?_
 refine .ret (aO rfl ?_)
 ·exact⟨rfl,rfl⟩
def ra(p:GP):Prop:=∀u∈bO p,aw u=true
def dU(p q:GP):Int:=fT p.2.text q.2.text
theorem Kt(p q:GP)(R:av)(a:ra p)(b:ra q):Spec prog 126 [.agg (bO p).toArray,.agg (bO q).toArray] R [] λv H'=>v=.int .i64 (dU p q)/\H'=[]:=by
 have f:bJ (bO p):=⟨a⟩
 have g:bJ (bO q):=⟨b⟩
 refine Spec.body func126 rfl results126 ntmps126 rfl ?_
 refine .sr ?_
 refine .dv rfl (λd=>?_)
 refine .dv rfl (λe=>?_)
 refine .ag rfl<|.z<|.fa rfl<|.lo rfl<|.fa rfl<|.lo rfl ?_
 refine .aM (nt p.2.text q.2.text _) (λv c=>?_)
 subst c
 refine .az rfl ?_
 refine .ret (aO rfl ?_)
 ·exact⟨rfl,rfl⟩
theorem lp(p q:GP):aA dU p q=cp p.2.text q.2.text:=by
 unfold aA dU
 rw[ac3,jI,ac4]
theorem vC:SO (aA dU):=⟨λx=>by rw[lp];exact kB.fK _,λx y z a b=>by rw[lp]at *;exact kB.tr _ _ _ a b,λx y z a b=>by rw[lp]at *;exact kB.gU _ _ _ a b⟩
def rj(p:TP):Prop:=∀u∈bE p,aw u=true
def ed(p q:TP):Int:=fT p.2.text q.2.text
theorem NY(p q:TP)(R:av)(a:rj p)(b:rj q):Spec prog 47 [.agg (bE p).toArray,.agg (bE q).toArray] R [] λv H'=>v=.int .i64 (ed p q)/\H'=[]:=by
 have f:bJ (bE p):=⟨a⟩
 have g:bJ (bE q):=⟨b⟩
 refine Spec.body func47 rfl results47 ntmps47 rfl ?_
 refine .sr ?_
 refine .dv rfl (λd=>?_)
 refine .dv rfl (λe=>?_)
 refine .ag rfl<|.z<|.fa rfl<|.lo rfl<|.fa rfl<|.lo rfl ?_
 refine .aM (nt p.2.text q.2.text _) (λv c=>?_)
 subst c
 refine .az rfl ?_
 refine .ret (aO rfl ?_)
 ·exact⟨rfl,rfl⟩
theorem lq(p q:TP):aA ed p q=cp p.2.text q.2.text:=by
 unfold aA ed
 rw[ac3,jI,ac4]
theorem yn:SO (aA ed):=⟨λx=>by rw[lq];exact kB.fK _,λx y z a b=>by rw[lq]at *;exact kB.tr _ _ _ a b,λx y z a b=>by rw[lq]at *;exact kB.gU _ _ _ a b⟩
theorem tQ{α:Type}(key:α->ByteArray){cs f:List α}(e:cs.Pairwise λc d=>cp (key c) (key d)=true)(m:f.Perm cs)(r:f.Pairwise λc d=>cp (key d) (key c)=false):f=cs:=by
 refine List.Perm.eq_of_pairwise (le:=λc d:α=>cp (key d) (key c)=false) (λa b g q n o=>?_) r (e.imp λ{a b} p=>?_) m
 ·have h:key a=key b:=lx o n
  have g:=m.mem_iff.1 g
  obtain⟨i,k,rfl⟩:=List.mem_iff_getElem.1 g
  obtain⟨j,l,rfl⟩:=List.mem_iff_getElem.1 q
  rw[List.pairwise_iff_getElem]at e
  rcases Nat.lt_trichotomy i j with hij|hij|hij
  ·have:=e i j k l hij
   rw[h,ly]at this;cases this
  ·subst hij;rfl
  ·have:=e j i l k hij
   rw[h,ly]at this;cases this
 ·exact kB.kH p
theorem rl{α:Type}(key:α->ByteArray){cs:List α}(f:cs.Pairwise λc d=>cp (key c) (key d)=true):(cs.map key).Nodup:=by
 rw[List.Nodup,List.pairwise_map]
 exact f.imp λ{a b} e g=>by rw[g,ly]at e;cases e
end Go.Proofs.YtkkmbiojicgobaaGreatDoor
