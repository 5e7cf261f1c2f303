/- What the law 'CoreErrors' uses. No condition. -/
import Derived.Test.YtkkmbiojicgobaaGreatDoorKCoreErrorsH
import Derived.Test.YtkkmbiojicgobaaGreatDoorKCoreErrorsK
import Derived.Test.YtkkmbiojicgobaaGreatDoorKCoreErrorsU
set_option linter.unusedSimpArgs false
set_option linter.unusedVariables false
namespace Go.Proofs.YtkkmbiojicgobaaGreatDoor
set_option linter.defProp false
def aeI:=@congrArg
open Tryz
set_option linter.unusedVariables false
set_option maxRecDepth 4000
def kC(t u:bL):Bool:=decide (t.text=u.text)&&decide (t.aE=u.aE)&&decide (t.user=u.user)&&decide (t.uri=u.uri)&&decide (t.scopes=u.scopes)&&decide (t.lG=u.lG)&&(t.cq==u.cq)&&(t.family==u.family)&&(t.used==u.used)
theorem Na{t u:bL}:kC t u=true↔t=u:=by
 obtain⟨a,b,c,d,e,f,g,h,i⟩:=t
 obtain⟨j,k,l,m,n,o,p,q,r⟩:=u
 simp[kC,and_assoc]
theorem Nb(t:bL):kC t t=true:=Na.2 rfl
theorem Nc(w w':Value)(t u:bL)(R:av)(h:dq R (w,t))(l:dq R (w',u)):Spec prog 59 [.agg (bO (w,t)).toArray,.agg (bO (w',u)).toArray] R [] λv H'=>v=.bool (kC t u)/\H'=[]:=by
 have L:bJ (bO (w,t)):=⟨h.bG⟩
 have M:bJ (bO (w',u)):=⟨l.bG⟩
 have j:RS R 1 bB w t.scopes:=h
 have k:RS R 1 bB w' u.scopes:=l
 have N:=j.aw
 have O:=k.aw
 obtain⟨s,x,y,A,m,B,C,D,E⟩:=t
 obtain⟨F,n,o,G,p,H,I,J,K⟩:=u
 simp only at j k
 refine Spec.body func59 rfl results59 ntmps59 rfl ?_
 refine .sr ?_
 refine .dv rfl (λn=>?_)
 refine .dv rfl (λo=>?_)
 refine .ag rfl<|.z<|.fa rfl<|.lo rfl<|.fa rfl<|.lo rfl<|.q .ek<|.mo rfl ?_
 refine .split (t:=10) rfl (λg=>?_) (λg=>?_)
 refine .gT g<|.fa rfl<|.gT g<|.lo rfl<|.gT g<|.fa rfl<|.gT g<|.lo rfl<|.gT g<|.q .ek<|.q (.aY g) ?_
 refine .mo rfl ?_
 refine .split (t:=17) rfl (λa=>?_) (λa=>?_)
 refine .gT a<|.fa rfl<|.gT a<|.lo rfl<|.gT a<|.fa rfl<|.gT a<|.lo rfl<|.gT a<|.q .ek<|.q (.aY a) ?_
 refine .mo rfl ?_
 refine .split (t:=24) rfl (λb=>?_) (λb=>?_)
 refine .gT b<|.fa rfl<|.gT b<|.lo rfl<|.gT b<|.fa rfl<|.gT b<|.lo rfl<|.gT b<|.q .ek<|.q (.aY b) ?_
 refine .mo rfl ?_
 refine .split (t:=31) rfl (λc=>?_) (λc=>?_)
 refine .gT c<|.fa rfl<|.gT c<|.lo rfl<|.gT c<|.fa rfl<|.gT c<|.lo rfl<|.gT c ?_
 refine .aM (pn w w' m p _ j.rx k.rx) (λv r=>?_)
 subst r
 refine .q (.aY c) ?_
 refine .mo rfl ?_
 refine .split (t:=38) rfl (λd=>?_) (λd=>?_)
 refine .gT d<|.fa rfl<|.gT d<|.lo rfl<|.gT d<|.fa rfl<|.gT d<|.lo rfl<|.gT d<|.q .ek<|.q (.aY d) ?_
 refine .mo rfl ?_
 refine .split (t:=45) rfl (λe=>?_) (λe=>?_)
 refine .gT e<|.fa rfl<|.gT e<|.lo rfl<|.gT e<|.fa rfl<|.gT e<|.lo rfl<|.gT e<|.q .bS<|.q (.aY e) ?_
 refine .mo rfl ?_
 refine .split (t:=52) rfl (λf=>?_) (λf=>?_)
 refine .gT f<|.fa rfl<|.gT f<|.lo rfl<|.gT f<|.fa rfl<|.gT f<|.lo rfl<|.gT f<|.q .bS<|.q (.aY f) ?_
 refine .mo rfl ?_
 refine .split (t:=59) rfl (λi=>?_) (λi=>?_)
 refine .gT i<|.fa rfl<|.gT i<|.lo rfl<|.gT i<|.fa rfl<|.gT i<|.lo rfl<|.gT i<|.q .uU<|.q (.aY i) ?_
 refine .az rfl ?_
 refine .ret (aO rfl ?_)
 ·refine⟨aeI _ ?_,rfl⟩
  simp_all[kC]
 refine .gF i<|.gF i<|.gF i<|.gF i<|.gF i<|.q (.aS i) ?_
 refine .az rfl ?_
 refine .ret (aO rfl ?_)
 ·refine⟨aeI _ ?_,rfl⟩
  simp_all[kC]
 refine .gF f<|.gF f<|.gF f<|.gF f<|.gF f<|.q (.aS f) ?_
 refine .mo rfl<|.gX<|.gX<|.gX<|.gX<|.gX<|.q .bY<|.az rfl ?_
 refine .ret (aO rfl ?_)
 ·refine⟨aeI _ ?_,rfl⟩
  simp_all[kC]
 refine .gF e<|.gF e<|.gF e<|.gF e<|.gF e<|.q (.aS e) ?_
 refine .mo rfl<|.gX<|.gX<|.gX<|.gX<|.gX<|.q .bY<|.mo rfl<|.gX<|.gX<|.gX<|.gX<|.gX<|.q .bY<|.az rfl ?_
 refine .ret (aO rfl ?_)
 ·refine⟨aeI _ ?_,rfl⟩
  simp_all[kC]
 refine .gF d<|.gF d<|.gF d<|.gF d<|.gF d<|.q (.aS d) ?_
 refine .mo rfl<|.gX<|.gX<|.gX<|.gX<|.gX<|.q .bY<|.mo rfl<|.gX<|.gX<|.gX<|.gX<|.gX<|.q .bY<|.mo rfl<|.gX<|.gX<|.gX<|.gX<|.gX<|.q .bY<|.az rfl ?_
 refine .ret (aO rfl ?_)
 ·refine⟨aeI _ ?_,rfl⟩
  simp_all[kC]
 refine .gF c<|.gF c<|.gF c<|.gF c<|.gF c<|.q (.aS c) ?_
 refine .mo rfl<|.gX<|.gX<|.gX<|.gX<|.gX<|.q .bY<|.mo rfl<|.gX<|.gX<|.gX<|.gX<|.gX<|.q .bY<|.mo rfl<|.gX<|.gX<|.gX<|.gX<|.gX<|.q .bY<|.mo rfl<|.gX<|.gX<|.gX<|.gX<|.gX<|.q .bY<|.az rfl ?_
 refine .ret (aO rfl ?_)
 ·refine⟨aeI _ ?_,rfl⟩
  simp_all[kC]
 refine .gF b<|.gF b<|.gF b<|.gF b<|.gF b<|.q (.aS b) ?_
 refine .mo rfl<|.gX<|.gX<|.gX<|.gX<|.gX<|.q .bY<|.mo rfl<|.gX<|.gX<|.gX<|.gX<|.gX<|.q .bY<|.mo rfl<|.gX<|.gX<|.gX<|.gX<|.gX<|.q .bY<|.mo rfl<|.gX<|.gX<|.gX<|.gX<|.gX<|.q .bY<|.mo rfl<|.gX<|.gX<|.gX<|.gX<|.gX<|.q .bY<|.az rfl ?_
 refine .ret (aO rfl ?_)
 ·refine⟨aeI _ ?_,rfl⟩
  simp_all[kC]
 refine .gF a<|.gF a<|.gF a<|.gF a<|.gF a<|.q (.aS a) ?_
 refine .mo rfl<|.gX<|.gX<|.gX<|.gX<|.gX<|.q .bY<|.mo rfl<|.gX<|.gX<|.gX<|.gX<|.gX<|.q .bY<|.mo rfl<|.gX<|.gX<|.gX<|.gX<|.gX<|.q .bY<|.mo rfl<|.gX<|.gX<|.gX<|.gX<|.gX<|.q .bY<|.mo rfl<|.gX<|.gX<|.gX<|.gX<|.gX<|.q .bY<|.mo rfl<|.gX<|.gX<|.gX<|.gX<|.gX<|.q .bY<|.az rfl ?_
 refine .ret (aO rfl ?_)
 ·refine⟨aeI _ ?_,rfl⟩
  simp_all[kC]
 refine .gF g<|.gF g<|.gF g<|.gF g<|.gF g<|.q (.aS g) ?_
 refine .mo rfl<|.gX<|.gX<|.gX<|.gX<|.gX<|.q .bY<|.mo rfl<|.gX<|.gX<|.gX<|.gX<|.gX<|.q .bY<|.mo rfl<|.gX<|.gX<|.gX<|.gX<|.gX<|.q .bY<|.mo rfl<|.gX<|.gX<|.gX<|.gX<|.gX<|.q .bY<|.mo rfl<|.gX<|.gX<|.gX<|.gX<|.gX<|.q .bY<|.mo rfl<|.gX<|.gX<|.gX<|.gX<|.gX<|.q .bY<|.mo rfl<|.gX<|.gX<|.gX<|.gX<|.gX<|.q .bY<|.az rfl ?_
 refine .ret (aO rfl ?_)
 ·refine⟨aeI _ ?_,rfl⟩
  simp_all[kC]
def bL.short(t:bL):bL:=⟨Go.Proofs.YtkkmbiojicgobaaGreatDoor.short t.text 40,Go.Proofs.YtkkmbiojicgobaaGreatDoor.short t.aE 40,Go.Proofs.YtkkmbiojicgobaaGreatDoor.short t.user 40,Go.Proofs.YtkkmbiojicgobaaGreatDoor.short t.uri 60,texts t.scopes 5 20,Go.Proofs.YtkkmbiojicgobaaGreatDoor.short t.lG 60,t.cq,t.family,t.used⟩
theorem bL.sO(t:bL):t.short.eo:=by
 unfold bL.eo bL.short texts
 simp;omega
end Go.Proofs.YtkkmbiojicgobaaGreatDoor
