/- What the law 'CorePlays' uses. No condition. -/
import Derived.Test.YtkkmbiojicgobaaGreatDoorKCorePlaysH
import Derived.Test.YtkkmbiojicgobaaGreatDoorKCorePlaysK
import Derived.Test.YtkkmbiojicgobaaGreatDoorKCorePlaysU
set_option linter.unusedSimpArgs false
set_option linter.unusedVariables false
namespace Go.Proofs.YtkkmbiojicgobaaGreatDoor
set_option linter.defProp false
def aeJ:=@congrArg
open Tryz
set_option linter.unusedVariables false
set_option maxRecDepth 4000
def kw(t u:bJ):Bool:=decide (t.text=u.text)&&decide (t.aC=u.aC)&&decide (t.user=u.user)&&decide (t.uri=u.uri)&&decide (t.scopes=u.scopes)&&decide (t.lB=u.lB)&&(t.cb==u.cb)&&(t.family==u.family)&&(t.used==u.used)
theorem MU{t u:bJ}:kw t u=true↔t=u:=by
 obtain⟨a,b,c,d,e,f,g,h,i⟩:=t
 obtain⟨j,k,l,m,n,o,p,q,r⟩:=u
 simp[kw,and_assoc]
theorem MV(t:bJ):kw t t=true:=MU.2 rfl
theorem MW(w w':Value)(t u:bJ)(R:au)(h:dl R (w,t))(l:dl R (w',u)):Spec prog 59 [.agg (bM (w,t)).toArray,.agg (bM (w',u)).toArray] R [] λv H'=>v=.bool (kw t u)/\H'=[]:=by
 have L:bG (bM (w,t)):=⟨h.bD⟩
 have M:bG (bM (w',u)):=⟨l.bD⟩
 have j:RS R 1 bz w t.scopes:=h
 have k:RS R 1 bz w' u.scopes:=l
 have N:=j.av
 have O:=k.av
 obtain⟨s,x,y,A,m,B,C,D,E⟩:=t
 obtain⟨F,n,o,G,p,H,I,J,K⟩:=u
 simp only at j k
 refine Spec.body func59 rfl results59 ntmps59 rfl ?_
 refine .sr ?_
 refine .dA rfl (λn=>?_)
 refine .dA rfl (λo=>?_)
 refine .ag rfl<|.z<|.fa rfl<|.lo rfl<|.fa rfl<|.lo rfl<|.q .eg<|.mo rfl ?_
 refine .split (t:=10) rfl (λg=>?_) (λg=>?_)
 refine .gT g<|.fa rfl<|.gT g<|.lo rfl<|.gT g<|.fa rfl<|.gT g<|.lo rfl<|.gT g<|.q .eg<|.q (.aW g) ?_
 refine .mo rfl ?_
 refine .split (t:=17) rfl (λa=>?_) (λa=>?_)
 refine .gT a<|.fa rfl<|.gT a<|.lo rfl<|.gT a<|.fa rfl<|.gT a<|.lo rfl<|.gT a<|.q .eg<|.q (.aW a) ?_
 refine .mo rfl ?_
 refine .split (t:=24) rfl (λb=>?_) (λb=>?_)
 refine .gT b<|.fa rfl<|.gT b<|.lo rfl<|.gT b<|.fa rfl<|.gT b<|.lo rfl<|.gT b<|.q .eg<|.q (.aW b) ?_
 refine .mo rfl ?_
 refine .split (t:=31) rfl (λc=>?_) (λc=>?_)
 refine .gT c<|.fa rfl<|.gT c<|.lo rfl<|.gT c<|.fa rfl<|.gT c<|.lo rfl<|.gT c ?_
 refine .aL (o9 w w' m p _ j.rx k.rx) (λv r=>?_)
 subst r
 refine .q (.aW c) ?_
 refine .mo rfl ?_
 refine .split (t:=38) rfl (λd=>?_) (λd=>?_)
 refine .gT d<|.fa rfl<|.gT d<|.lo rfl<|.gT d<|.fa rfl<|.gT d<|.lo rfl<|.gT d<|.q .eg<|.q (.aW d) ?_
 refine .mo rfl ?_
 refine .split (t:=45) rfl (λe=>?_) (λe=>?_)
 refine .gT e<|.fa rfl<|.gT e<|.lo rfl<|.gT e<|.fa rfl<|.gT e<|.lo rfl<|.gT e<|.q .bR<|.q (.aW e) ?_
 refine .mo rfl ?_
 refine .split (t:=52) rfl (λf=>?_) (λf=>?_)
 refine .gT f<|.fa rfl<|.gT f<|.lo rfl<|.gT f<|.fa rfl<|.gT f<|.lo rfl<|.gT f<|.q .bR<|.q (.aW f) ?_
 refine .mo rfl ?_
 refine .split (t:=59) rfl (λi=>?_) (λi=>?_)
 refine .gT i<|.fa rfl<|.gT i<|.lo rfl<|.gT i<|.fa rfl<|.gT i<|.lo rfl<|.gT i<|.q .uM<|.q (.aW i) ?_
 refine .az rfl ?_
 refine .ret (aO rfl ?_)
 ·refine⟨aeJ _ ?_,rfl⟩
  simp_all[kw]
 refine .gF i<|.gF i<|.gF i<|.gF i<|.gF i<|.q (.aQ i) ?_
 refine .az rfl ?_
 refine .ret (aO rfl ?_)
 ·refine⟨aeJ _ ?_,rfl⟩
  simp_all[kw]
 refine .gF f<|.gF f<|.gF f<|.gF f<|.gF f<|.q (.aQ f) ?_
 refine .mo rfl<|.gX<|.gX<|.gX<|.gX<|.gX<|.q .bW<|.az rfl ?_
 refine .ret (aO rfl ?_)
 ·refine⟨aeJ _ ?_,rfl⟩
  simp_all[kw]
 refine .gF e<|.gF e<|.gF e<|.gF e<|.gF e<|.q (.aQ e) ?_
 refine .mo rfl<|.gX<|.gX<|.gX<|.gX<|.gX<|.q .bW<|.mo rfl<|.gX<|.gX<|.gX<|.gX<|.gX<|.q .bW<|.az rfl ?_
 refine .ret (aO rfl ?_)
 ·refine⟨aeJ _ ?_,rfl⟩
  simp_all[kw]
 refine .gF d<|.gF d<|.gF d<|.gF d<|.gF d<|.q (.aQ d) ?_
 refine .mo rfl<|.gX<|.gX<|.gX<|.gX<|.gX<|.q .bW<|.mo rfl<|.gX<|.gX<|.gX<|.gX<|.gX<|.q .bW<|.mo rfl<|.gX<|.gX<|.gX<|.gX<|.gX<|.q .bW<|.az rfl ?_
 refine .ret (aO rfl ?_)
 ·refine⟨aeJ _ ?_,rfl⟩
  simp_all[kw]
 refine .gF c<|.gF c<|.gF c<|.gF c<|.gF c<|.q (.aQ c) ?_
 refine .mo rfl<|.gX<|.gX<|.gX<|.gX<|.gX<|.q .bW<|.mo rfl<|.gX<|.gX<|.gX<|.gX<|.gX<|.q .bW<|.mo rfl<|.gX<|.gX<|.gX<|.gX<|.gX<|.q .bW<|.mo rfl<|.gX<|.gX<|.gX<|.gX<|.gX<|.q .bW<|.az rfl ?_
 refine .ret (aO rfl ?_)
 ·refine⟨aeJ _ ?_,rfl⟩
  simp_all[kw]
 refine .gF b<|.gF b<|.gF b<|.gF b<|.gF b<|.q (.aQ b) ?_
 refine .mo rfl<|.gX<|.gX<|.gX<|.gX<|.gX<|.q .bW<|.mo rfl<|.gX<|.gX<|.gX<|.gX<|.gX<|.q .bW<|.mo rfl<|.gX<|.gX<|.gX<|.gX<|.gX<|.q .bW<|.mo rfl<|.gX<|.gX<|.gX<|.gX<|.gX<|.q .bW<|.mo rfl<|.gX<|.gX<|.gX<|.gX<|.gX<|.q .bW<|.az rfl ?_
 refine .ret (aO rfl ?_)
 ·refine⟨aeJ _ ?_,rfl⟩
  simp_all[kw]
 refine .gF a<|.gF a<|.gF a<|.gF a<|.gF a<|.q (.aQ a) ?_
 refine .mo rfl<|.gX<|.gX<|.gX<|.gX<|.gX<|.q .bW<|.mo rfl<|.gX<|.gX<|.gX<|.gX<|.gX<|.q .bW<|.mo rfl<|.gX<|.gX<|.gX<|.gX<|.gX<|.q .bW<|.mo rfl<|.gX<|.gX<|.gX<|.gX<|.gX<|.q .bW<|.mo rfl<|.gX<|.gX<|.gX<|.gX<|.gX<|.q .bW<|.mo rfl<|.gX<|.gX<|.gX<|.gX<|.gX<|.q .bW<|.az rfl ?_
 refine .ret (aO rfl ?_)
 ·refine⟨aeJ _ ?_,rfl⟩
  simp_all[kw]
 refine .gF g<|.gF g<|.gF g<|.gF g<|.gF g<|.q (.aQ g) ?_
 refine .mo rfl<|.gX<|.gX<|.gX<|.gX<|.gX<|.q .bW<|.mo rfl<|.gX<|.gX<|.gX<|.gX<|.gX<|.q .bW<|.mo rfl<|.gX<|.gX<|.gX<|.gX<|.gX<|.q .bW<|.mo rfl<|.gX<|.gX<|.gX<|.gX<|.gX<|.q .bW<|.mo rfl<|.gX<|.gX<|.gX<|.gX<|.gX<|.q .bW<|.mo rfl<|.gX<|.gX<|.gX<|.gX<|.gX<|.q .bW<|.mo rfl<|.gX<|.gX<|.gX<|.gX<|.gX<|.q .bW<|.az rfl ?_
 refine .ret (aO rfl ?_)
 ·refine⟨aeJ _ ?_,rfl⟩
  simp_all[kw]
def bJ.short(t:bJ):bJ:=⟨Go.Proofs.YtkkmbiojicgobaaGreatDoor.short t.text 40,Go.Proofs.YtkkmbiojicgobaaGreatDoor.short t.aC 40,Go.Proofs.YtkkmbiojicgobaaGreatDoor.short t.user 40,Go.Proofs.YtkkmbiojicgobaaGreatDoor.short t.uri 60,texts t.scopes 5 20,Go.Proofs.YtkkmbiojicgobaaGreatDoor.short t.lB 60,t.cb,t.family,t.used⟩
theorem bJ.sH(t:bJ):t.short.eh:=by
 unfold bJ.eh bJ.short texts
 simp;omega
end Go.Proofs.YtkkmbiojicgobaaGreatDoor
