/- What the law 'OpDecodes' uses. No condition. -/
import Derived.Test.YtgppncmdpcefhaaGreatDoorKOpDecodesC
import Derived.Test.YtgppncmdpcefhaaGreatDoorKOpDecodesH
import Derived.Test.YtgppncmdpcefhaaGreatDoorKOpDecodesT
namespace Go.Proofs.YtgppncmdpcefhaaGreatDoor
open Tryz
set_option linter.unusedVariables false
set_option linter.unusedSimpArgs false
set_option maxRecDepth 4000
theorem AK{t:TypeId}{k:IntKind} [u:bF prog t (.int k)]{H:Type}{enc:TypeId×Value->H}{W:World}{f:Nat}{cs:List Value}{x:DataW H×List MemPlace}(h:DataW.trod enc prog W 0 (λ_=>true) true f t cs=some x):∃z:Int,cs=[.int k z]/\k.min<=z/\z<=k.max:=by
 obtain⟨n,rfl,_,a⟩:=DataW.trod_int u.h h
 have a:(Lit.int k n).wf=true:=a
 simp only[Lit.wf,Bool.and_eq_true,decide_eq_true_eq]at a
 exact⟨n,rfl,a⟩
end Go.Proofs.YtgppncmdpcefhaaGreatDoor
