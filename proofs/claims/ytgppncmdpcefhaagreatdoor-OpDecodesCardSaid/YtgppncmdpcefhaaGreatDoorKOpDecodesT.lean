/- What the law 'OpDecodes' uses. No condition. -/
import Derived.OpenShut
import Derived.ProofKit
import Derived.WalkKit
import Derived.Test.YtgppncmdpcefhaaGreatDoorKOpDecodesC
import Derived.Test.YtgppncmdpcefhaaGreatDoorKOpDecodesF
namespace Go.Proofs.YtgppncmdpcefhaaGreatDoor
open Tryz
section
set_option linter.unusedVariables false
set_option linter.unusedSimpArgs false
set_option maxRecDepth 4000
open Go.ChangeShapes Go.WideShapes Go.ChangeAt Go.RowKit
theorem own:ownKnob prog.godebug=none:=by kernel_rfl
theorem kids:Kids prog (· <prog.types.size):=kids_rows (by kernel_rfl) (by kernel_rfl)
theorem full:∀t e,t<prog.types.size->prog.underlying t=some (.slice e)->0<prog.cellsOf e:=slices_full_of prog (by kernel_rfl)
end
end Go.Proofs.YtgppncmdpcefhaaGreatDoor
