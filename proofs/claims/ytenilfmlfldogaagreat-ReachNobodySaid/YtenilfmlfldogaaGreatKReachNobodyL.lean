/- What the law 'ReachNobody' uses. No condition. -/
import Derived.OpenShut
import Derived.ProofKit
import Derived.WalkKit
import Derived.Test.YtenilfmlfldogaaGreatKReachNobodyC
import Derived.Test.YtenilfmlfldogaaGreatKReachNobodyF
namespace Go.Proofs.YtenilfmlfldogaaGreat
open Tryz (prog)
section
set_option linter.unusedVariables false
set_option maxRecDepth 4000
open Go.ChangeShapes Go.WideShapes Go.ChangeAt Go.RowKit
theorem own : ownKnob Tryz.prog.godebug = none := by kernel_rfl
theorem kids : Kids prog (· < Tryz.prog.types.size) := kids_rows (by kernel_rfl) (by kernel_rfl)
theorem full : ∀ t e, t < Tryz.prog.types.size -> Tryz.prog.underlying t = some (.slice e) -> 0 < Tryz.prog.cellsOf e := slices_full_of prog (by kernel_rfl)
end
end Go.Proofs.YtenilfmlfldogaaGreat
