/- What the law 'ReachB' uses. No condition. -/
import Derived.OpenShut
import Derived.ProofKit
import Derived.WalkKit
import Derived.Test.YtenilfmlfldogaaGreatKReachBC
import Derived.Test.YtenilfmlfldogaaGreatKReachBF
namespace Go.Proofs.YtenilfmlfldogaaGreat
open Tryz (prog)
section
set_option linter.unusedVariables false
set_option maxRecDepth 4000
open Go.ChangeShapes Go.WideShapes Go.ChangeAt Go.RowKit
theorem own : ownKnob Tryz.prog.godebug = none := by kernel_rfl
theorem kids : Kids prog (· < Tryz.prog.types.size) := kids_rows (by kernel_rfl) (by kernel_rfl)
theorem full : ∀ t e, t < Tryz.prog.types.size -> Tryz.prog.underlying t = some (.slice e) -> 0 < Tryz.prog.cellsOf e := slices_full_of prog (by kernel_rfl)
theorem ck_i {k : IntKind} {v : Value} (h : ckOf (.i k) v) : ∃ n, v = .int k n := by
 cases v <;> simp_all [ckOf]
theorem ck_s {v : Value} (h : ckOf .s v) : ∃ n, v = .string n := by
 cases v <;> simp_all [ckOf]
theorem ck_b {v : Value} (h : ckOf .b v) : ∃ n, v = .bool n := by
 cases v <;> simp_all [ckOf]
instance fT3 : ShT prog 3 [.i .i64] := ShT.int fU3 (by kernel_rfl)
instance fT4 : ShT prog 4 [.b] := ShT.bool fU4 (by kernel_rfl)
instance fT9 : ShT prog 9 [.s] := ShT.str fU9 (by kernel_rfl)
end
end Go.Proofs.YtenilfmlfldogaaGreat
