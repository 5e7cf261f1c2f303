/- What the law 'CoreReplays' uses of this prover's engine, facts and walks. No condition. -/
import Derived.OpenShut
import Derived.ProofKit
import Derived.WalkKit
import Derived.Test.YtkagfkbkpiebjaaGreatDoorKCoreReplaysC
import Derived.Test.YtkagfkbkpiebjaaGreatDoorKCoreReplaysF
set_option linter.unusedVariables false
set_option maxRecDepth 4000
namespace Go.Proofs.YtkagfkbkpiebjaaGreatDoor
open Go.ChangeShapes Go.WideShapes Go.ChangeAt Go.RowKit
theorem own : ownKnob Tryz.prog.godebug = none := by kernel_rfl
theorem kids : Kids Tryz.prog (· < Tryz.prog.types.size) := kids_rows (by kernel_rfl) (by kernel_rfl)
theorem full : ∀ t e, t < Tryz.prog.types.size → Tryz.prog.underlying t = some (.slice e) → 0 < Tryz.prog.cellsOf e := slices_full_of Tryz.prog (by kernel_rfl)
theorem ck_i {k : IntKind} {v : Value} (h : ckOf (.i k) v) : ∃ n, v = .int k n := by
 cases v <;> simp_all [ckOf]
theorem ck_s {v : Value} (h : ckOf .s v) : ∃ n, v = .string n := by
 cases v <;> simp_all [ckOf]
instance fT2 : ShT Tryz.prog 2 [.i .i64] := ShT.int fU2 (by kernel_rfl)
instance fT3 : ShT Tryz.prog 3 [.i .i64] := ShT.int fU3 (by kernel_rfl)
instance fT9 : ShT Tryz.prog 9 [.s] := ShT.str fU9 (by kernel_rfl)
instance fT32 : ShT Tryz.prog 32 [.i .u64] := ShT.int fU32 (by kernel_rfl)
end Go.Proofs.YtkagfkbkpiebjaaGreatDoor
