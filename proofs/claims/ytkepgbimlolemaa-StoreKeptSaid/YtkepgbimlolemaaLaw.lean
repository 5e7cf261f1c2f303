/- What a law of this seat is given, of plain types; the facts of a law's end, by program; no condition. -/
import Derived.Test.YtkepgbimlolemaaFacts
import Derived.Test.YtkepgbimlolemaaMot4
import Derived.WalkKit
import Derived.ProofKit
import Derived.OpenShut
set_option linter.unusedVariables false
set_option maxRecDepth 4000
namespace Go.Proofs.Ytkepgbimlolemaa
open Go.ChangeShapes Go.WideShapes Go.ChangeAt Go.RowKit
theorem own : ownKnob Try.prog.godebug = none := by kernel_rfl
theorem kids : Kids Try.prog (· < Try.prog.types.size) := kids_rows (by kernel_rfl) (by kernel_rfl)
theorem full : ∀ t e, t < Try.prog.types.size → Try.prog.underlying t = some (.slice e) → 0 < Try.prog.cellsOf e := slices_full_of Try.prog (by kernel_rfl)
theorem ck_i {k : IntKind} {v : Value} (h : ckOf (.i k) v) : ∃ n, v = .int k n := by
  cases v <;> simp_all [ckOf]
theorem ck_s {v : Value} (h : ckOf .s v) : ∃ n, v = .string n := by
  cases v <;> simp_all [ckOf]
theorem ck_b {v : Value} (h : ckOf .b v) : ∃ n, v = .bool n := by
  cases v <;> simp_all [ckOf]
instance fT2 : ShT Try.prog 2 [.i .i64] := ShT.int fU2 (by kernel_rfl)
instance fT3 : ShT Try.prog 3 [.i .i64] := ShT.int fU3 (by kernel_rfl)
instance fT4 : ShT Try.prog 4 [.b] := ShT.bool fU4 (by kernel_rfl)
instance fT5 : ShT Try.prog 5 [.i .u8] := ShT.int fU5 (by kernel_rfl)
instance fT6 : ShT Try.prog 6 [.i .u8] := ShT.int fU6 (by kernel_rfl)
theorem fT7 : ShT Try.prog 7 [.i .i64, .i .i64, .b, .i .u8] := ShT.struct Try.underlying7 (by kernel_rfl) (ShFs.cons fT2 (ShFs.cons fT3 (ShFs.cons fT4 (ShFs.cons fT6 ShFs.nil))))
theorem fT8 : ShT Try.prog 8 [.i .i64, .i .i64, .b, .i .u8] := ShT.struct Try.underlying8 (by kernel_rfl) (ShFs.cons fT2 (ShFs.cons fT3 (ShFs.cons fT4 (ShFs.cons fT6 ShFs.nil))))
instance fT9 : ShT Try.prog 9 [.s] := ShT.str fU9 (by kernel_rfl)
instance fT10 : ShT Try.prog 10 [.s] := ShT.str fU10 (by kernel_rfl)
instance fT11 : ShT Try.prog 11 [.s] := ShT.str fU11 (by kernel_rfl)
instance fT12 : ShT Try.prog 12 [.i .u64] := ShT.int fU12 (by kernel_rfl)
theorem fT13 : ShT Try.prog 13 [.s, .i .u64] := ShT.struct Try.underlying13 (by kernel_rfl) (ShFs.cons fT9 (ShFs.cons fT12 ShFs.nil))
theorem fT14 : ShT Try.prog 14 [.s, .i .u64] := ShT.struct Try.underlying14 (by kernel_rfl) (ShFs.cons fT9 (ShFs.cons fT12 ShFs.nil))
instance fT21 : ShT Try.prog 21 [.i .i32] := ShT.int fU21 (by kernel_rfl)
instance fT24 : ShT Try.prog 24 [.i .u64] := ShT.int fU24 (by kernel_rfl)
instance fT32 : ShT Try.prog 32 [.i .i64] := ShT.int fU32 (by kernel_rfl)
theorem fT70 : ShT Try.prog 70 [.s, .s] := ShT.struct Try.underlying70 (by kernel_rfl) (ShFs.cons fT9 (ShFs.cons fT9 ShFs.nil))
theorem fT71 : ShT Try.prog 71 [.s, .s] := ShT.struct Try.underlying71 (by kernel_rfl) (ShFs.cons fT9 (ShFs.cons fT9 ShFs.nil))
theorem fT72 : ShT Try.prog 72 [.s, .s, .s, .s, .s, .s, .s] := ShT.struct Try.underlying72 (by kernel_rfl) (ShFs.cons fT9 (ShFs.cons fT9 (ShFs.cons fT9 (ShFs.cons fT9 (ShFs.cons fT71 (ShFs.cons fT9 ShFs.nil))))))
theorem fT73 : ShT Try.prog 73 [.s, .s, .s, .s, .s, .s, .s] := ShT.struct Try.underlying73 (by kernel_rfl) (ShFs.cons fT9 (ShFs.cons fT9 (ShFs.cons fT9 (ShFs.cons fT9 (ShFs.cons fT71 (ShFs.cons fT9 ShFs.nil))))))
theorem fT85 : ShT Try.prog 85 [.s, .s, .s, .s] := ShT.struct Try.underlying85 (by kernel_rfl) (ShFs.cons fT9 (ShFs.cons fT71 (ShFs.cons fT9 ShFs.nil)))
theorem fT86 : ShT Try.prog 86 [.s, .s, .s, .s] := ShT.struct Try.underlying86 (by kernel_rfl) (ShFs.cons fT9 (ShFs.cons fT71 (ShFs.cons fT9 ShFs.nil)))
theorem fT87 : ShT Try.prog 87 [.s, .s, .s, .s, .s, .s, .s] := ShT.struct Try.underlying87 (by kernel_rfl) (ShFs.cons fT71 (ShFs.cons fT9 (ShFs.cons fT86 ShFs.nil)))
theorem fT88 : ShT Try.prog 88 [.s, .s, .s, .s, .s, .s, .s] := ShT.struct Try.underlying88 (by kernel_rfl) (ShFs.cons fT71 (ShFs.cons fT9 (ShFs.cons fT86 ShFs.nil)))
theorem fT89 : ShT Try.prog 89 [.b, .s, .s, .s, .s, .s, .s, .s] := ShT.struct Try.underlying89 (by kernel_rfl) (ShFs.cons fT4 (ShFs.cons fT88 ShFs.nil))
theorem fT90 : ShT Try.prog 90 [.b, .s, .s, .s, .s, .s, .s, .s] := ShT.struct Try.underlying90 (by kernel_rfl) (ShFs.cons fT4 (ShFs.cons fT88 ShFs.nil))
theorem fT122 : ShT Try.prog 122 [.s, .s, .s] := ShT.struct Try.underlying122 (by kernel_rfl) (ShFs.cons fT71 (ShFs.cons fT9 ShFs.nil))
theorem fT123 : ShT Try.prog 123 [.s, .s, .s] := ShT.struct Try.underlying123 (by kernel_rfl) (ShFs.cons fT71 (ShFs.cons fT9 ShFs.nil))
theorem fT131 : ShT Try.prog 131 [.s, .s, .s, .s, .s, .s, .s, .i .u64, .i .u64] := ShT.struct Try.underlying131 (by kernel_rfl) (ShFs.cons fT88 (ShFs.cons fT24 (ShFs.cons fT24 ShFs.nil)))
theorem fT132 : ShT Try.prog 132 [.s, .s, .s, .s, .s, .s, .s, .i .u64, .i .u64] := ShT.struct Try.underlying132 (by kernel_rfl) (ShFs.cons fT88 (ShFs.cons fT24 (ShFs.cons fT24 ShFs.nil)))
instance fT153 : ShT Try.prog 153 [.i .u64] := ShT.int fU153 (by kernel_rfl)
theorem fT155 : ShT Try.prog 155 [.s, .i .i64, .i .i64] := ShT.struct Try.underlying155 (by kernel_rfl) (ShFs.cons fT9 (ShFs.cons fT2 (ShFs.cons fT3 ShFs.nil)))
theorem fT156 : ShT Try.prog 156 [.s, .i .i64, .i .i64] := ShT.struct Try.underlying156 (by kernel_rfl) (ShFs.cons fT9 (ShFs.cons fT2 (ShFs.cons fT3 ShFs.nil)))
instance fT178 : ShT Try.prog 178 [.i .i64] := ShT.int fU178 (by kernel_rfl)
instance fT186 : ShT Try.prog 186 [.i .u32] := ShT.int fU186 (by kernel_rfl)
instance fT209 : ShT Try.prog 209 [.i .u64] := ShT.int fU209 (by kernel_rfl)
instance fT238 : ShT Try.prog 238 [.i .u8] := ShT.int fU238 (by kernel_rfl)
instance fT239 : ShT Try.prog 239 [.i .u8] := ShT.int fU239 (by kernel_rfl)
instance fT242 : ShT Try.prog 242 [.i .i32] := ShT.int fU242 (by kernel_rfl)
instance fT243 : ShT Try.prog 243 [.i .i32] := ShT.int fU243 (by kernel_rfl)
end Go.Proofs.Ytkepgbimlolemaa
