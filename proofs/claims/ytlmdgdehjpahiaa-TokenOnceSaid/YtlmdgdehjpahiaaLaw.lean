/- What a law of this seat is given, of plain types; the facts of a law's end, by program; no condition. -/
import Derived.Test.YtlmdgdehjpahiaaFacts
import Derived.Test.YtlmdgdehjpahiaaMot4
import Derived.WalkKit
import Derived.ProofKit
import Derived.OpenShut
set_option linter.unusedVariables false
set_option maxRecDepth 4000
namespace Go.Proofs.Ytlmdgdehjpahiaa
open Go.ChangeShapes Go.WideShapes Go.ChangeAt Go.RowKit
theorem own : ownKnob Try.prog.godebug = none := by kernel_rfl
theorem kids : Kids Try.prog (· < Try.prog.types.size) := kids_rows (by kernel_rfl) (by kernel_rfl)
theorem full : ∀ t e, t < Try.prog.types.size → Try.prog.underlying t = some (.slice e) → 0 < Try.prog.cellsOf e := slices_full_of Try.prog (by kernel_rfl)
theorem ck_i {k : IntKind} {v : Value} (h : ckOf (.i k) v) : ∃ n, v = .int k n := by
  cases v <;> simp_all [ckOf]
theorem ck_s {v : Value} (h : ckOf .s v) : ∃ n, v = .string n := by
  cases v <;> simp_all [ckOf]
theorem ck_b {v : Value} (h : ckOf .b v) : ∃ n, v = .bool n := by
  cases v <;> simp_all [ckOf]
instance fT2 : ShT Try.prog 2 [.i .i64] := ShT.int fU2 (by kernel_rfl)
instance fT3 : ShT Try.prog 3 [.i .i64] := ShT.int fU3 (by kernel_rfl)
instance fT4 : ShT Try.prog 4 [.b] := ShT.bool fU4 (by kernel_rfl)
instance fT5 : ShT Try.prog 5 [.i .u8] := ShT.int fU5 (by kernel_rfl)
instance fT6 : ShT Try.prog 6 [.i .u8] := ShT.int fU6 (by kernel_rfl)
theorem fT7 : ShT Try.prog 7 [.i .i64, .i .i64, .b, .i .u8] := ShT.struct Try.underlying7 (by kernel_rfl) (ShFs.cons fT2 (ShFs.cons fT3 (ShFs.cons fT4 (ShFs.cons fT6 ShFs.nil))))
theorem fT8 : ShT Try.prog 8 [.i .i64, .i .i64, .b, .i .u8] := ShT.struct Try.underlying8 (by kernel_rfl) (ShFs.cons fT2 (ShFs.cons fT3 (ShFs.cons fT4 (ShFs.cons fT6 ShFs.nil))))
instance fT9 : ShT Try.prog 9 [.s] := ShT.str fU9 (by kernel_rfl)
instance fT10 : ShT Try.prog 10 [.s] := ShT.str fU10 (by kernel_rfl)
instance fT11 : ShT Try.prog 11 [.s] := ShT.str fU11 (by kernel_rfl)
instance fT12 : ShT Try.prog 12 [.i .u64] := ShT.int fU12 (by kernel_rfl)
theorem fT13 : ShT Try.prog 13 [.s, .i .u64] := ShT.struct Try.underlying13 (by kernel_rfl) (ShFs.cons fT9 (ShFs.cons fT12 ShFs.nil))
theorem fT14 : ShT Try.prog 14 [.s, .i .u64] := ShT.struct Try.underlying14 (by kernel_rfl) (ShFs.cons fT9 (ShFs.cons fT12 ShFs.nil))
instance fT21 : ShT Try.prog 21 [.i .i32] := ShT.int fU21 (by kernel_rfl)
theorem fT26 : ShT Try.prog 26 [.i .i64, .s, .i .i64] := ShT.struct Try.underlying26 (by kernel_rfl) (ShFs.cons fT3 (ShFs.cons fT9 (ShFs.cons fT2 ShFs.nil)))
theorem fT27 : ShT Try.prog 27 [.i .i64, .s, .i .i64] := ShT.struct Try.underlying27 (by kernel_rfl) (ShFs.cons fT3 (ShFs.cons fT9 (ShFs.cons fT2 ShFs.nil)))
instance fT37 : ShT Try.prog 37 [.i .i64] := ShT.int fU37 (by kernel_rfl)
theorem fT58 : ShT Try.prog 58 [.s, .i .i64] := ShT.struct Try.underlying58 (by kernel_rfl) (ShFs.cons fT9 (ShFs.cons fT2 ShFs.nil))
theorem fT59 : ShT Try.prog 59 [.s, .i .i64] := ShT.struct Try.underlying59 (by kernel_rfl) (ShFs.cons fT9 (ShFs.cons fT2 ShFs.nil))
instance fT71 : ShT Try.prog 71 [.i .u64] := ShT.int fU71 (by kernel_rfl)
theorem fT120 : ShT Try.prog 120 [.s, .i .i64, .i .i64] := ShT.struct Try.underlying120 (by kernel_rfl) (ShFs.cons fT9 (ShFs.cons fT2 (ShFs.cons fT3 ShFs.nil)))
theorem fT121 : ShT Try.prog 121 [.s, .i .i64, .i .i64] := ShT.struct Try.underlying121 (by kernel_rfl) (ShFs.cons fT9 (ShFs.cons fT2 (ShFs.cons fT3 ShFs.nil)))
instance fT161 : ShT Try.prog 161 [.i .u64] := ShT.int fU161 (by kernel_rfl)
instance fT171 : ShT Try.prog 171 [.i .i64] := ShT.int fU171 (by kernel_rfl)
instance fT179 : ShT Try.prog 179 [.i .u32] := ShT.int fU179 (by kernel_rfl)
instance fT193 : ShT Try.prog 193 [.i .u64] := ShT.int fU193 (by kernel_rfl)
instance fT217 : ShT Try.prog 217 [.i .u8] := ShT.int fU217 (by kernel_rfl)
instance fT218 : ShT Try.prog 218 [.i .u8] := ShT.int fU218 (by kernel_rfl)
instance fT221 : ShT Try.prog 221 [.i .i32] := ShT.int fU221 (by kernel_rfl)
instance fT222 : ShT Try.prog 222 [.i .i32] := ShT.int fU222 (by kernel_rfl)
end Go.Proofs.Ytlmdgdehjpahiaa
