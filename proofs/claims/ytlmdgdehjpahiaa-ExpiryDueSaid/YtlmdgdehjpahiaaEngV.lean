/- The engine, part 22: bits and shifts of whole numbers; over any program, no condition. -/
import Derived.Test.YtlmdgdehjpahiaaEngU
set_option linter.unusedVariables false
namespace Go.Proofs.Ytlmdgdehjpahiaa
section
variable {P : Program} {R : Rds} {env : Env} {H : Segs} {ty : TypeId} {x y : Operand} {t u : TypeId} {k k2 : IntKind} {m n : Int}
theorem Quiet.andI (hx : ev env x = some (.int k m) := by rfl) (hy : ev env y = some (.int k n) := by rfl) : Quiet P R env H (.binOp .and t x y u) ty (.int k (k.wrap (BitVec.ofInt k.bits m &&& BitVec.ofInt k.bits n).toNat)) := fun a w d pos af g ha _ _ => by
  simp [execOp, ha.eval hx, ha.eval hy, eqGuard, binOp, Op.intBits]
theorem Quiet.orI (hx : ev env x = some (.int k m) := by rfl) (hy : ev env y = some (.int k n) := by rfl) : Quiet P R env H (.binOp .or t x y u) ty (.int k (k.wrap (BitVec.ofInt k.bits m ||| BitVec.ofInt k.bits n).toNat)) := fun a w d pos af g ha _ _ => by
  simp [execOp, ha.eval hx, ha.eval hy, eqGuard, binOp, Op.intBits]
theorem Quiet.xorI (hx : ev env x = some (.int k m) := by rfl) (hy : ev env y = some (.int k n) := by rfl) : Quiet P R env H (.binOp .xor t x y u) ty (.int k (k.wrap (BitVec.ofInt k.bits m ^^^ BitVec.ofInt k.bits n).toNat)) := fun a w d pos af g ha _ _ => by
  simp [execOp, ha.eval hx, ha.eval hy, eqGuard, binOp, Op.intBits]
theorem Quiet.shlI (hx : ev env x = some (.int k m) := by rfl) (hy : ev env y = some (.int k2 n) := by rfl) (hn : 0 ≤ n := by first | decide | omega) : Quiet P R env H (.binOp .shl t x y u) ty (.int k (k.wrap (m * 2 ^ (min n.toNat k.bits)))) := fun a w d pos af g ha _ _ => by
  have h : ¬ n < 0 := by omega
  simp [execOp, ha.eval hx, ha.eval hy, eqGuard, binOp, Op.shift, h]
theorem Quiet.shrI (hx : ev env x = some (.int k m) := by rfl) (hy : ev env y = some (.int k2 n) := by rfl) (hn : 0 ≤ n := by first | decide | omega) : Quiet P R env H (.binOp .shr t x y u) ty (.int k (m.fdiv (2 ^ (min n.toNat k.bits)))) := fun a w d pos af g ha _ _ => by
  have h : ¬ n < 0 := by omega
  simp [execOp, ha.eval hx, ha.eval hy, eqGuard, binOp, Op.shift, h]
end
theorem wrap_u64 (z : Int) : 0 ≤ IntKind.u64.wrap z ∧ IntKind.u64.wrap z < 18446744073709551616 := by
  have : IntKind.u64.wrap z = z % 18446744073709551616 := by simp [IntKind.wrap, IntKind.bits, IntKind.signed]
  rw [this]; omega
theorem wrap_u64_in {z : Int} (h0 : 0 ≤ z) (h1 : z < 18446744073709551616) : IntKind.u64.wrap z = z := by
  have : IntKind.u64.wrap z = z % 18446744073709551616 := by simp [IntKind.wrap, IntKind.bits, IntKind.signed]
  rw [this]; omega
theorem wrap_i64_in {z : Int} (h0 : -9223372036854775808 ≤ z) (h1 : z ≤ 9223372036854775807) : IntKind.i64.wrap z = z := IntWalk.i64_in _ (by omega)
theorem and_le {z q : Int} (h0 : 0 ≤ q) (h1 : q < 18446744073709551616) : 0 ≤ IntKind.u64.wrap (BitVec.ofInt IntKind.u64.bits z &&& BitVec.ofInt IntKind.u64.bits q).toNat ∧ IntKind.u64.wrap (BitVec.ofInt IntKind.u64.bits z &&& BitVec.ofInt IntKind.u64.bits q).toNat ≤ q := by
  have e : (BitVec.ofInt IntKind.u64.bits q).toNat = q.toNat := by
    simp [IntKind.bits, BitVec.toNat_ofInt]; omega
  have h2 : (BitVec.ofInt IntKind.u64.bits z &&& BitVec.ofInt IntKind.u64.bits q).toNat ≤ q.toNat := by
    rw [BitVec.toNat_and, ← e]; exact Nat.and_le_right
  rw [wrap_u64_in (by omega) (by omega)]
  omega
end Go.Proofs.Ytlmdgdehjpahiaa
