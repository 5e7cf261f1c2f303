/- The library's small helpers of sorting: how many bits, the next power of two, a row of numbers by shifts. No condition. -/
import Derived.Test.YtkepgbimlolemaaMot5
import Derived.Test.YtkepgbimlolemaaShelfB
import Derived.Test.YtkepgbimlolemaaBase
set_option linter.unusedVariables false
set_option maxRecDepth 4000
namespace Go.Proofs.Ytkepgbimlolemaa

theorem bitLen_pow : ∀ (f x : Nat), x < 2 ^ f → x ≠ 0 → 2 ^ Lib.bitLenAux f x ≤ 2 * x ∧ x < 2 ^ Lib.bitLenAux f x
  | 0, x, h, h0 => by simp at h; omega
  | f + 1, x, h, h0 => by
    unfold Lib.bitLenAux
    rw [if_neg h0]
    by_cases h1 : x / 2 = 0
    · have : x = 1 := by omega
      subst this
      have : Lib.bitLenAux f (1 / 2) = 0 := by cases f <;> simp [Lib.bitLenAux]
      rw [this]; omega
    · have ih := bitLen_pow f (x / 2) (by rw [Nat.pow_succ] at h; omega) h1
      rw [Nat.add_comm, Nat.pow_succ]
      omega
theorem bitLen_le : ∀ (f x : Nat), Lib.bitLenAux f x ≤ f
  | 0, x => by simp [Lib.bitLenAux]
  | f + 1, x => by
    unfold Lib.bitLenAux
    split
    · omega
    · have := bitLen_le f (x / 2); omega
theorem len_bits (n : Nat) (h : n < 2 ^ 63) (R : Rds) : Spec Try.prog 89 [.int .u64 n] R [] fun v H' => v = .int .i64 (Lib.bitLen n : Nat) ∧ H' = [] := by
  have := Spec.ofCalls (fun w => Try.bits_Len (n : Int) w (by omega) (by omega)) R
  simpa using this
theorem npow_spec (n : Nat) (h0 : n ≠ 0) (h : n ≤ 1000000000) (R : Rds) : Spec Try.prog 151 [.int .i64 n] R [] fun v H' => (∃ m : Nat, v = .int .u64 m ∧ n < m ∧ m ≤ 2 * n) ∧ H' = [] := by
  have hp := bitLen_pow 64 n (by omega) h0
  have hb := bitLen_le 64 n
  refine Spec.body Try.func151 rfl Try.results151 Try.ntmps151 rfl ?_
  refine .seq ?_
  refine .region ?_
  refine TriOps.q .assign ?_
  refine .nil ?_
  refine seqQ_n ?_
  refine .seq ?_
  refine .region ?_
  refine TriOps.q .move ?_
  refine TriOps.q (Quiet.cast (v' := .int .u64 (n : Nat)) .convI (by rw [wrap_u64_in (by omega) (by omega)])) ?_
  refine TriOps.callR (len_bits n (by omega) _) (fun v hv => ?_)
  subst hv
  refine TriOps.q (Quiet.cast (v' := .int .u64 ((2 ^ Lib.bitLen n : Nat) : Int)) (.shlI) (by
    have e : min ((Lib.bitLen n : Nat) : Int).toNat IntKind.u64.bits = Lib.bitLen n := by
      unfold Lib.bitLen; simp [IntKind.bits]; omega
    rw [e, Int.one_mul, wrap_u64_in]
    · congr 1
    · exact Int.le_of_lt (Int.pow_pos (by omega))
    · have h1 : (2 ^ Lib.bitLen n : Nat) ≤ 2 * n := hp.1
      have h2 : ((2 : Int) ^ Lib.bitLen n) = ((2 ^ Lib.bitLen n : Nat) : Int) := by push_cast; rfl
      rw [h2]; omega)) ?_
  refine TriOps.q .assign ?_
  refine .nil ?_
  refine seqQ_n ?_
  refine .ret (retQ_r _ (.one (.tmp rfl)) (.none _) ?_)
  exact ⟨⟨2 ^ Lib.bitLen n, rfl, hp.2, hp.1⟩, rfl⟩
theorem rnd_spec (b : Nat) (z : Int) (R : Rds) : Spec Try.prog 152 [.pointer (some ⟨b, 0, none⟩)] R [[(b, .cells [.int .u64 z].toArray 209 (0, 0))]] fun v H' => ∃ T', H' = [T'] ∧ ∃ z', v = .int .u64 z' ∧ T' = [(b, .cells [.int .u64 z'].toArray 209 (0, 0))] := by
  refine Spec.body Try.func152 rfl Try.results152 Try.ntmps152 rfl ?_
  refine .seq ?_
  refine .region ?_
  refine TriOps.q .assign ?_
  refine .nil ?_
  refine seqQ_n ?_
  refine .seq ?_
  refine .region_tail 9 mixed (by kernel_rfl) ?_
  conv => arg 6; dsimp only [List.take]
  refine TriOps.q .move ?_
  refine TriOps.q (.nilCheck rfl) ?_
  refine TriOps.q (.load1 rfl) ?_
  refine TriOps.q .move ?_
  refine TriOps.q (.nilCheck rfl) ?_
  refine TriOps.q (.load1 rfl) ?_
  refine TriOps.q .shlI ?_
  refine TriOps.q .xorI ?_
  refine TriOps.q (.nilCheck rfl) ?_
  refine .nil ?_
  refine TriOps.store1 rfl rfl ?_
  refine .nil ?_
  refine seqQ_n ?_
  refine .seq ?_
  refine .region_tail 9 mixed (by kernel_rfl) ?_
  conv => arg 6; dsimp only [List.take]
  refine TriOps.q .move ?_
  refine TriOps.q (.nilCheck rfl) ?_
  refine TriOps.q (.load1 rfl) ?_
  refine TriOps.q .move ?_
  refine TriOps.q (.nilCheck rfl) ?_
  refine TriOps.q (.load1 rfl) ?_
  refine TriOps.q .shrI ?_
  refine TriOps.q .xorI ?_
  refine TriOps.q (.nilCheck rfl) ?_
  refine .nil ?_
  refine TriOps.store1 rfl rfl ?_
  refine .nil ?_
  refine seqQ_n ?_
  refine .seq ?_
  refine .region_tail 9 mixed (by kernel_rfl) ?_
  conv => arg 6; dsimp only [List.take]
  refine TriOps.q .move ?_
  refine TriOps.q (.nilCheck rfl) ?_
  refine TriOps.q (.load1 rfl) ?_
  refine TriOps.q .move ?_
  refine TriOps.q (.nilCheck rfl) ?_
  refine TriOps.q (.load1 rfl) ?_
  refine TriOps.q .shlI ?_
  refine TriOps.q .xorI ?_
  refine TriOps.q (.nilCheck rfl) ?_
  refine .nil ?_
  refine TriOps.store1 rfl rfl ?_
  refine .nil ?_
  refine seqQ_n ?_
  refine .seq ?_
  refine .region ?_
  refine TriOps.q .move ?_
  refine TriOps.q (.nilCheck rfl) ?_
  refine TriOps.q (.load1 rfl) ?_
  refine TriOps.q .assign ?_
  refine .nil ?_
  refine seqQ_n ?_
  refine .ret (retQ_r _ (.one (.tmp rfl)) (HLe.refl _) ?_)
  exact ⟨_, rfl, _, rfl, rfl⟩
end Go.Proofs.Ytkepgbimlolemaa
