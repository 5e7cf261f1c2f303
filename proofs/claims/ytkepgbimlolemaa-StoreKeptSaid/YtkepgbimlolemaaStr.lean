/- The document's small helpers with texts. No condition. -/
import Derived.Test.YtkepgbimlolemaaBase
import Derived.Test.YtkepgbimlolemaaMot3
set_option linter.unusedVariables false
set_option maxRecDepth 4000
namespace Go.Proofs.Ytkepgbimlolemaa

def short (s : ByteArray) (n : Nat) : ByteArray := if n < s.size then s.extract 0 n else s
theorem short_size {s : ByteArray} {n : Nat} : (short s n).size ≤ n := by
  unfold short
  split
  · rw [ByteArray.size_extract]; omega
  · omega
theorem short_spec (s : ByteArray) (n : Nat) (R : Rds) : Spec Try.prog 62 [.string s, .int .i64 n] R [] fun v H' => v = .string (short s n) ∧ H' = [] := by
  refine Spec.body Try.func62 rfl Try.results62 Try.ntmps62 rfl ?_
  refine .seq ?_
  refine .region ?_
  refine TriOps.q .assign ?_
  refine .nil ?_
  refine seqQ_n ?_
  refine .seq ?_
  refine .seq ?_
  refine .region ?_
  refine TriOps.q .move ?_
  refine TriOps.q .lenS ?_
  refine TriOps.q .move ?_
  refine TriOps.q .gtr ?_
  refine .nil ?_
  refine seqQ_n ?_
  refine .cond rfl (fun h1 => ?_) (fun h1 => ?_)
  · skip
    refine .seq ?_
    refine .region ?_
    refine TriOps.q .move ?_
    refine TriOps.q .move ?_
    have hlt : n < s.size := by simp at h1; omega
    refine TriOps.q (.sliceStr (s := s) 0 n rfl ⟨_, rfl⟩ (by omega) (by omega)) ?_
    refine TriOps.q .assign ?_
    refine .nil ?_
    refine seqQ_n ?_
    refine .ret (seqQ_r (retQ_r _ (.one (.tmp rfl)) (.none _) ?_))
    exact ⟨by unfold short; rw [if_pos (by simp at h1; omega)], rfl⟩
  · skip
    refine .skip ?_
    refine seqQ_n ?_
    refine .seq ?_
    refine .region ?_
    refine TriOps.q .move ?_
    refine TriOps.q .assign ?_
    refine .nil ?_
    refine seqQ_n ?_
    refine .ret (retQ_r _ (.one (.tmp rfl)) (.none _) ?_)
    exact ⟨by unfold short; rw [if_neg (by simp at h1; omega)], rfl⟩
end Go.Proofs.Ytkepgbimlolemaa
