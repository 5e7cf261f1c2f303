/- Whether two lists of texts are the same. No condition. -/
import Derived.Test.YtkepgbimlolemaaBase
import Derived.Test.YtkepgbimlolemaaMot5
import Derived.Test.YtkepgbimlolemaaMot3
set_option linter.unusedVariables false
set_option maxRecDepth 4000
namespace Go.Proofs.Ytkepgbimlolemaa
theorem sameTexts_spec (v w : Value) (l m : List ByteArray) (R : Rds) (h : RS R 1 encS v l) (h' : RS R 1 encS w m) :
    Spec Try.prog 64 [v, w] R [] fun u H' => u = .bool (decide (l = m)) ∧ H' = [] := by
  have hle := h.le
  refine Spec.body Try.func64 rfl Try.results64 Try.ntmps64 rfl ?_
  refine .seq ?_
  refine .region ?_
  refine TriOps.q .assign ?_
  refine .nil ?_
  refine seqQ_n ?_
  refine .seq ?_
  refine .seq ?_
  refine .region ?_
  refine TriOps.q .move ?_
  refine TriOps.q (.lenR h) ?_
  refine TriOps.q .move ?_
  refine TriOps.q (.lenR h') ?_
  refine TriOps.q .neI ?_
  refine .nil ?_
  refine seqQ_n ?_
  refine .cond rfl (fun h1 => ?_) (fun h1 => ?_)
  · skip
    refine .seq ?_
    refine .region ?_
    refine TriOps.q .assign ?_
    refine .nil ?_
    refine seqQ_n ?_
    refine .ret (seqQ_r (retQ_r _ (.one (.tmp rfl)) (.none _) ?_))
    exact ⟨by rw [decide_eq_false (fun e : l = m => by simp [e] at h1)], rfl⟩
  · skip
    have hlen : l.length = m.length := by simp at h1; omega
    refine .skip ?_
    refine seqQ_n ?_
    refine .seq ?_
    refine .seq ?_
    refine .region ?_
    refine TriOps.q .assign ?_
    refine .nil ?_
    refine seqQ_n ?_
    refine .block ?_
    refine .loop (X := Nat) (fun i => i ≤ l.length ∧ l.take i = m.take i) (fun i => [(0, v), (1, w), (5, .int .i64 (i : Nat))]) (fun _ => []) (fun i => l.length - i) 0 ⟨by omega, by simp⟩ ((((EnvLe.nil _).cons rfl).cons rfl).cons rfl) (HLe.refl _) ?_
    rintro i ⟨hi, hs⟩
    refine .seq ?_
    refine .seq ?_
    refine .region ?_
    refine TriOps.q .move ?_
    refine TriOps.q .move ?_
    refine TriOps.q (.lenR h) ?_
    refine TriOps.q .lss ?_
    refine .nil ?_
    refine seqQ_n ?_
    refine .cond rfl (fun h2 => ?_) (fun h2 => ?_)
    · skip
      have hlt : i < l.length := by simp at h2; omega
      obtain ⟨z, hz⟩ : ∃ z, l[i]? = some z := ⟨_, List.getElem?_eq_getElem hlt⟩
      obtain ⟨y, hy⟩ : ∃ y, m[i]? = some y := ⟨_, List.getElem?_eq_getElem (by omega)⟩
      refine .skip ?_
      refine seqQ_n ?_
      refine .seq ?_
      refine .block ?_
      refine .seq ?_
      refine .region_still mixed (by kernel_rfl) ?_
      refine TriOps.q .move ?_
      refine TriOps.q .move ?_
      refine TriOps.indexR i h hz (fun pz => ?_)
      refine TriOps.q (.load1 rfl) ?_
      refine TriOps.q .move ?_
      refine TriOps.q .move ?_
      refine TriOps.indexR i h' hy (fun py => ?_)
      refine TriOps.q (.load1 rfl) ?_
      refine TriOps.q .neS ?_
      refine .nil ?_
      refine seqQ_n ?_
      refine .cond rfl (fun h3 => ?_) (fun h3 => ?_)
      · skip
        refine .seq ?_
        refine .region ?_
        refine TriOps.q .assign ?_
        refine .nil ?_
        refine seqQ_n ?_
        refine .ret (blkQ_r (seqQ_r (loopQ_r (blkQ_r (seqQ_r (retQ_r _ (.one (.tmp rfl)) (.none _) ?_))))))
        refine ⟨?_, rfl⟩
        have hne : z ≠ y := by simpa using h3
        rw [decide_eq_false (fun e : l = m => hne (by rw [e, hy] at hz; cases hz; rfl))]
      · skip
        refine .skip ?_
        refine blkQ_n (seqQ_n ?_)
        refine .region ?_
        refine TriOps.q .move ?_
        refine TriOps.q (.inc (n := i) (by omega)) ?_
        refine TriOps.q .assign ?_
        refine .nil ?_
        exact loopQ_i (i + 1) ⟨by omega, by
          have e : z = y := by simpa using h3
          rw [List.take_add_one, List.take_add_one, hs, hz, hy, e]⟩ (by omega) ((((EnvLe.nil _).cons rfl).cons rfl).cons rfl) (HLe.refl _)
    · skip
      refine .exit (seqQ_x (loopQ_x (blkQ_x ?_)))
      refine seqQ_n ?_
      refine .seq ?_
      refine .region ?_
      refine TriOps.q .assign ?_
      refine .nil ?_
      refine seqQ_n ?_
      refine .ret (retQ_r _ (.one (.tmp rfl)) (.none _) ?_)
      refine ⟨?_, rfl⟩
      have he : i = l.length := by simp at h2; omega
      rw [he, List.take_length, List.take_of_length_le (by omega)] at hs
      rw [decide_eq_true hs]
end Go.Proofs.Ytkepgbimlolemaa
