/- Lists of texts: copied, cut short. No condition. -/
import Derived.Test.YtkepgbimlolemaaBase
import Derived.Test.YtkepgbimlolemaaMot5
import Derived.Test.YtkepgbimlolemaaMot3
import Derived.Test.YtkepgbimlolemaaStr
set_option linter.unusedVariables false
set_option maxRecDepth 4000
namespace Go.Proofs.Ytkepgbimlolemaa
theorem sclone_spec (v : Value) (xs : List ByteArray) (R : Rds) (h : RS R 1 encS v xs) (hl : xs.length ≤ 1000000) :
    Spec Try.prog 87 [v] R [] fun v' H' => ∃ T, H' = [T] ∧ OS 9 1 encS v' xs T := by
  obtain ⟨pr, cap, rfl⟩ := h.val
  have hx : ∀ H, RS (Rx R H) 1 encS (.slice pr xs.length cap) xs := fun H => h.rx
  refine Spec.segs (H' := [[]]) (by simp) ?_
  refine Spec.body Try.func87 rfl Try.results87 Try.ntmps87 rfl ?_
  refine .seq ?_
  refine .region ?_
  refine TriOps.q .assign ?_
  refine .nil ?_
  refine seqQ_n ?_
  refine .seq ?_
  refine .seq ?_
  refine .region ?_
  refine TriOps.q .move ?_
  refine TriOps.q (.eqNilS rfl rfl) ?_
  refine .nil ?_
  refine seqQ_n ?_
  refine .cond rfl (fun h1 => ?_) (fun h1 => ?_)
  · skip
    refine .seq ?_
    refine .region ?_
    refine TriOps.q .assign ?_
    refine .nil ?_
    refine seqQ_n ?_
    refine .ret (seqQ_r (retQ_r _ (.one (.tmp rfl)) (.one [0] _) ?_))
    obtain rfl : pr = none := by simpa using h1
    have := h.none_nil
    subst this
    exact ⟨[], rfl, OS.nil⟩
  · skip
    refine .skip ?_
    refine seqQ_n ?_
    refine .seq ?_
    refine .region ?_
    refine TriOps.buildSlice0 (fun b5 => ?_)
    refine TriOps.q .move ?_
    refine TriOps.append (OS.empty (enc := encS) (sz := 1)) (hx _) (by simp; omega) (fun v' T' h3 => ?_)
    refine TriOps.q .assign ?_
    refine .nil ?_
    refine seqQ_n ?_
    refine .ret (retQ_r _ (.one (.tmp rfl)) (.one [0] _) ?_)
    exact ⟨T', by simp [take], by simpa using h3⟩
theorem RS.nil' {α : Type} {R : Rds} {sz : Nat} {enc : α → List Value} : RS R sz enc (.slice none 0 0) ([] : List α) := ⟨by simp, by simp, none, 0, rfl, by simp, by simp, .inl rfl⟩
def texts (l : List ByteArray) (n k : Nat) : List ByteArray := (l.take n).map fun s => short s k
theorem texts_spec (v : Value) (l : List ByteArray) (n k : Nat) (hn : n ≤ 1000000) (R : Rds) (h : RS R 1 encS v l) :
    Spec Try.prog 63 [v, .int .i64 n, .int .i64 k] R [] fun v' H' => ∃ T, H' = [T] ∧ OS 9 1 encS v' (texts l n k) T := by
  have hle := h.le
  refine Spec.segs (H' := [[]]) (by simp) ?_
  refine Spec.body Try.func63 rfl Try.results63 Try.ntmps63 rfl ?_
  refine .seq ?_
  refine .region ?_
  refine TriOps.q .assign ?_
  refine .nil ?_
  refine seqQ_n ?_
  refine .seq ?_
  refine .region ?_
  refine TriOps.q .assign ?_
  refine .nil ?_
  refine seqQ_n ?_
  refine .seq ?_
  refine .seq ?_
  refine .region ?_
  refine TriOps.q .assign ?_
  refine .nil ?_
  refine seqQ_n ?_
  refine .block ?_
  refine .loop (X := Nat × Value × Seg) (fun y => (y.1 ≤ l.length ∧ y.1 ≤ n) ∧ OS 9 1 encS y.2.1 (texts l y.1 k) y.2.2) (fun y => [(0, v), (1, .int .i64 (n : Nat)), (2, .int .i64 (k : Nat)), (7, y.2.1), (8, .int .i64 (y.1 : Nat))]) (fun y => [y.2.2]) (fun y => l.length - y.1) (0, .slice none 0 0, []) ⟨⟨by omega, by omega⟩, OS.nil⟩ ((((((EnvLe.nil _).cons rfl).cons rfl).cons rfl).cons rfl).cons rfl) (HLe.refl _) ?_
  rintro ⟨i, w, T⟩ ⟨⟨hi, hi2⟩, hO⟩
  simp only at hi hi2 hO ⊢
  have i1 := hO.oneCell
  refine .seq ?_
  refine .seq ?_
  refine .region ?_
  refine TriOps.q .move ?_
  refine TriOps.q .move ?_
  refine TriOps.q (.lenR h) ?_
  refine TriOps.q .lss ?_
  refine TriOps.q .move ?_
  refine TriOps.split (t := 13) rfl (fun g3_4 => ?_) (fun g3_4 => ?_)
  · skip
    refine TriOps.gT g3_4 ?_
    refine TriOps.q .move ?_
    refine TriOps.gT g3_4 ?_
    refine TriOps.q .move ?_
    refine TriOps.gT g3_4 ?_
    refine TriOps.q .lss ?_
    refine TriOps.q (.pickTh g3_4) ?_
    refine .nil ?_
    refine seqQ_n ?_
    refine .cond rfl (fun h1 => ?_) (fun h1 => ?_)
    · skip
      have hlt : i < l.length ∧ i < n := by simp at g3_4 h1; omega
      obtain ⟨z, hz⟩ : ∃ z, l[i]? = some z := ⟨_, List.getElem?_eq_getElem hlt.1⟩
      have htl : (texts l i k).length ≤ i := by simp [texts]; omega
      have hnext : texts l (i + 1) k = texts l i k ++ [short z k] := by unfold texts; rw [List.take_add_one, hz]; simp
      refine .skip ?_
      refine seqQ_n ?_
      refine .seq ?_
      refine .block ?_
      refine .region ?_
      refine TriOps.q .move ?_
      refine TriOps.q .move ?_
      refine TriOps.q .move ?_
      refine TriOps.indexR i h hz (fun pz => ?_)
      refine TriOps.q (.load1 rfl) ?_
      refine TriOps.q .move ?_
      refine TriOps.callR (short_spec z k _) (fun u hu => ?_)
      subst hu
      refine TriOps.buildSlice11 (fun b27 => ?_)
      refine TriOps.append hO (RS.lits (xs := [short z k]) rfl (by simp [encS]) (by simp [encS, oneCell])) (by simp; omega) (fun v2 T2 hO2 => ?_)
      rw [← hnext] at hO2
      refine TriOps.q .assign ?_
      refine .nil ?_
      refine blkQ_n (seqQ_n ?_)
      refine .region ?_
      refine TriOps.q .move ?_
      refine TriOps.q (.inc (n := i) (by omega)) ?_
      refine TriOps.q .assign ?_
      refine .nil ?_
      exact loopQ_i (i + 1, v2, T2) ⟨⟨by simp only; omega, by simp only; omega⟩, hO2⟩ (by simp only; omega) ((((((EnvLe.nil _).cons rfl).cons rfl).cons rfl).cons rfl).cons rfl) (HLe.pick [1] _)
    · skip
      refine .exit (seqQ_x (loopQ_x (blkQ_x ?_)))
      refine seqQ_n ?_
      refine .seq ?_
      refine .region ?_
      refine TriOps.q .move ?_
      refine TriOps.q .assign ?_
      refine .nil ?_
      refine seqQ_n ?_
      refine .ret (retQ_r _ (.one (.tmp rfl)) (HLe.refl _) ?_)
      refine ⟨_, rfl, ?_⟩
      have : i = n ∨ i = l.length := by
        first
          | (simp at g3_4 h1; omega)
          | (simp at g3_4; omega)
      rcases this with e | e
      · rw [← e]; exact hO
      · have : texts l n k = texts l i k := by unfold texts; rw [e, List.take_length, List.take_of_length_le (by omega)]
        rw [this]; exact hO
  · skip
    refine TriOps.gF g3_4 ?_
    refine TriOps.gF g3_4 ?_
    refine TriOps.gF g3_4 ?_
    refine TriOps.q (.pickFh g3_4) ?_
    refine .nil ?_
    refine seqQ_n ?_
    refine .condF ?_
    refine .exit (seqQ_x (loopQ_x (blkQ_x ?_)))
    refine seqQ_n ?_
    refine .seq ?_
    refine .region ?_
    refine TriOps.q .move ?_
    refine TriOps.q .assign ?_
    refine .nil ?_
    refine seqQ_n ?_
    refine .ret (retQ_r _ (.one (.tmp rfl)) (HLe.refl _) ?_)
    refine ⟨_, rfl, ?_⟩
    have : i = n ∨ i = l.length := by
      first
        | (simp at g3_4 h1; omega)
        | (simp at g3_4; omega)
    rcases this with e | e
    · rw [← e]; exact hO
    · have : texts l n k = texts l i k := by unfold texts; rw [e, List.take_length, List.take_of_length_le (by omega)]
      rw [this]; exact hO
theorem texts_size {l : List ByteArray} {n k : Nat} : ∀ s ∈ texts l n k, s.size ≤ k := by
  intro s hs
  obtain ⟨t, _, rfl⟩ := List.mem_map.1 hs
  exact short_size
end Go.Proofs.Ytkepgbimlolemaa
