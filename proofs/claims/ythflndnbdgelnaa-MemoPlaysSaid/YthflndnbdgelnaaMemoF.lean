/- The library's Clone, IndexFunc and DeleteFunc, at questions. No condition. -/
import Derived.Test.YthflndnbdgelnaaMemoE
import Derived.Test.YthflndnbdgelnaaEngD
set_option linter.unusedVariables false
namespace Go.Proofs.Ythflndnbdgelnaa

theorem clone_spec (v : Value) (xs : List Quest) (R : Rds) (h : RS R 6 Quest.enc v xs) (hl : xs.length ≤ 1000000) :
    Spec Try.prog 17 [v] R [] fun v' H' => ∃ T, H' = [T] ∧ OS 38 6 Quest.enc v' xs T := by
  obtain ⟨pr, cap, rfl⟩ := h.val
  have hx : ∀ H, RS (Rx R H) 6 Quest.enc (.slice pr xs.length cap) xs := fun H => h.rx
  refine Spec.segs (H' := [[]]) (by simp) ?_
  refine Spec.body Try.func17 rfl Try.results17 Try.ntmps17 rfl ?_
  refine .seq ?_
  refine .region ?_
  refine TriOps.q .assign ?_
  refine .nil ?_
  refine seqQ_n ?_
  refine .seq ?_
  refine .seq ?_
  refine .region ?_
  refine TriOps.q .move ?_
  refine TriOps.q (.eqNilS rfl rfl) ?_
  refine .nil ?_
  refine seqQ_n ?_
  refine .cond rfl (fun h1 => ?_) (fun h1 => ?_)
  · skip
    refine .seq ?_
    refine .region ?_
    refine TriOps.q .assign ?_
    refine .nil ?_
    refine seqQ_n ?_
    refine .ret (seqQ_r (retQ_r _ (.one (.tmp rfl)) (.one [0] _) ?_))
    obtain rfl : pr = none := by simpa using h1
    have := h.none_nil
    subst this
    exact ⟨[], rfl, OS.nil⟩
  · skip
    refine .skip ?_
    refine seqQ_n ?_
    refine .seq ?_
    refine .region ?_
    refine TriOps.buildSlice0 (fun b5 => ?_)
    refine TriOps.q .move ?_
    refine TriOps.append (OS.empty (enc := Quest.enc) (sz := 6)) (hx _) (by simp; omega) (fun v' T' h3 => ?_)
    refine TriOps.q .assign ?_
    refine .nil ?_
    refine seqQ_n ?_
    refine .ret (retQ_r _ (.one (.tmp rfl)) (.one [0] _) ?_)
    exact ⟨T', by simp [take], by simpa using h3⟩

theorem index_spec {σ : Type} (I : σ → Seg → Prop) (p : Quest → Bool) (step : σ → Quest → σ) (f : FuncId) (caps : List Value) [e : Ent Try.prog f] (v : Value) (xs : List Quest) (s : σ) (T : Seg) (R : Rds) (h : RS R 6 Quest.enc v xs)
    (hf : FnOK Try.prog f caps R Quest.enc I p step xs) (hI : I s T) :
    Spec Try.prog 19 [v, .func (.func f) #[] caps.toArray] R [T] fun v' H' => ∃ T', H' = [T'] ∧
      ((∃ i x, xs[i]? = some x ∧ p x = true ∧ (∀ j y, j < i → xs[j]? = some y → p y = false) ∧ v' = .int .i64 (i : Nat) ∧ I ((xs.take (i + 1)).foldl step s) T') ∨ ((∀ y ∈ xs, p y = false) ∧ v' = .int .i64 (-1) ∧ I (xs.foldl step s) T')) := by
  have hle := h.le
  refine Spec.body Try.func19 rfl Try.results19 Try.ntmps19 rfl ?_
  refine .seq ?_
  refine .region ?_
  refine TriOps.q .assign ?_
  refine .nil ?_
  refine seqQ_n ?_
  refine .seq ?_
  refine .seq ?_
  refine .region ?_
  refine TriOps.q .move ?_
  refine TriOps.q (.lenR h) ?_
  refine TriOps.q .move ?_
  refine .nil ?_
  refine seqQ_n ?_
  refine .block ?_
  refine .loop (X := Nat × Seg) (fun y => y.1 ≤ xs.length ∧ (∀ j z, j < y.1 → xs[j]? = some z → p z = false) ∧ I ((xs.take y.1).foldl step s) y.2) (fun y => [(0, v), (1, .func (.func f) #[] caps.toArray), (7, .int .i64 xs.length), (8, .int .i64 (y.1 : Nat))]) (fun y => [y.2]) (fun y => xs.length - y.1) (0, T) ⟨by omega, by omega, by simpa using hI⟩ (((((EnvLe.nil _).cons rfl).cons rfl).cons rfl).cons rfl) (HLe.refl _) ?_
  rintro ⟨i, T1⟩ ⟨hi, hn, hI1⟩
  simp only at hi hn hI1 ⊢
  refine .seq ?_
  refine .region ?_
  refine TriOps.q .lss ?_
  refine .nil ?_
  refine seqQ_n ?_
  refine .seq ?_
  refine .cond rfl (fun h1 => ?_) (fun h1 => ?_)
  · skip
    have hlt : i < xs.length := by simp at h1; omega
    obtain ⟨z, hz⟩ : ∃ z, xs[i]? = some z := ⟨_, List.getElem?_eq_getElem hlt⟩
    refine .skip ?_
    refine seqQ_n ?_
    refine .seq ?_
    refine .block ?_
    refine .seq ?_
    refine .region ?_
    refine TriOps.q .move ?_
    refine TriOps.q .assign ?_
    refine .nil ?_
    refine seqQ_n ?_
    refine .seq ?_
    refine .region ?_
    refine TriOps.q .move ?_
    refine TriOps.q .move ?_
    refine TriOps.q .move ?_
    refine TriOps.indexR i h hz (fun ps => ?_)
    refine TriOps.q (.loadA rfl) ?_
    refine TriOps.callMV (first := []) (hf z (List.mem_of_getElem? hz) _ _ hI1) (fun v' T2 hv => ?_)
    obtain ⟨rfl, hI2⟩ := hv
    rw [← fold_next (step := step) (s := s) hz] at hI2
    refine .nil ?_
    refine seqQ_n ?_
    refine .cond rfl (fun h2 => ?_) (fun h2 => ?_)
    · skip
      refine .seq ?_
      refine .region ?_
      refine TriOps.q .move ?_
      refine TriOps.q .assign ?_
      refine .nil ?_
      refine seqQ_n ?_
      refine .ret (blkQ_r (seqQ_r (loopQ_r (blkQ_r (seqQ_r (retQ_r _ (.one (.tmp rfl)) (.one [0] _) ?_))))))
      exact ⟨T2, by simp [take], .inl ⟨i, z, hz, h2, hn, rfl, hI2⟩⟩
    · skip
      refine .skip ?_
      refine blkQ_n (seqQ_n ?_)
      refine .region ?_
      refine TriOps.q (.inc (n := i) (by omega)) ?_
      refine TriOps.q .move ?_
      refine .nil ?_
      exact loopQ_i (i + 1, T2) ⟨by omega, fun j y hj hy => by
        rcases Nat.lt_or_ge j i with hh | hh
        · exact hn j y hh hy
        · obtain rfl : j = i := by omega
          rw [hz] at hy; cases hy; exact h2, hI2⟩ (by simp only; omega) (((((EnvLe.nil _).cons rfl).cons rfl).cons rfl).cons rfl) (HLe.refl _)
  · skip
    refine .exit (seqQ_x (loopQ_x (blkQ_x ?_)))
    refine seqQ_n ?_
    refine .seq ?_
    refine .region ?_
    refine TriOps.q .assign ?_
    refine .nil ?_
    refine seqQ_n ?_
    refine .ret (retQ_r _ (.one (.tmp rfl)) (.one [0] _) ?_)
    have he : i = xs.length := by simp at h1; omega
    subst he
    refine ⟨T1, by simp [take], .inr ⟨fun y hy => ?_, rfl, by simpa using hI1⟩⟩
    obtain ⟨j, hj, rfl⟩ := List.mem_iff_getElem.1 hy
    exact hn j _ hj (List.getElem?_eq_getElem hj)
end Go.Proofs.Ythflndnbdgelnaa
