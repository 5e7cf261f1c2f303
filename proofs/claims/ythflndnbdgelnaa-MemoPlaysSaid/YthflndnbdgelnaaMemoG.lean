/- The library's DeleteFunc, at questions. No condition. -/
import Derived.Test.YthflndnbdgelnaaMemoF
set_option linter.unusedVariables false
namespace Go.Proofs.Ythflndnbdgelnaa

theorem df_keep {α : Type} {ys xs : List α} {i j : Nat} {z : α} {q : α → Bool} (h1 : ys.take i = (xs.take j).filter q) (hz : xs[j]? = some z) (hi : i < ys.length) (hq : q z = true) : (ys.set i z).take (i + 1) = (xs.take (j + 1)).filter q := by
  rw [List.take_add_one, List.take_add_one, hz, List.filter_append, List.take_set_of_le (Nat.le_refl _), h1]
  simp [hq, hi]
theorem df_skip {α : Type} {ys xs : List α} {i j : Nat} {z : α} {q : α → Bool} (h1 : ys.take i = (xs.take j).filter q) (hz : xs[j]? = some z) (hq : q z = false) : ys.take i = (xs.take (j + 1)).filter q := by
  rw [List.take_add_one, hz, List.filter_append, h1]
  simp [hq]
theorem df_drop {α : Type} {ys xs : List α} {j : Nat} (h : ys.drop j = xs.drop j) : ys.drop (j + 1) = xs.drop (j + 1) := by
  have := congrArg (List.drop 1) h
  simpa [List.drop_drop, Nat.add_comm] using this
theorem df_get {α : Type} {ys xs : List α} {j : Nat} (h : ys.drop j = xs.drop j) : ys[j]? = xs[j]? := by
  have := congrArg (fun l => l[0]?) h
  simpa using this
theorem df_none {α : Type} {xs : List α} {p : α → Bool} (h : ∀ y ∈ xs, p y = false) : xs.filter (fun y => !p y) = xs := by
  rw [List.filter_eq_self]
  intro y hy
  simp [h y hy]
theorem df_first {α : Type} {xs : List α} {p : α → Bool} {i : Nat} {x : α} (hx : xs[i]? = some x) (hp : p x = true) (h : ∀ j y, j < i → xs[j]? = some y → p y = false) : xs.take i = (xs.take (i + 1)).filter (fun y => !p y) := by
  have h0 : xs.take i = (xs.take i).filter (fun y => !p y) := by
    rw [eq_comm, List.filter_eq_self]
    intro y hy
    obtain ⟨j, hj, rfl⟩ := List.mem_iff_getElem.1 hy
    simp only [List.length_take] at hj
    rw [List.getElem_take, h j _ (by omega) (List.getElem?_eq_getElem (by omega))]
    rfl
  exact df_skip h0 hx (by simp [hp])

theorem delete_spec {σ : Type} (I : σ → Seg → Prop) (p : Quest → Bool) (step : σ → Quest → σ) (f : FuncId) (caps : List Value) [e : Ent Try.prog f] (v : Value) (xs : List Quest) (s : σ) (Tx T : Seg) (R : Rds) (h : OS 38 6 Quest.enc v xs Tx)
    (hf : FnOK Try.prog f caps R Quest.enc I p step xs) (hI : I s T) :
    Spec Try.prog 16 [v, .func (.func f) #[] caps.toArray] R [Tx, T] fun v' H' => ∃ Tx' T', H' = [Tx', T'] ∧
      OS 38 6 Quest.enc v' (xs.filter fun y => !p y) Tx' ∧ I (xs.foldl step s) T' := by
  obtain ⟨pr, cap, rfl, hcap⟩ := h.shape
  obtain ⟨n, hn⟩ : ∃ n, n = xs.length := ⟨_, rfl⟩
  rw [← hn] at h hcap ⊢
  have hle := h.le
  refine Spec.body Try.func16 rfl Try.results16 Try.ntmps16 rfl ?_
  refine .seq ?_
  refine .region ?_
  refine TriOps.q .assign ?_
  refine .nil ?_
  refine seqQ_n ?_
  refine .seq ?_
  refine .region ?_
  refine TriOps.q .move ?_
  refine TriOps.q .move ?_
  refine TriOps.call [1] (index_spec I p step f caps _ xs s T _ (h.rs fun q hq => .inr (by simpa [rest, dropAt] using hq)) (hf.mono fun _ _ => .inl) hI) (fun v H' hv => ?_)
  obtain ⟨Ts, rfl, hv⟩ := hv
  conv => arg 8; simp only [rest, dropAt, List.cons_append, List.nil_append]
  obtain ⟨j, rfl, hj⟩ : ∃ j : Int, v = .int .i64 j ∧ ((∃ (i : Nat) (x : Quest), xs[i]? = some x ∧ p x = true ∧ (∀ j y, j < i → xs[j]? = some y → p y = false) ∧ j = i ∧ I ((xs.take (i + 1)).foldl step s) Ts) ∨ ((∀ y ∈ xs, p y = false) ∧ j = -1 ∧ I (xs.foldl step s) Ts)) := by
    rcases hv with ⟨i, x, h1, h2, h3, h4, h5⟩ | ⟨h1, h2, h3⟩
    · exact ⟨i, h4, .inl ⟨i, x, h1, h2, h3, rfl, h5⟩⟩
    · exact ⟨-1, h2, .inr ⟨h1, rfl, h3⟩⟩
  refine TriOps.q .assign ?_
  refine .nil ?_
  refine seqQ_n ?_
  refine .seq ?_
  refine .seq ?_
  refine .region ?_
  refine TriOps.q .move ?_
  refine TriOps.q .eqI ?_
  refine .nil ?_
  refine seqQ_n ?_
  refine .cond rfl (fun h1 => ?_) (fun h1 => ?_)
  · skip
    have hj1 : j = -1 := by simpa using h1
    have hj2 : (∀ y ∈ xs, p y = false) ∧ I (xs.foldl step s) Ts := by
      rcases hj with ⟨i, x, _, _, _, h4, _⟩ | ⟨h1, _, h3⟩
      · omega
      · exact ⟨h1, h3⟩
    refine .seq ?_
    refine .region ?_
    refine TriOps.q .move ?_
    refine TriOps.q .assign ?_
    refine .nil ?_
    refine seqQ_n ?_
    refine .ret (seqQ_r (retQ_r _ (.one (.tmp rfl)) (HLe.pick [1, 0] _) ?_))
    exact ⟨_, _, rfl, by rw [df_none hj2.1]; exact h, hj2.2⟩
  · skip
    obtain ⟨i0, x0, hx0, hp0, hb0, rfl, hI0⟩ : ∃ (i : Nat) (x : Quest), xs[i]? = some x ∧ p x = true ∧ (∀ j y, j < i → xs[j]? = some y → p y = false) ∧ j = i ∧ I ((xs.take (i + 1)).foldl step s) Ts := by
      rcases hj with hj | ⟨_, h2, _⟩
      · exact hj
      · subst h2; simp at h1
    have hi0 : i0 < xs.length := (List.getElem?_eq_some_iff.1 hx0).1
    refine .skip ?_
    refine seqQ_n ?_
    refine .seq ?_
    refine .seq ?_
    refine .region ?_
    refine TriOps.q .move ?_
    refine TriOps.q (.inc (n := i0) (by omega)) ?_
    refine TriOps.q .assign ?_
    refine .nil ?_
    refine seqQ_n ?_
    refine .block ?_
    refine .loop (X := Nat × Nat × List Quest × Seg × Seg) (fun y => (y.1 ≤ y.2.1 ∧ y.2.1 ≤ n) ∧ (y.2.2.1.length = n ∧ y.2.2.1.take y.1 = (xs.take y.2.1).filter (fun y => !p y) ∧ y.2.2.1.drop y.2.1 = xs.drop y.2.1) ∧ OS 38 6 Quest.enc (.slice pr n cap) y.2.2.1 y.2.2.2.1 ∧ I ((xs.take y.2.1).foldl step s) y.2.2.2.2) (fun y => [(0, .slice pr n cap), (1, .func (.func f) #[] caps.toArray), (5, .int .i64 (y.1 : Nat)), (6, .int .i64 (y.2.1 : Nat))]) (fun y => [y.2.2.2.2, y.2.2.2.1]) (fun y => n - y.2.1) (i0, i0 + 1, xs, Tx, Ts) ⟨⟨by simp, by simp only; omega⟩, ⟨hn.symm, df_first hx0 hp0 hb0, rfl⟩, h, hI0⟩ (((((EnvLe.nil _).cons rfl).cons rfl).cons rfl).cons rfl) (HLe.refl _) ?_
    rintro ⟨i, j, ys, Ty, T1⟩ ⟨⟨hij, hjn⟩, ⟨hyl, hyt, hyd⟩, hO, hI1⟩
    simp only at hij hjn hyl hyt hyd hO hI1 ⊢
    refine .seq ?_
    refine .seq ?_
    refine .region ?_
    refine TriOps.q .move ?_
    refine TriOps.q .move ?_
    refine TriOps.q (.lenO hO) ?_
    refine TriOps.q .lss ?_
    refine .nil ?_
    refine seqQ_n ?_
    refine .cond rfl (fun h2 => ?_) (fun h2 => ?_)
    · skip
      have hlt : j < n := by simp at h2; omega
      obtain ⟨z, hz⟩ : ∃ z, ys[j]? = some z := ⟨_, List.getElem?_eq_getElem (by omega)⟩
      have hzx : xs[j]? = some z := by rw [← df_get hyd]; exact hz
      obtain ⟨u, hu⟩ : ∃ u, ys[i]? = some u := ⟨_, List.getElem?_eq_getElem (by omega)⟩
      refine .skip ?_
      refine seqQ_n ?_
      refine .seq ?_
      refine .block ?_
      refine .seq ?_
      refine .region ?_
      refine TriOps.q .move ?_
      refine TriOps.q .move ?_
      refine TriOps.indexO j hO hz (fun ps => ?_)
      refine TriOps.q (.loadA rfl) ?_
      refine TriOps.allocA (fun b7 => ?_)
      refine TriOps.storeA rfl rfl ?_
      refine .nil ?_
      refine seqQ_n ?_
      refine .seq ?_
      refine .region ?_
      refine TriOps.q .move ?_
      refine TriOps.q (.loadA rfl) ?_
      refine TriOps.callMV (first := []) (vs := [.agg z.enc.toArray]) (hf z (List.mem_of_getElem? hzx) _ _ hI1) (fun v' T2 hv => ?_)
      obtain ⟨rfl, hI2⟩ := hv
      rw [← fold_next (step := step) (s := s) hzx] at hI2
      refine TriOps.q .not ?_
      refine .nil ?_
      refine seqQ_n ?_
      refine .cond rfl (fun h3 => ?_) (fun h3 => ?_)
      · skip
        refine .seq ?_
        refine .region ?_
        refine TriOps.q .move ?_
        refine TriOps.q .move ?_
        refine TriOps.q (.loadA rfl) ?_
        refine TriOps.indexO i hO hu (fun ps2 => ?_)
        refine TriOps.storeO i hO hu z (fun Ty' hO' => ?_) (Quest.one z).h
        refine .nil ?_
        refine seqQ_n ?_
        refine .region ?_
        refine TriOps.q .move ?_
        refine TriOps.q (.inc (n := i) (by omega)) ?_
        refine TriOps.q .assign ?_
        refine .nil ?_
        refine blkQ_n (seqQ_n ?_)
        refine .region ?_
        refine TriOps.q .move ?_
        refine TriOps.q (.inc (n := j) (by omega)) ?_
        refine TriOps.q .assign ?_
        refine .nil ?_
        first
          | exact loopQ_i (i + 1, j + 1, ys.set i z, Ty', T2) ⟨⟨by simp only; omega, by simp only; omega⟩, ⟨by simp [hyl], df_keep hyt hzx (by omega) h3, by simp only; rw [List.drop_set_of_lt (by omega)]; exact df_drop hyd⟩, hO', hI2⟩ (by simp only; omega) (((((EnvLe.nil _).cons rfl).cons rfl).cons rfl).cons rfl) (HLe.pick [1, 1] _)
          | exact loopQ_i (i, j + 1, ys, Ty, T2) ⟨⟨by simp only; omega, by simp only; omega⟩, ⟨hyl, df_skip hyt hzx h3, df_drop hyd⟩, hO, hI2⟩ (by simp only; omega) (((((EnvLe.nil _).cons rfl).cons rfl).cons rfl).cons rfl) (HLe.pick [1, 1] _)
      · skip
        refine .skip ?_
        refine blkQ_n (seqQ_n ?_)
        refine .region ?_
        refine TriOps.q .move ?_
        refine TriOps.q (.inc (n := j) (by omega)) ?_
        refine TriOps.q .assign ?_
        refine .nil ?_
        first
          | exact loopQ_i (i + 1, j + 1, ys.set i z, Ty', T2) ⟨⟨by simp only; omega, by simp only; omega⟩, ⟨by simp [hyl], df_keep hyt hzx (by omega) h3, by simp only; rw [List.drop_set_of_lt (by omega)]; exact df_drop hyd⟩, hO', hI2⟩ (by simp only; omega) (((((EnvLe.nil _).cons rfl).cons rfl).cons rfl).cons rfl) (HLe.pick [1, 1] _)
          | exact loopQ_i (i, j + 1, ys, Ty, T2) ⟨⟨by simp only; omega, by simp only; omega⟩, ⟨hyl, df_skip hyt hzx h3, df_drop hyd⟩, hO, hI2⟩ (by simp only; omega) (((((EnvLe.nil _).cons rfl).cons rfl).cons rfl).cons rfl) (HLe.pick [1, 1] _)
    · skip
      refine .exit (seqQ_x (loopQ_x (blkQ_x ?_)))
      refine seqQ_n ?_
      refine .seq ?_
      refine .region ?_
      refine TriOps.q .move ?_
      refine TriOps.q .move ?_
      have hjn' : j = n := by simp at h2; omega
      refine TriOps.q (.sliceE (sz := 6) i n ⟨_, rfl⟩ rfl (by omega) (by omega)) ?_
      refine TriOps.clearTail i hO (by omega) rfl (fun Ty2 hO2 => ?_)
      refine .nil ?_
      refine seqQ_n ?_
      refine .seq ?_
      refine .region ?_
      refine TriOps.q .move ?_
      refine TriOps.q .move ?_
      refine TriOps.q (.sliceE (sz := 6) (n := n) (cap := cap) (p := pr) 0 i rfl ⟨_, rfl⟩ (by omega) (by omega)) ?_
      refine TriOps.q .assign ?_
      refine .nil ?_
      refine seqQ_n ?_
      refine .ret (retQ_r _ (.one (.tmp rfl)) (HLe.pick [1, 0] _) ?_)
      refine ⟨_, _, rfl, ?_, ?_⟩
      · rw [hyt, hjn', hn, List.take_length] at hO2
        exact hO2
      · rw [hjn', hn, List.take_length] at hI1
        exact hI1
end Go.Proofs.Ythflndnbdgelnaa
