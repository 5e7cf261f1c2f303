/- Stores, as plain lists of rows, change by change. No program, no condition. -/
import Derived.Test.YtkepgbimlolemaaStoP
set_option linter.unusedVariables false
set_option linter.unusedSimpArgs false
set_option maxRecDepth 4000
namespace Go.Proofs.Ytkepgbimlolemaa
theorem sputs_take {cs : List Chg} {i : Nat} : sputs (cs.take i) ≤ sputs cs := (List.Sublist.filter _ (List.take_sublist i cs)).length_le
theorem WOK.take {S : Sto} {cs : List Chg} (h : WOK S cs) (i : Nat) : WOK S (cs.take i) := by
  have hm : ∀ c ∈ cs.take i, c ∈ cs := fun c hc => (List.take_sublist i cs).subset hc
  refine ⟨fun c hc => h.right c (hm c hc), h.nd.sublist ((List.take_sublist i cs).map _), fun c hc => h.away c (hm c hc), fun c hc => h.there c (hm c hc), h.head, ?_⟩
  have h1 := h.len
  have h2 := sputs_take (cs := cs) (i := i)
  omega
theorem SOK.fold {S : Sto} (hS : SOK S) {cs : List Chg} (hw : WOK S cs) : SOK ⟨cs.foldl (sapply (S.head + 1)) S.rows, S.head + 1, S.hor⟩ := by
  have a0 := hS.h0; have a1 := hS.h1; have a2 := hS.h2; have a3 := hw.head
  rw [sapply_all (by omega) _ _ hw.nd]
  refine ⟨fun x hx => ?_, ?_, ?_, a0, by simp only; omega, by simp only; omega⟩
  · simp only at hx ⊢
    rcases List.mem_append.1 hx with hx | hx
    · obtain ⟨y, hy, rfl⟩ := List.mem_map.1 hx
      obtain ⟨b1, b2, b3, b4⟩ := hS.ok y hy
      obtain ⟨c1, c2⟩ := closeAll_t (cs := cs) (r := S.head + 1) (x := y)
      rw [c1, c2]
      refine ⟨b1, b2, by omega, ?_⟩
      unfold closeAll
      split
      · right; simp only; omega
      · rcases b4 with b4 | b4
        · exact .inl b4
        · right; omega
    · obtain ⟨c, hc, hp, rfl⟩ := news_mem.1 hx
      exact ⟨hw.right c hc, by simp only; omega, by simp only; omega, .inl rfl⟩
  · simp only
    rw [List.pairwise_append]
    refine ⟨?_, ?_, fun x hx y hy => ?_⟩
    · rw [List.pairwise_map]
      refine hS.pw.imp fun {x y} hxy he => ?_
      obtain ⟨c1, c2⟩ := closeAll_t (cs := cs) (r := S.head + 1) (x := x)
      obtain ⟨c3, c4⟩ := closeAll_t (cs := cs) (r := S.head + 1) (x := y)
      rw [c1, c3] at he
      obtain ⟨d1, d2⟩ := hxy he
      rw [closeAll_shut d1, c4]
      exact ⟨d1, d2⟩
    · unfold news
      rw [List.pairwise_map]
      have := hw.nd
      rw [List.Nodup, List.pairwise_map] at this
      exact (this.sublist List.filter_sublist).imp fun {x y} hxy he => absurd he hxy
    · intro he
      obtain ⟨z, hz, rfl⟩ := List.mem_map.1 hx
      obtain ⟨c, hc, hp, rfl⟩ := news_mem.1 hy
      obtain ⟨c1, c2⟩ := closeAll_t (cs := cs) (r := S.head + 1) (x := z)
      rw [c1] at he
      have h5 := sthere_false.1 (hw.away c hc hp) z hz he
      rw [closeAll_shut h5]
      refine ⟨h5, ?_⟩
      obtain ⟨_, _, _, h6⟩ := hS.ok z hz
      simp only
      omega
  · simp only [List.length_append, List.length_map, news]
    have hl := hS.len
    have := hw.len
    unfold sputs at this
    omega
theorem openOf_close {t u : Tpl} {r : Int} {x : SRow} (h : u ≠ t) : (SRow.close u r x).openOf t = x.openOf t := by
  unfold SRow.close
  split
  · rename_i h1
    unfold SRow.openOf at h1 ⊢
    simp only [Bool.and_eq_true, decide_eq_true_eq] at h1
    have h2 : ¬ x.t = t := fun e => h (h1.1.symm.trans e)
    simp [h2]
  · rfl
theorem sthere_fold {r : Int} {t : Tpl} : ∀ (cs : List Chg) (L : List SRow), t ∉ cs.map (·.t) → sthere (cs.foldl (sapply r) L) t = sthere L t
  | [], _, _ => rfl
  | c :: cs, L, h => by
    rw [List.map_cons, List.mem_cons, not_or] at h
    rw [List.foldl_cons, sthere_fold cs _ h.2]
    unfold sapply sthere
    split
    · rw [List.any_append]
      have : SRow.openOf t ⟨c.t, r, 0⟩ = false := by
        unfold SRow.openOf
        have h9 : ¬ c.t = t := fun e => h.1 e.symm
        simp [h9]
      simp [this]
    · rw [List.any_map]
      congr 1
      funext x
      exact openOf_close fun e => h.1 e.symm
theorem close_set {L : List SRow} (hp : L.Pairwise fun x y => x.t = y.t → x.to ≠ 0 ∧ x.to ≤ y.fr) {j : Nat} {x : SRow} (hj : L[j]? = some x) {t : Tpl} (ho : x.openOf t = true) (r : Int) : L.map (SRow.close t r) = L.set j ⟨x.t, x.fr, r⟩ := by
  have ho2 : x.t = t ∧ x.to = 0 := by unfold SRow.openOf at ho; simpa using ho
  obtain ⟨hjl, hjx⟩ := List.getElem?_eq_some_iff.1 hj
  apply List.ext_getElem?
  intro k
  rw [List.getElem?_map, List.getElem?_set]
  by_cases hk : j = k
  · subst hk
    rw [if_pos rfl, if_pos hjl, hj]
    simp only [Option.map_some]
    unfold SRow.close
    rw [if_pos ho]
  · rw [if_neg hk]
    cases hy : L[k]? with
    | none => rfl
    | some y =>
      simp only [Option.map_some, Option.some.injEq]
      unfold SRow.close
      rw [if_neg]
      intro h2
      have h3 : y.t = t ∧ y.to = 0 := by unfold SRow.openOf at h2; simpa using h2
      obtain ⟨hkl, hky⟩ := List.getElem?_eq_some_iff.1 hy
      have hpp := List.pairwise_iff_getElem.1 hp
      rcases Nat.lt_or_gt_of_ne hk with h4 | h4
      · have := hpp j k hjl hkl h4
        rw [hjx, hky] at this
        exact (this (ho2.1.trans h3.1.symm)).1 ho2.2
      · have := hpp k j hkl hjl h4
        rw [hjx, hky] at this
        exact (this (h3.1.trans ho2.1.symm)).1 h3.2
end Go.Proofs.Ytkepgbimlolemaa
