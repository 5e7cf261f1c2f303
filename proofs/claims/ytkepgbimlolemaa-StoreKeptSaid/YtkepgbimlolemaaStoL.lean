/- Rows in order, which rows are a store's. Plain lists; no program, no condition. -/
import Derived.Test.YtkepgbimlolemaaStoV
set_option linter.unusedVariables false
set_option linter.unusedSimpArgs false
set_option maxRecDepth 4000
namespace Go.Proofs.Ytkepgbimlolemaa
theorem ordc_neg {a b : Tpl} : ordc a b < 0 ↔ tplcmp a b < 0 := by
  have h := congrFun (congrFun ltc_ordc a) b
  unfold ltc at h
  exact decide_eq_decide.1 h
theorem ordc_sw (a b : Tpl) : 0 < ordc a b ↔ ordc b a < 0 := by
  unfold ordc
  have h1 := @tlt_asym a b
  have h2 := @tlt_asym b a
  cases ha : tlt a b <;> cases hb : tlt b a <;> simp_all
theorem ordc_ok : CmpOK ordc where
  sw x y := by rw [ordc_sw]
  tr x y z h1 h2 := by
    have e1 : ¬ ordc y x < 0 := fun e => by have := (ordc_sw x y).2 e; omega
    have e2 : ¬ ordc z y < 0 := fun e => by have := (ordc_sw y z).2 e; omega
    rw [ordc_neg] at e1 e2
    have a1 := tplcmp_ok.sw y x
    have a2 := tplcmp_ok.sw x y
    have a3 := tplcmp_ok.sw y z
    have a4 := tplcmp_ok.sw z y
    have a5 := tplcmp_ok.tr x y z (by omega) (by omega)
    have a6 := tplcmp_ok.sw x z
    have a7 := tplcmp_ok.sw z x
    have e3 : ¬ ordc z x < 0 := by rw [ordc_neg]; omega
    have := ordc_sw x z
    omega
  tl x y z h1 h2 := by
    have e2 : ¬ ordc z y < 0 := fun e => by have := (ordc_sw y z).2 e; omega
    rw [ordc_neg] at e2 h1 ⊢
    have a3 := tplcmp_ok.sw y z
    have a4 := tplcmp_ok.sw z y
    exact tplcmp_ok.tl x y z h1 (by omega)
theorem ordc_zero {a b : Tpl} (h : ordc a b = 0) : a = b := by
  unfold ordc at h
  split at h
  · omega
  · split at h
    · omega
    · rename_i h1 h2
      exact Classical.byContradiction fun hn => by rcases tlt_tri hn with h3 | h3 <;> contradiction
def rcmp (a b : SRow) : Int := orI [ordc a.t b.t, icmp a.fr b.fr]
theorem rcmp_ok : CmpOK rcmp := (ordc_ok.map SRow.t).cons ((icmp_ok.map SRow.fr).cons .nil)
theorem rcmp_zero {a b : SRow} (h : rcmp a b = 0) : a.t = b.t ∧ a.fr = b.fr := by
  unfold rcmp at h
  obtain ⟨h1, h⟩ := orI_zero h
  obtain ⟨h2, h⟩ := orI_zero h
  exact ⟨ordc_zero h1, icmp_eq.1 h2⟩
/-- Whether a row stands ahead of another one. -/
def rlt (a b : SRow) : Bool := tlt a.t b.t || decide (a.t = b.t) && decide (a.fr < b.fr)
theorem ltc_rcmp (a b : SRow) : ltc rcmp a b = rlt a b := by
  unfold ltc rcmp rlt
  rw [orI_cons, orI_cons]
  rw [Bool.eq_iff_iff]
  simp only [decide_eq_true_eq, Bool.or_eq_true, Bool.and_eq_true]
  by_cases h : a.t = b.t
  · rw [if_pos (by rw [h]; exact ordc_ok.refl _)]
    rw [h, tlt_irr]
    unfold icmp orI
    simp
    split
    · split <;> omega
    · split
      · split <;> omega
      · split <;> omega
  · rw [if_neg fun e => h (ordc_zero e), ordc_neg]
    unfold tlt
    simp [h]
abbrev rowOrd (ys : List SRow) : Prop := ys.Pairwise fun p q => ltc rcmp q p = false
abbrev rowStrict (ys : List SRow) : Prop := ys.Pairwise fun p q => rlt p q = true
theorem rlt_asym {a b : SRow} (h : rlt a b = true) : rlt b a = false := by
  rw [← ltc_rcmp] at *
  unfold ltc at *
  have h1 := rcmp_ok.sw a b
  have h2 := rcmp_ok.sw b a
  have h := of_decide_eq_true h
  exact decide_eq_false (by omega)
theorem rowStrict.order {ys : List SRow} (h : rowStrict ys) : rowOrd ys := h.imp fun {p q} hpq => by rw [ltc_rcmp]; exact rlt_asym hpq
/-- Which rows may be, which may stand behind which. -/
def rrow (head hor : Int) (x : SRow) : Bool := isTpl x.t && (decide (1 ≤ x.fr) && (decide (x.fr ≤ head) && (x.to == 0 || (decide (x.fr < x.to) && (decide (hor < x.to) && decide (x.to ≤ head))))))
def rfol (x a : SRow) : Bool := if x.t = a.t then !(a.to == 0) && decide (a.to ≤ x.fr) else tlt a.t x.t
def rgood (head hor : Int) (xs : List SRow) (i : Nat) : Prop := ∀ j x, j < i → xs[j]? = some x → rrow head hor x = true ∧ ∀ a, 0 < j → xs[j - 1]? = some a → rfol x a = true
def rright (xs : List SRow) (head hor : Int) : Prop := (hor ≤ head ∧ head ≤ 4611686018427387903 ∧ xs.length ≤ 4096) ∧ rgood head hor xs xs.length
theorem rgood_zero {head hor : Int} {xs : List SRow} : rgood head hor xs 0 := fun j x hj => absurd hj (Nat.not_lt_zero _)
theorem rgood_next {head hor : Int} {xs : List SRow} {i : Nat} {x : SRow} (h : rgood head hor xs i) (hx : xs[i]? = some x) (h1 : rrow head hor x = true) (h2 : ∀ a, 0 < i → xs[i - 1]? = some a → rfol x a = true) : rgood head hor xs (i + 1) := fun j y hj hy => by
  rcases Nat.lt_or_eq_of_le (Nat.le_of_lt_succ hj) with h3 | h3
  · exact h j y h3 hy
  · subst h3
    rw [hx] at hy
    cases hy
    exact ⟨h1, h2⟩
theorem rrow_iff {head hor : Int} {x : SRow} : rrow head hor x = true ↔ isTpl x.t = true ∧ 1 ≤ x.fr ∧ x.fr ≤ head ∧ (x.to = 0 ∨ (x.fr < x.to ∧ hor < x.to ∧ x.to ≤ head)) := by
  unfold rrow
  simp
theorem rfol_tr {y x a : SRow} {head hor : Int} (hx : rrow head hor x = true) (h1 : rfol y x = true) (h2 : rfol x a = true) : rfol y a = true := by
  obtain ⟨_, _, _, h3⟩ := rrow_iff.1 hx
  unfold rfol at *
  by_cases e1 : y.t = x.t
  · rw [if_pos e1] at h1
    by_cases e2 : x.t = a.t
    · rw [if_pos e2] at h2
      rw [if_pos (e1.trans e2)]
      simp only [Bool.and_eq_true, Bool.not_eq_true', beq_eq_false_iff_ne, decide_eq_true_eq] at h1 h2 ⊢
      omega
    · rw [if_neg e2] at h2
      rw [if_neg (by rw [e1]; exact e2), e1]
      exact h2
  · rw [if_neg e1] at h1
    by_cases e2 : x.t = a.t
    · rw [← e2, if_neg e1]; exact h1
    · rw [if_neg e2] at h2
      have h4 := tlt_tr _ _ _ h2 h1
      rw [if_neg]
      · exact h4
      · intro e
        rw [e, tlt_irr] at h4
        cases h4
theorem rgood_pw {head hor : Int} {xs : List SRow} (h : rgood head hor xs xs.length) : xs.Pairwise fun a x => rfol x a = true := by
  rw [List.pairwise_iff_getElem]
  intro i j hi hj hij
  have hs : ∀ k, (hk : i + 1 + k < xs.length) → rfol xs[i + 1 + k] xs[i] = true := by
    intro k
    induction k with
    | zero =>
      intro hk
      exact (h (i + 1) xs[i + 1] hk (List.getElem?_eq_getElem hk)).2 xs[i] (by omega) (List.getElem?_eq_getElem hi)
    | succ k ih =>
      intro hk
      have h1 := (h (i + 1 + k) xs[i + 1 + k] (by omega) (List.getElem?_eq_getElem (by omega))).1
      have h2 := (h (i + 1 + (k + 1)) xs[i + 1 + (k + 1)] hk (List.getElem?_eq_getElem hk)).2 xs[i + 1 + k] (by omega) (List.getElem?_eq_getElem (by omega))
      exact rfol_tr h1 h2 (ih (by omega))
  have := hs (j - (i + 1)) (by omega)
  simpa only [show i + 1 + (j - (i + 1)) = j by omega] using this
theorem SOK.load {xs : List SRow} {head hor : Int} (h : rright xs head hor) (h0 : 0 ≤ hor) : SOK ⟨xs, head, hor⟩ := by
  obtain ⟨⟨h1, h2, h3⟩, h4⟩ := h
  refine ⟨fun x hx => ?_, (rgood_pw h4).imp fun {a x} hax he => ?_, h3, h0, h1, h2⟩
  · obtain ⟨j, hj, rfl⟩ := List.mem_iff_getElem.1 hx
    exact rrow_iff.1 (h4 j _ hj (List.getElem?_eq_getElem hj)).1
  · unfold rfol at hax
    rw [if_pos he.symm] at hax
    simpa using hax
theorem rright_strict {xs : List SRow} {head hor : Int} (h : rright xs head hor) : rowStrict xs := by
  obtain ⟨_, h4⟩ := h
  have hok : ∀ x ∈ xs, rrow head hor x = true := fun x hx => by
    obtain ⟨j, hj, rfl⟩ := List.mem_iff_getElem.1 hx
    exact (h4 j _ hj (List.getElem?_eq_getElem hj)).1
  refine (rgood_pw h4).imp_of_mem fun {a x} ha hx hax => ?_
  obtain ⟨_, _, _, h3⟩ := rrow_iff.1 (hok a ha)
  unfold rfol at hax
  unfold rlt
  split at hax
  · rename_i e
    simp only [Bool.and_eq_true, Bool.not_eq_true', beq_eq_false_iff_ne, decide_eq_true_eq] at hax
    simp only [Bool.or_eq_true, Bool.and_eq_true, decide_eq_true_eq]
    exact .inr ⟨e.symm, by omega⟩
  · simp [hax]
/-- Two rows of a store: one is over ahead of the other. -/
theorem SOK.two {S : Sto} (hS : SOK S) {ys : List SRow} (hp : ys.Perm S.rows) : ys.Pairwise fun x y => x.t = y.t → (x.to ≠ 0 ∧ x.to ≤ y.fr) ∨ (y.to ≠ 0 ∧ y.to ≤ x.fr) := by
  have h : S.rows.Pairwise fun x y => x.t = y.t → (x.to ≠ 0 ∧ x.to ≤ y.fr) ∨ (y.to ≠ 0 ∧ y.to ≤ x.fr) := hS.pw.imp fun {x y} hxy he => .inl (hxy he)
  exact hp.symm.pairwise h fun {x y} hxy he => (hxy he.symm).symm
theorem SOK.strict {S : Sto} (hS : SOK S) {ys : List SRow} (hp : ys.Perm S.rows) (ho : rowOrd ys) : rowStrict ys := by
  refine ((hS.two hp).and ho).imp_of_mem fun {x y} hx hy hxy => ?_
  obtain ⟨h1, h2⟩ := hxy
  rw [ltc_rcmp] at h2
  obtain ⟨_, _, _, b1⟩ := hS.ok x (hp.mem_iff.1 hx)
  obtain ⟨_, _, _, b2⟩ := hS.ok y (hp.mem_iff.1 hy)
  unfold rlt at h2 ⊢
  simp only [Bool.or_eq_false_iff, Bool.and_eq_false_iff, decide_eq_false_iff_not] at h2
  simp only [Bool.or_eq_true, Bool.and_eq_true, decide_eq_true_eq]
  by_cases e : x.t = y.t
  · have h3 := h1 e
    refine .inr ⟨e, ?_⟩
    rcases h2.2 with h4 | h4
    · exact absurd e.symm h4
    · omega
  · left
    rcases tlt_tri e with h5 | h5
    · exact h5
    · rw [h2.1] at h5; cases h5
theorem SOK.right {S : Sto} (hS : SOK S) {ys : List SRow} (hp : ys.Perm S.rows) (ho : rowOrd ys) : rright ys S.head S.hor := by
  refine ⟨⟨hS.h1, hS.h2, by rw [hp.length_eq]; exact hS.len⟩, fun j x hj hx => ⟨rrow_iff.2 (hS.ok x (hp.mem_iff.1 (List.mem_of_getElem? hx))), fun a h0 ha => ?_⟩⟩
  have h1 := List.pairwise_iff_getElem.1 (hS.strict hp ho)
  have h2 := List.pairwise_iff_getElem.1 (hS.two hp)
  obtain ⟨hjl, hjx⟩ := List.getElem?_eq_some_iff.1 hx
  obtain ⟨hal, hax⟩ := List.getElem?_eq_some_iff.1 ha
  have h3 := h1 (j - 1) j hal hjl (by omega)
  have h4 := h2 (j - 1) j hal hjl (by omega)
  rw [hjx, hax] at h3 h4
  obtain ⟨_, _, _, b2⟩ := hS.ok x (hp.mem_iff.1 (List.mem_of_getElem? hx))
  unfold rfol
  unfold rlt at h3
  simp only [Bool.or_eq_true, Bool.and_eq_true, decide_eq_true_eq] at h3
  split
  · rename_i e
    have h5 := h4 e.symm
    have h6 : a.fr < x.fr := by
      rcases h3 with h3 | h3
      · rw [e, tlt_irr] at h3; cases h3
      · exact h3.2
    simp only [Bool.and_eq_true, Bool.not_eq_true', beq_eq_false_iff_ne, decide_eq_true_eq]
    omega
  · rename_i e
    rcases h3 with h3 | h3
    · exact h3
    · exact absurd h3.1.symm e
theorem row_uniq {xs ys : List SRow} (hp : ys.Perm xs) (hx : rowStrict xs) (hy : rowStrict ys) : ys = xs := by
  refine List.Perm.eq_of_pairwise (le := fun a b : SRow => rlt a b = true) (fun a b _ _ h1 h2 => ?_) hy hx hp
  rw [rlt_asym h1] at h2
  cases h2
end Go.Proofs.Ytkepgbimlolemaa
