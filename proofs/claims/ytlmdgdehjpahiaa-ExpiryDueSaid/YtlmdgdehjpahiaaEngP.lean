/- The engine, part 20: what sorting a piece of a list does: plain lists, no program, no condition. -/
import Derived.Test.YtlmdgdehjpahiaaEngL
set_option linter.unusedVariables false
namespace Go.Proofs.Ytlmdgdehjpahiaa
variable {α : Type}
/-- By exchanges within a piece. -/
inductive RP (a b : Nat) : List α → List α → Prop
  | refl (xs : List α) : RP a b xs xs
  | step {xs ys : List α} {i j : Nat} : RP a b xs ys → a ≤ i → i < b → a ≤ j → j < b → b ≤ ys.length → RP a b xs (swp ys i j)
section
variable {a b a' b' : Nat} {xs ys zs : List α}
theorem RP.length (h : RP a b xs ys) : ys.length = xs.length := by
  induction h with
  | refl => rfl
  | step _ _ _ _ _ _ ih => rw [swp_length, ih]
theorem RP.perm (h : RP a b xs ys) : ys.Perm xs := by
  induction h with
  | refl => exact .refl _
  | step _ _ _ _ _ _ ih => exact swp_perm.trans ih
theorem RP.out (h : RP a b xs ys) {k : Nat} (hk : k < a ∨ b ≤ k) : ys[k]? = xs[k]? := by
  induction h with
  | refl => rfl
  | step _ h1 h2 h3 h4 h5 ih => rw [swp_get (by omega) (by omega), if_neg (by omega), if_neg (by omega), ih]
theorem RP.all (h : RP a b xs ys) {p : α → Prop} (hp : ∀ (k : Nat) (x : α), a ≤ k → k < b → xs[k]? = some x → p x) : ∀ (k : Nat) (x : α), a ≤ k → k < b → ys[k]? = some x → p x := by
  induction h with
  | refl => exact hp
  | step _ h1 h2 h3 h4 h5 ih =>
    intro k x hk1 hk2 hx
    rw [swp_get (by omega) (by omega)] at hx
    split at hx
    · exact ih _ x h1 h2 hx
    · split at hx
      · exact ih _ x h3 h4 hx
      · exact ih k x hk1 hk2 hx
theorem RP.trans (h : RP a b xs ys) (h' : RP a b ys zs) : RP a b xs zs := by
  induction h' with
  | refl => exact h
  | step _ h1 h2 h3 h4 h5 ih => exact .step ih h1 h2 h3 h4 h5
theorem RP.mono (h : RP a b xs ys) (ha : a' ≤ a) (hb : b ≤ b') (hl : b' ≤ xs.length) : RP a' b' xs ys := by
  induction h with
  | refl => exact .refl _
  | step h0 h1 h2 h3 h4 h5 ih => exact .step ih (by omega) (by omega) (by omega) (by omega) (by rw [h0.length]; omega)
theorem RP.one {i j : Nat} (h1 : a ≤ i) (h2 : i < b) (h3 : a ≤ j) (h4 : j < b) (h5 : b ≤ xs.length) : RP a b xs (swp xs i j) := .step (.refl xs) h1 h2 h3 h4 h5
end
section
variable {lt : α → α → Bool} {a b a0 b0 mid : Nat} {xs ys zs : List α}
def SR (lt : α → α → Bool) (xs : List α) (a b : Nat) : Prop := ∀ i j, a ≤ i → i < j → j < b → HEdge lt xs i j
/-- In order but for what is within a piece. -/
def OX (lt : α → α → Bool) (xs : List α) (a0 b0 a b : Nat) : Prop := ∀ i j, a0 ≤ i → i < j → j < b0 → (i < a ∨ b ≤ j) → HEdge lt xs i j
theorem OX.start : OX lt xs a0 b0 a0 b0 := fun i j h1 h2 h3 h4 => by omega
theorem OX.sorted (h : OX lt xs a0 b0 a b) (hs : SR lt xs a b) : SR lt xs a0 b0 := fun i j h1 h2 h3 => by
  by_cases h4 : i < a ∨ b ≤ j
  · exact h i j h1 h2 h3 h4
  · exact hs i j (by omega) h2 (by omega)
theorem OX.rp (h : OX lt xs a0 b0 a b) (hr : RP a b xs ys) (ha : a0 ≤ a) (hb : b ≤ b0) : OX lt ys a0 b0 a b := fun i j h1 h2 h3 h4 x y hx hy => by
  rcases h4 with h4 | h4
  · rw [hr.out (.inl h4)] at hx
    by_cases h5 : j < a ∨ b ≤ j
    · rw [hr.out h5] at hy
      exact h i j h1 h2 h3 (.inl h4) x y hx hy
    · exact hr.all (p := fun y => lt y x = false) (fun k z hk1 hk2 hz => h i k h1 (by omega) (by omega) (.inl h4) x z hx hz) j y (by omega) (by omega) hy
  · rw [hr.out (.inr h4)] at hy
    by_cases h5 : i < a ∨ b ≤ i
    · rw [hr.out h5] at hx
      exact h i j h1 h2 h3 (.inr h4) x y hx hy
    · exact hr.all (p := fun x => lt y x = false) (fun k z hk1 hk2 hz => h k j (by omega) (by omega) h3 (.inr h4) z y hz hy) i x (by omega) (by omega) hx
/-- Parted at a place: what is less ahead, what is not less behind. -/
structure Part (lt : α → α → Bool) (xs : List α) (a mid b : Nat) (p : α) : Prop where
  lo : a ≤ mid
  hi : mid < b
  at_ : xs[mid]? = some p
  left : ∀ (k : Nat) (x : α), a ≤ k → k < mid → xs[k]? = some x → lt x p = true
  right : ∀ (k : Nat) (x : α), mid < k → k < b → xs[k]? = some x → lt x p = false
theorem Part.rpL {p : α} (h : Part lt xs a mid b p) (hr : RP a mid xs ys) : Part lt ys a mid b p :=
  ⟨h.lo, h.hi, by rw [hr.out (.inr (Nat.le_refl _))]; exact h.at_, hr.all h.left, fun k x h1 h2 hx => h.right k x h1 h2 (by rw [← hr.out (.inr (by omega))]; exact hx)⟩
theorem Part.rpR {p : α} (h : Part lt xs a mid b p) (hr : RP (mid + 1) b xs ys) : Part lt ys a mid b p :=
  ⟨h.lo, h.hi, by rw [hr.out (.inl (by omega))]; exact h.at_, fun k x h1 h2 hx => h.left k x h1 h2 (by rw [← hr.out (.inl (by omega))]; exact hx),
    fun k x h1 h2 hx => hr.all (p := fun x => lt x p = false) (fun k x hk1 hk2 => h.right k x (by omega) hk2) k x (by omega) h2 hx⟩
theorem Part.pair (so : SO lt) {p : α} (h : Part lt xs a mid b p) {i j : Nat} (h1 : a ≤ i) (h2 : i < j) (h3 : j < b) (h4 : i ≤ mid) (h5 : mid ≤ j) : HEdge lt xs i j := fun x y hx hy => by
  rcases Nat.lt_or_ge i mid with hi | hi
  · have hxp := h.left i x h1 hi hx
    rcases Nat.lt_or_ge mid j with hj | hj
    · have hyp := h.right j y hj h3 hy
      cases hc : lt y x with
      | false => rfl
      | true => rw [so.tr _ _ _ hc hxp] at hyp; cases hyp
    · have : j = mid := by omega
      subst this
      rw [h.at_] at hy; cases hy
      exact so.asym hxp
  · have : i = mid := by omega
    subst this
    rw [h.at_] at hx; cases hx
    exact h.right j y (by omega) h3 hy
theorem OX.left (so : SO lt) {p : α} (h : OX lt xs a0 b0 a b) (hp : Part lt xs a mid b p) (hr : RP a mid xs ys) (hs : SR lt ys a mid) (ha : a0 ≤ a) (hb : b ≤ b0) (hl : b ≤ xs.length) : OX lt ys a0 b0 (mid + 1) b := fun i j h1 h2 h3 h4 => by
  have ho := h.rp (hr.mono (Nat.le_refl a) (Nat.le_of_lt hp.hi) hl) ha hb
  have hp' := hp.rpL hr
  by_cases h5 : i < a ∨ b ≤ j
  · exact ho i j h1 h2 h3 h5
  · rcases Nat.lt_or_ge j mid with hj | hj
    · exact hs i j (by omega) h2 hj
    · exact hp'.pair so (by omega) h2 (by omega) (by omega) hj
theorem OX.right (so : SO lt) {p : α} (h : OX lt xs a0 b0 a b) (hp : Part lt xs a mid b p) (hr : RP (mid + 1) b xs ys) (hs : SR lt ys (mid + 1) b) (ha : a0 ≤ a) (hb : b ≤ b0) (hl : b ≤ xs.length) : OX lt ys a0 b0 a mid := fun i j h1 h2 h3 h4 => by
  have hlo := hp.lo
  have ho := h.rp (hr.mono (by omega) (Nat.le_refl b) hl) ha hb
  have hp' := hp.rpR hr
  by_cases h5 : i < a ∨ b ≤ j
  · exact ho i j h1 h2 h3 h5
  · rcases Nat.lt_or_ge mid i with hi | hi
    · exact hs i j (by omega) h2 (by omega)
    · exact hp'.pair so (by omega) h2 (by omega) hi (by omega)
/-- Parted at a place: what is alike ahead, what is greater behind. -/
structure PartE (lt : α → α → Bool) (xs : List α) (a mid b : Nat) (p : α) : Prop where
  lo : a < mid
  hi : mid ≤ b
  left : ∀ (k : Nat) (x : α), a ≤ k → k < mid → xs[k]? = some x → lt x p = false ∧ lt p x = false
  right : ∀ (k : Nat) (x : α), mid ≤ k → k < b → xs[k]? = some x → lt p x = true
theorem OX.eqs (so : SO lt) {p : α} (h : OX lt xs a0 b0 a b) (hp : PartE lt xs a mid b p) : OX lt xs a0 b0 mid b := fun i j h1 h2 h3 h4 => by
  by_cases h5 : i < a ∨ b ≤ j
  · exact h i j h1 h2 h3 h5
  · intro x y hx hy
    obtain ⟨e1, e2⟩ := hp.left i x (by omega) (by omega) hx
    rcases Nat.lt_or_ge j mid with hj | hj
    · obtain ⟨e3, e4⟩ := hp.left j y (by omega) hj hy
      exact so.ntr _ _ _ e3 e2
    · have e3 := hp.right j y hj (by omega) hy
      cases hc : lt y x with
      | false => rfl
      | true => rw [so.tr _ _ _ e3 hc] at e2; cases e2
/-- One more, put in its place: the piece is in order but for the place j, which is less than none of those behind it. -/
def Ins (lt : α → α → Bool) (xs : List α) (a j n : Nat) : Prop := ∀ i k, a ≤ i → i < k → k < n → k ≠ j → HEdge lt xs i k
theorem SR.ins (h : SR lt xs a b) : Ins lt xs a b (b + 1) := fun i k h1 h2 h3 h4 => h i k h1 h2 (by omega)
theorem Ins.done (so : SO lt) {j n : Nat} (h : Ins lt xs a j n) (hn : n ≤ xs.length) (hj : j < n) (he : j = a ∨ a < j ∧ HEdge lt xs (j - 1) j) : SR lt xs a n := fun i k h1 h2 h3 => by
  by_cases hk : k = j
  · subst hk
    rcases he with he | ⟨he1, he⟩
    · omega
    · by_cases hi : i = k - 1
      · subst hi; exact he
      · intro x y hx hy
        have hz : xs[k - 1]? = some (xs[k - 1]'(by omega)) := List.getElem?_eq_getElem _
        exact so.ntr _ _ _ (he _ y hz hy) (h i (k - 1) h1 (by omega) (by omega) (by omega) x _ hx hz)
  · exact h i k h1 h2 h3 hk
theorem Ins.step (so : SO lt) {j n : Nat} (h : Ins lt xs a j n) (hn : n ≤ xs.length) (hj : j < n) (ha : a < j) {x y : α} (hx : xs[j]? = some x) (hy : xs[j - 1]? = some y) (hlt : lt x y = true) : Ins lt (swp xs j (j - 1)) a (j - 1) n := fun i k h1 h2 h3 h4 => by
  have g := fun k => swp_get (L := xs) (i := j) (k := j - 1) (by omega) (by omega) k
  by_cases hk : k = j
  · subst hk
    by_cases hi : i = k - 1
    · subst hi
      intro u v hu hv
      rw [g, if_pos rfl, hx] at hu
      rw [g, if_neg (by omega), if_pos rfl, hy] at hv
      cases hu; cases hv
      exact so.asym hlt
    · refine (h i (k - 1) h1 (by omega) (by omega) (by omega)).of_get ?_ ?_
      · rw [g, if_neg hi, if_neg (by omega)]
      · rw [g, if_neg (by omega), if_pos rfl]
  · by_cases hi : i = j
    · subst hi
      refine (h (i - 1) k (by omega) (by omega) h3 hk).of_get ?_ ?_
      · rw [g, if_neg (by omega), if_pos rfl]
      · rw [g, if_neg h4, if_neg hk]
    · by_cases hi2 : i = j - 1
      · subst hi2
        refine (h j k (by omega) (by omega) h3 hk).of_get ?_ ?_
        · rw [g, if_pos rfl]
        · rw [g, if_neg h4, if_neg hk]
      · refine (h i k h1 h2 h3 hk).of_get ?_ ?_
        · rw [g, if_neg hi2, if_neg hi]
        · rw [g, if_neg h4, if_neg hk]
end
end Go.Proofs.Ytlmdgdehjpahiaa
