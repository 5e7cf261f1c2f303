/- Parting a list by swaps: what the two fingers know. No program. -/
import Derived.Test.YtlmdgdehjpahiaaEngX
set_option linter.unusedVariables false
namespace Go.Proofs.Ytlmdgdehjpahiaa
section
variable {α : Type} {lt : α → α → Bool} {q : α → Bool} {ys : List α} {a b i j : Nat} {p : α}
structure PQ (q : α → Bool) (ys : List α) (a i j b : Nat) (p : α) : Prop where
  i0 : a < i
  ij : i ≤ j + 1
  jb : j < b
  at_ : ys[a]? = some p
  left : ∀ (k : Nat) (x : α), a < k → k < i → ys[k]? = some x → q x = true
  right : ∀ (k : Nat) (x : α), j < k → k < b → ys[k]? = some x → q x = false
theorem PQ.start (hab : a < b) (h : ys[a]? = some p) : PQ q ys a (a + 1) (b - 1) b p :=
  ⟨Nat.lt_succ_self _, by omega, by omega, h, fun k x h1 h2 => by omega, fun k x h1 h2 => by omega⟩
theorem PQ.inc (h : PQ q ys a i j b p) (hij : i ≤ j) {x : α} (hx : ys[i]? = some x) (hq : q x = true) : PQ q ys a (i + 1) j b p :=
  ⟨by have := h.i0; omega, by omega, h.jb, h.at_, fun k y h1 h2 hy => by
    rcases Nat.lt_or_ge k i with hk | hk
    · exact h.left k y h1 hk hy
    · have : k = i := by omega
      subst this
      rw [hx] at hy; cases hy; exact hq, h.right⟩
theorem PQ.dec (h : PQ q ys a i j b p) (hij : i ≤ j) {x : α} (hx : ys[j]? = some x) (hq : q x = false) : PQ q ys a i (j - 1) b p :=
  ⟨h.i0, by have := h.i0; omega, by have := h.jb; omega, h.at_, h.left, fun k y h1 h2 hy => by
    rcases Nat.lt_or_ge j k with hk | hk
    · exact h.right k y hk h2 hy
    · have : k = j := by omega
      subst this
      rw [hx] at hy; cases hy; exact hq⟩
theorem PQ.sw (h : PQ q ys a i j b p) (hij : i ≤ j) (hl : b ≤ ys.length) {x y : α} (hx : ys[i]? = some x) (hy : ys[j]? = some y) (hqx : q x = false) (hqy : q y = true) : i < j ∧ PQ q (swp ys i j) a (i + 1) (j - 1) b p := by
  have i0 := h.i0
  have jb := h.jb
  have hne : i ≠ j := fun e => by
    subst e
    rw [hx] at hy; cases hy
    rw [hqx] at hqy; cases hqy
  have g := fun k => swp_get (L := ys) (i := i) (k := j) (by omega) (by omega) k
  refine ⟨by omega, by omega, by omega, by omega, ?_, fun k z h1 h2 hz => ?_, fun k z h1 h2 hz => ?_⟩
  · rw [g, if_neg (by omega), if_neg (by omega)]; exact h.at_
  · rw [g, if_neg (by omega)] at hz
    by_cases hk : k = i
    · rw [if_pos hk, hy] at hz; cases hz; exact hqy
    · rw [if_neg hk] at hz; exact h.left k z h1 (by omega) hz
  · rw [g] at hz
    by_cases hk : k = j
    · rw [if_pos hk, hx] at hz; cases hz; exact hqx
    · rw [if_neg hk, if_neg (by omega)] at hz; exact h.right k z (by omega) h2 hz
theorem PQ.fin (h : PQ (fun x => lt x p) ys a i j b p) (hij : j < i) (hl : b ≤ ys.length) : Part lt (swp ys j a) a j b p := by
  have i0 := h.i0
  have ij := h.ij
  have jb := h.jb
  have g := fun k => swp_get (L := ys) (i := j) (k := a) (by omega) (by omega) k
  refine ⟨by omega, jb, ?_, fun k z h1 h2 hz => ?_, fun k z h1 h2 hz => ?_⟩
  · rw [g]
    by_cases hk : j = a
    · rw [if_pos hk, hk]; exact h.at_
    · rw [if_neg hk, if_pos rfl]; exact h.at_
  · rw [g] at hz
    by_cases hk : k = a
    · rw [if_pos hk] at hz
      exact h.left j z (by omega) (by omega) hz
    · rw [if_neg hk, if_neg (by omega)] at hz
      exact h.left k z (by omega) (by omega) hz
  · rw [g, if_neg (by omega), if_neg (by omega)] at hz
    exact h.right k z h1 h2 hz
theorem PQ.finE (so : SO lt) (h : PQ (fun x => !lt p x) ys a i j b p) (hij : j < i) (hlo : ∀ (k : Nat) (x : α), a ≤ k → k < b → ys[k]? = some x → lt x p = false) : PartE lt ys a i b p := by
  have i0 := h.i0
  have ij := h.ij
  have jb := h.jb
  refine ⟨i0, by omega, fun k z h1 h2 hz => ⟨hlo k z h1 (by omega) hz, ?_⟩, fun k z h1 h2 hz => ?_⟩
  · by_cases hk : k = a
    · subst hk
      rw [h.at_] at hz; cases hz; exact so.irr _
    · simpa using h.left k z (by omega) h2 hz
  · simpa using h.right k z (by omega) h2 hz
theorem Part.lb (h : Part lt ys a j b p) : LB lt ys (j + 1) b := fun _ k h1 h2 x y hx hy => by
  rw [Nat.add_sub_cancel, h.at_] at hx
  cases hx
  exact h.right k y h1 h2 hy
theorem LB.less (h : LB lt ys a b) {b' : Nat} (hb : b' ≤ b) : LB lt ys a b' := fun h0 k h1 h2 => h h0 k h1 (by omega)
theorem LB.nol (so : SO lt) (h : LB lt ys a b) (h0 : 0 < a) {x : α} (hx : ys[a - 1]? = some x) (hp : lt x p = false) : ∀ (k : Nat) (y : α), a ≤ k → k < b → ys[k]? = some y → lt y p = false := fun k y h1 h2 hy =>
  so.ntr _ _ _ (h h0 k h1 h2 x y hx hy) hp
end
end Go.Proofs.Ytlmdgdehjpahiaa
