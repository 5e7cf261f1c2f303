/- Lists from which some are deleted, step by step. No program, no condition. -/
import Derived.Test.YtkepgbimlolemaaBase
set_option linter.unusedVariables false
namespace Go.Proofs.Ytkepgbimlolemaa
theorem df_keep {α : Type} {ys xs : List α} {i j : Nat} {z : α} {q : α → Bool} (h1 : ys.take i = (xs.take j).filter q) (hz : xs[j]? = some z) (hi : i < ys.length) (hq : q z = true) : (ys.set i z).take (i + 1) = (xs.take (j + 1)).filter q := by
  rw [List.take_add_one, List.take_add_one, hz, List.filter_append, List.take_set_of_le (Nat.le_refl _), h1]
  simp [hq, hi]
theorem df_skip {α : Type} {ys xs : List α} {i j : Nat} {z : α} {q : α → Bool} (h1 : ys.take i = (xs.take j).filter q) (hz : xs[j]? = some z) (hq : q z = false) : ys.take i = (xs.take (j + 1)).filter q := by
  rw [List.take_add_one, hz, List.filter_append, h1]
  simp [hq]
theorem df_drop {α : Type} {ys xs : List α} {j : Nat} (h : ys.drop j = xs.drop j) : ys.drop (j + 1) = xs.drop (j + 1) := by
  have := congrArg (List.drop 1) h
  simpa [List.drop_drop, Nat.add_comm] using this
theorem df_get {α : Type} {ys xs : List α} {j : Nat} (h : ys.drop j = xs.drop j) : ys[j]? = xs[j]? := by
  have := congrArg (fun l => l[0]?) h
  simpa using this
theorem df_none {α : Type} {xs : List α} {p : α → Bool} (h : ∀ y ∈ xs, p y = false) : xs.filter (fun y => !p y) = xs := by
  rw [List.filter_eq_self]
  intro y hy
  simp [h y hy]
theorem df_first {α : Type} {xs : List α} {p : α → Bool} {i : Nat} {x : α} (hx : xs[i]? = some x) (hp : p x = true) (h : ∀ j y, j < i → xs[j]? = some y → p y = false) : xs.take i = (xs.take (i + 1)).filter (fun y => !p y) := by
  have h0 : xs.take i = (xs.take i).filter (fun y => !p y) := by
    rw [eq_comm, List.filter_eq_self]
    intro y hy
    obtain ⟨j, hj, rfl⟩ := List.mem_iff_getElem.1 hy
    simp only [List.length_take] at hj
    rw [List.getElem_take, h j _ (by omega) (List.getElem?_eq_getElem (by omega))]
    rfl
  exact df_skip h0 hx (by simp [hp])
end Go.Proofs.Ytkepgbimlolemaa
