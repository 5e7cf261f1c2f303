/- The engine, part 23: more on pieces of a list in order: plain lists, no program, no condition. -/
import Derived.Test.YtlmdgdehjpahiaaEngV
set_option linter.unusedVariables false
namespace Go.Proofs.Ytlmdgdehjpahiaa
variable {α : Type} {lt : α → α → Bool} {a b i j : Nat} {xs ys : List α}
/-- What stands right ahead of a piece is greater than nothing in it. -/
def LB (lt : α → α → Bool) (xs : List α) (a b : Nat) : Prop := 0 < a → ∀ k, a ≤ k → k < b → HEdge lt xs (a - 1) k
theorem LB.rp (h : LB lt xs a b) (hr : RP a b xs ys) : LB lt ys a b := fun h0 k h1 h2 x y hx hy => by
  rw [hr.out (.inl (by omega))] at hx
  exact hr.all (p := fun y => lt y x = false) (fun k y hk1 hk2 hy => h h0 k hk1 hk2 x y hx hy) k y h1 h2 hy
theorem SR.snoc (so : SO lt) (h : SR lt xs a i) (hi : a < i) (hl : i < xs.length) (he : HEdge lt xs (i - 1) i) : SR lt xs a (i + 1) := h.ins.done so (by omega) (by omega) (.inr ⟨hi, he⟩)
theorem SR.swp_out {p q : Nat} (h : SR lt xs a i) (hp : i ≤ p) (hq : i ≤ q) (hp2 : p < xs.length) (hq2 : q < xs.length) : SR lt (swp xs p q) a i := fun u w h1 h2 h3 =>
  (h u w h1 h2 h3).of_get (by rw [swp_get hp2 hq2, if_neg (by omega), if_neg (by omega)]) (by rw [swp_get hp2 hq2, if_neg (by omega), if_neg (by omega)])
theorem SR.swp_last (h : SR lt xs a i) (hi : i < xs.length) : Ins lt (swp xs i (i - 1)) a (i - 1) i := fun u w h1 h2 h3 h4 =>
  (h u w h1 h2 h3).of_get (by rw [swp_get hi (by omega), if_neg (by omega), if_neg (by omega)]) (by rw [swp_get hi (by omega), if_neg (by omega), if_neg (by omega)])
theorem Ins.done' (so : SO lt) {n : Nat} (h : Ins lt xs a j n) (hn : n ≤ xs.length) (hj : j < n) (he : j = a ∨ a < j ∧ HEdge lt xs (j - 1) j) : SR lt xs a n := h.done so hn hj he
theorem OX.lb {a0 b0 : Nat} (h : OX lt xs a0 b0 a b) (hlb : LB lt xs a0 b0) (ha : a0 ≤ a) (hb : b ≤ b0) : LB lt xs a b := fun h0 k h1 h2 => by
  by_cases he : a = a0
  · subst he; exact hlb h0 k h1 (by omega)
  · exact h (a - 1) k (by omega) (by omega) (by omega) (.inl (by omega))
end Go.Proofs.Ytlmdgdehjpahiaa
