/- The engine, part 21: a heap from a place on, by which a piece of a list is sorted: plain lists, no program, no condition. -/
import Derived.Test.YtlmdgdehjpahiaaEngP
set_option linter.unusedVariables false
namespace Go.Proofs.Ytlmdgdehjpahiaa
variable {α : Type}
/-- What a function value answers of two elements. -/
def FnC (P : Program) (f : FuncId) (caps : List Value) (R : Rds) (pk : α → Value) (c : α → α → Int) (ok : α → Prop) : Prop :=
  ∀ x y, ok x → ok y → ∀ R', (∀ b o, R b o → R' b o) → Spec P f ([pk x, pk y] ++ caps) R' [] fun v H' => v = .int .i64 (c x y) ∧ H' = []
theorem FnC.mono {P : Program} {f : FuncId} {caps : List Value} {R R' : Rds} {pk : α → Value} {c : α → α → Int} {ok : α → Prop} (h : FnC P f caps R pk c ok) (hr : ∀ b o, R b o → R' b o) : FnC P f caps R' pk c ok := fun x y hx hy R2 h2 => h x y hx hy R2 fun b o hb => h2 b o (hr b o hb)
def ltc (c : α → α → Int) (x y : α) : Bool := decide (c x y < 0)
def HeapF (lt : α → α → Bool) (L : List α) (n lo : Nat) : Prop := ∀ k, 0 < k → k < n → lo ≤ par k → HEdge lt L (par k) k
structure HoleF (lt : α → α → Bool) (L : List α) (n lo i : Nat) : Prop where
  e : ∀ k, 0 < k → k < n → k ≠ i → par k ≠ i → lo ≤ par k → HEdge lt L (par k) k
  b : ∀ k, 0 < k → k < n → par k = i → 0 < i → lo ≤ par i → HEdge lt L (par i) k
  u : 0 < i → lo ≤ par i → HEdge lt L (par i) i
section
variable {lt : α → α → Bool} {L : List α} {n i j lo : Nat}
theorem HoleF.step (so : SO lt) (h : HoleF lt L n lo i) (hlo : lo ≤ i) (h0 : 0 < j) (hj : j < n) (hn : n ≤ L.length) (hp : par j = i) {x y : α} (hx : L[j]? = some x) (hy : L[i]? = some y) (hlt : lt x y = true)
    (hmin : ∀ c z, 0 < c → c < n → par c = i → L[c]? = some z → lt z x = false) : HoleF lt (swp L i j) n lo j := by
  have hij : i < j := hp ▸ par_lt h0
  have g := fun k => swp_get (L := L) (i := i) (k := j) (by omega) (by omega) k
  refine ⟨fun k hk0 hk hkj hkp hkl => ?_, fun k hk0 hk hkp _ hkl => ?_, fun _ _ => ?_⟩
  · by_cases hki : k = i
    · subst hki
      have hpk := par_lt hk0
      refine (h.b j h0 hj hp hk0 hkl).of_get ?_ ?_
      · rw [g, if_neg (by omega), if_neg (by omega)]
      · rw [g, if_neg hkj, if_pos rfl]
    · by_cases h1 : par k = i
      · intro u v hu hv
        rw [h1, g, if_neg (by omega), if_pos rfl, hx] at hu
        rw [g, if_neg hkj, if_neg hki] at hv
        cases hu
        exact hmin k v hk0 hk h1 hv
      · refine (h.e k hk0 hk hki h1 hkl).of_get ?_ ?_
        · rw [g, if_neg hkp, if_neg h1]
        · rw [g, if_neg hkj, if_neg hki]
  · have hkj : k ≠ j := by have := par_lt hk0; omega
    have hki : k ≠ i := by have := par_lt hk0; omega
    refine (h.e k hk0 hk hki (by omega) (by omega)).of_get ?_ ?_
    · rw [hp, hkp, g, if_neg (by omega), if_pos rfl]
    · rw [g, if_neg hkj, if_neg hki]
  · intro u v hu hv
    rw [hp, g, if_neg (by omega), if_pos rfl, hx] at hu
    rw [g, if_pos rfl, hy] at hv
    cases hu; cases hv
    exact so.asym hlt
theorem HoleF.stop (h : HoleF lt L n lo i) (hc : ∀ c, 0 < c → c < n → par c = i → HEdge lt L i c) : HeapF lt L n lo := fun k hk0 hk hkl => by
  by_cases h1 : par k = i
  · rw [h1]; exact hc k hk0 hk h1
  · by_cases hki : k = i
    · subst hki; exact h.u hk0 hkl
    · exact h.e k hk0 hk hki h1 hkl
theorem HeapF.hole (h : HeapF lt L n (lo + 1)) : HoleF lt L n lo lo :=
  ⟨fun k hk0 hk _ hkp hkl => h k hk0 hk (by omega), fun k _ _ _ h0 hl => by have := par_lt h0; omega, fun h0 hl => by have := par_lt h0; omega⟩
theorem HeapF.hole0 (h : HeapF lt L (n + 1) 0) {L' : List α} (hs : ∀ k, 0 < k → k < n → L'[k]? = L[k]?) : HoleF lt L' n 0 0 :=
  ⟨fun k hk0 hk _ hkp _ => by
    have := par_lt hk0
    exact (h k hk0 (by omega) (Nat.zero_le _)).of_get (hs _ (by omega) (by omega)) (hs _ hk0 hk), fun k _ _ _ h0 _ => by omega, fun h0 _ => by omega⟩
theorem HeapF.top (so : SO lt) (h : HeapF lt L n 0) (hn : n ≤ L.length) {x : α} (hx : L[0]? = some x) : ∀ (k : Nat) (y : α), k < n → L[k]? = some y → lt y x = false := by
  intro k
  induction k using Nat.strongRecOn with
  | _ k ih =>
    intro y hk hy
    by_cases h0 : k = 0
    · subst h0; rw [hx] at hy; cases hy; exact so.irr _
    · have hp := par_lt (k := k) (by omega)
      have h1 : L[par k]? = some (L[par k]'(by omega)) := List.getElem?_eq_getElem _
      exact so.ntr _ _ _ (h k (by omega) hk (Nat.zero_le _) _ y h1 hy) (ih (par k) hp _ (by omega) h1)
theorem SO.rev (so : SO lt) : SO (fun x y => lt y x) := ⟨so.irr, fun x y z h1 h2 => so.tr _ _ _ h2 h1, fun x y z h1 h2 => so.ntr _ _ _ h2 h1⟩
theorem drop_get (xs : List α) (f k : Nat) : (xs.drop f)[k]? = xs[f + k]? := by rw [List.getElem?_drop]
theorem drop_swp {xs : List α} {f i j : Nat} (hi : f + i < xs.length) (hj : f + j < xs.length) : (swp xs (f + i) (f + j)).drop f = swp (xs.drop f) i j := by
  apply List.ext_getElem?
  intro k
  rw [drop_get, swp_get hi hj, swp_get (by rw [List.length_drop]; omega) (by rw [List.length_drop]; omega), drop_get, drop_get, drop_get]
  by_cases h1 : k = j
  · subst h1; simp
  · by_cases h2 : k = i
    · subst h2; simp [h1]
    · rw [if_neg (by omega), if_neg (by omega), if_neg h1, if_neg h2]
/-- The greatest goes to the end of the piece. -/
theorem OX.last {xs : List α} {a0 b0 m : Nat} {x : α} (h : OX lt xs a0 b0 a0 (m + 1)) (ha : a0 ≤ m) (hm : m + 1 ≤ b0) (hb : b0 ≤ xs.length) (hx : xs[a0]? = some x) (hmax : ∀ (k : Nat) (y : α), a0 ≤ k → k ≤ m → xs[k]? = some y → lt x y = false) : OX lt (swp xs a0 m) a0 b0 a0 m := fun i j h1 h2 h3 h4 => by
  have hr : RP a0 (m + 1) xs (swp xs a0 m) := RP.one (Nat.le_refl _) (by omega) ha (by omega) (by omega)
  by_cases hj : m + 1 ≤ j
  · exact h.rp hr (Nat.le_refl _) hm i j h1 h2 h3 (.inr hj)
  · have : j = m := by omega
    subst this
    intro u w hu hw
    rw [swp_get (by omega) (by omega), if_pos rfl, hx] at hw
    cases hw
    exact hr.all (p := fun y => lt x y = false) (fun k y hk1 hk2 hy => hmax k y hk1 (by omega) hy) i u h1 (by omega) hu
end
end Go.Proofs.Ytlmdgdehjpahiaa
