/- The engine, part 16: two places of a list change hands; the order of a heap: plain lists, no program, no condition. -/
import Derived.Test.YtlmdgdehjpahiaaEngI
set_option linter.unusedVariables false
namespace Go.Proofs.Ytlmdgdehjpahiaa
variable {α : Type}
/-- Two places change hands. -/
def swp (L : List α) (i k : Nat) : List α := match L[i]?, L[k]? with
  | some x, some y => (L.set i y).set k x
  | _, _ => L
theorem swp_eq {L : List α} {i k : Nat} {x y : α} (h1 : L[i]? = some x) (h2 : L[k]? = some y) : swp L i k = (L.set i y).set k x := by simp [swp, h1, h2]
theorem swp_length {L : List α} {i k : Nat} : (swp L i k).length = L.length := by
  unfold swp; split <;> simp
theorem swp_get {L : List α} {i k : Nat} (hi : i < L.length) (hk : k < L.length) (j : Nat) : (swp L i k)[j]? = if j = k then L[i]? else if j = i then L[k]? else L[j]? := by
  rw [swp_eq (List.getElem?_eq_getElem hi) (List.getElem?_eq_getElem hk), List.getElem?_set, List.getElem?_set]
  by_cases h1 : k = j
  · subst h1; simp [hk, List.getElem?_eq_getElem hi]
  · by_cases h2 : i = j
    · subst h2
      simp [h1, Ne.symm h1, hi, List.getElem?_eq_getElem hk]
    · simp [h1, h2, Ne.symm h1, Ne.symm h2]
theorem swp_perm {L : List α} {i k : Nat} : (swp L i k).Perm L := by
  unfold swp
  split
  · rename_i x y h1 h2
    obtain ⟨hi, rfl⟩ := List.getElem?_eq_some_iff.1 h1
    obtain ⟨hk, rfl⟩ := List.getElem?_eq_some_iff.1 h2
    exact List.set_set_perm hi hk
  · exact .refl _
theorem swp_same {L : List α} {i : Nat} : swp L i i = L := by
  unfold swp
  split
  · rename_i x y h1 h2
    rw [h1] at h2; cases h2
    obtain ⟨hi, rfl⟩ := List.getElem?_eq_some_iff.1 h1
    simp
  · rfl

/-- A strict order in which being alike goes over. -/
structure SO (lt : α → α → Bool) : Prop where
  irr : ∀ x, lt x x = false
  tr : ∀ x y z, lt x y = true → lt y z = true → lt x z = true
  ntr : ∀ x y z, lt x y = false → lt y z = false → lt x z = false
theorem SO.asym {lt : α → α → Bool} (h : SO lt) {x y : α} (hx : lt x y = true) : lt y x = false := by
  cases hy : lt y x with
  | false => rfl
  | true => have := h.tr _ _ _ hx hy; rw [h.irr] at this; cases this

def par (k : Nat) : Nat := (k - 1) / 2
def HEdge (lt : α → α → Bool) (L : List α) (a k : Nat) : Prop := ∀ x y, L[a]? = some x → L[k]? = some y → lt y x = false
def Heap (lt : α → α → Bool) (L : List α) (n : Nat) : Prop := ∀ k, 0 < k → k < n → HEdge lt L (par k) k
structure Up (lt : α → α → Bool) (L : List α) (n j : Nat) : Prop where
  e : ∀ k, 0 < k → k < n → k ≠ j → HEdge lt L (par k) k
  b : ∀ k, 0 < k → k < n → par k = j → 0 < j → HEdge lt L (par j) k
structure Hole (lt : α → α → Bool) (L : List α) (n i : Nat) : Prop where
  e : ∀ k, 0 < k → k < n → k ≠ i → par k ≠ i → HEdge lt L (par k) k
  b : ∀ k, 0 < k → k < n → par k = i → 0 < i → HEdge lt L (par i) k
theorem par_lt {k : Nat} (h : 0 < k) : par k < k := by unfold par; omega
section
variable {lt : α → α → Bool} {L : List α} {n i j : Nat}
theorem Up.stop0 (h : Up lt L n 0) : Heap lt L n := fun k h0 hk => h.e k h0 hk (by omega)
theorem Up.stop (h : Up lt L n j) (he : HEdge lt L (par j) j) : Heap lt L n := fun k h0 hk => by
  by_cases hkj : k = j
  · subst hkj; exact he
  · exact h.e k h0 hk hkj
theorem HEdge.of_get {L' : List α} {a k a' k' : Nat} (h : HEdge lt L a k) (h1 : L'[a']? = L[a]?) (h2 : L'[k']? = L[k]?) : HEdge lt L' a' k' := fun x y hx hy => h x y (h1 ▸ hx) (h2 ▸ hy)
theorem Up.step (so : SO lt) (h : Up lt L n j) (h0 : 0 < j) (hj : j < n) (hn : n ≤ L.length) {x y : α} (hx : L[j]? = some x) (hy : L[par j]? = some y) (hlt : lt x y = true) : Up lt (swp L (par j) j) n (par j) := by
  have hp := par_lt h0
  have g := fun k => swp_get (L := L) (i := par j) (k := j) (by omega) (by omega) k
  refine ⟨fun k hk0 hk hkp => ?_, fun k hk0 hk hkp hp0 => ?_⟩
  · by_cases hkj : k = j
    · subst hkj
      intro u v hu hv
      rw [g, if_neg (by omega), if_pos rfl, hx] at hu
      rw [g, if_pos rfl, hy] at hv
      cases hu; cases hv
      exact so.asym hlt
    · by_cases h1 : par k = par j
      · intro u v hu hv
        rw [h1, g, if_neg (by omega), if_pos rfl, hx] at hu
        rw [g, if_neg hkj, if_neg hkp] at hv
        cases hu
        have e1 := h.e k hk0 hk hkj y v (by rw [h1]; exact hy) hv
        cases hc : lt v x with
        | false => rfl
        | true => rw [so.tr _ _ _ hc hlt] at e1; cases e1
      · by_cases h2 : par k = j
        · refine (h.b k hk0 hk h2 h0).of_get ?_ ?_
          · rw [h2, g, if_pos rfl]
          · rw [g, if_neg hkj, if_neg hkp]
        · refine (h.e k hk0 hk hkj).of_get ?_ ?_
          · rw [g, if_neg h2, if_neg h1]
          · rw [g, if_neg hkj, if_neg hkp]
  · have hpp := par_lt hp0
    have e0 := h.e (par j) hp0 (by omega) (by omega)
    by_cases hkj : k = j
    · subst hkj
      refine e0.of_get ?_ ?_
      · rw [g, if_neg (by omega), if_neg (by omega)]
      · rw [g, if_pos rfl]
    · have hkpj : k ≠ par j := by have := par_lt hk0; omega
      intro u v hu hv
      rw [g, if_neg (by omega), if_neg (by omega)] at hu
      rw [g, if_neg hkj, if_neg hkpj] at hv
      exact so.ntr _ _ _ (h.e k hk0 hk hkj y v (by rw [hkp]; exact hy) hv) (e0 u y hu hy)
theorem Hole.step (so : SO lt) (h : Hole lt L n i) (h0 : 0 < j) (hj : j < n) (hn : n ≤ L.length) (hp : par j = i) {x y : α} (hx : L[j]? = some x) (hy : L[i]? = some y) (hlt : lt x y = true)
    (hmin : ∀ c z, 0 < c → c < n → par c = i → L[c]? = some z → lt z x = false) : Hole lt (swp L i j) n j ∧ HEdge lt (swp L i j) (par j) j := by
  have hij : i < j := hp ▸ par_lt h0
  have g := fun k => swp_get (L := L) (i := i) (k := j) (by omega) (by omega) k
  refine ⟨⟨fun k hk0 hk hkj hkp => ?_, fun k hk0 hk hkp _ => ?_⟩, ?_⟩
  · by_cases hki : k = i
    · subst hki
      have hpk := par_lt hk0
      refine (h.b j h0 hj hp hk0).of_get ?_ ?_
      · rw [g, if_neg (by omega), if_neg (by omega)]
      · rw [g, if_neg hkj, if_pos rfl]
    · by_cases h1 : par k = i
      · intro u v hu hv
        rw [h1, g, if_neg (by omega), if_pos rfl, hx] at hu
        rw [g, if_neg hkj, if_neg hki] at hv
        cases hu
        exact hmin k v hk0 hk h1 hv
      · refine (h.e k hk0 hk hki h1).of_get ?_ ?_
        · rw [g, if_neg hkp, if_neg h1]
        · rw [g, if_neg hkj, if_neg hki]
  · have hkj : k ≠ j := by have := par_lt hk0; omega
    have hki : k ≠ i := by have := par_lt hk0; omega
    refine (h.e k hk0 hk hki (by omega)).of_get ?_ ?_
    · rw [hp, hkp, g, if_neg (by omega), if_pos rfl]
    · rw [g, if_neg hkj, if_neg hki]
  · intro u v hu hv
    rw [hp, g, if_neg (by omega), if_pos rfl, hx] at hu
    rw [g, if_pos rfl, hy] at hv
    cases hu; cases hv
    exact so.asym hlt
theorem Hole.stop (h : Hole lt L n i) (hc : ∀ c, 0 < c → c < n → par c = i → HEdge lt L i c) : Up lt L n i :=
  ⟨fun k hk0 hk hki => by
    by_cases h1 : par k = i
    · rw [h1]; exact hc k hk0 hk h1
    · exact h.e k hk0 hk hki h1, h.b⟩
theorem Heap.hole (so : SO lt) (h : Heap lt L n) (hn : n ≤ L.length) {L' : List α} (hs : ∀ k, k < n → k ≠ i → L'[k]? = L[k]?) : Hole lt L' n i := by
  refine ⟨fun k hk0 hk hki hkp => ?_, fun k hk0 hk hkp hi0 => ?_⟩
  · have := par_lt hk0
    exact (h k hk0 hk).of_get (hs _ (by omega) hkp) (hs _ hk hki)
  · have h1 := par_lt hk0
    have h2 := par_lt hi0
    intro u v hu hv
    rw [hs _ (by omega) (by omega)] at hu
    rw [hs _ hk (by omega)] at hv
    have hi : L[i]? = some (L[i]'(by omega)) := List.getElem?_eq_getElem _
    exact so.ntr _ _ _ (h k hk0 hk _ v (by rw [hkp]; exact hi) hv) (h i hi0 (by omega) u _ hu hi)
theorem Heap.push (h : Heap lt L L.length) (x : α) : Up lt (L ++ [x]) (L.length + 1) L.length := by
  refine ⟨fun k hk0 hk hkn => ?_, fun k hk0 hk hkp _ => ?_⟩
  · have h1 := par_lt hk0
    refine (h k hk0 (by omega)).of_get ?_ ?_ <;> rw [List.getElem?_append_left (by omega)]
  · have h1 := par_lt hk0
    omega
theorem Heap.mono {m : Nat} (h : Heap lt L n) (hm : m ≤ n) : Heap lt L m := fun k h0 hk => h k h0 (by omega)
theorem Heap.of_get {L' : List α} (h : Heap lt L n) (hs : ∀ k, k < n → L'[k]? = L[k]?) : Heap lt L' n := fun k h0 hk => by
  have := par_lt h0
  exact (h k h0 hk).of_get (hs _ (by omega)) (hs _ hk)
/-- The first is least. -/
theorem Heap.least (so : SO lt) (h : Heap lt L L.length) {x : α} (hx : L[0]? = some x) : ∀ (k : Nat) (y : α), L[k]? = some y → lt y x = false := by
  intro k
  induction k using Nat.strongRecOn with
  | _ k ih =>
    intro y hy
    by_cases h0 : k = 0
    · subst h0; rw [hx] at hy; cases hy; exact so.irr _
    · have hp := par_lt (k := k) (by omega)
      have hk := (List.getElem?_eq_some_iff.1 hy).1
      have h1 : L[par k]? = some (L[par k]'(by omega)) := List.getElem?_eq_getElem _
      exact so.ntr _ _ _ (h k (by omega) hk _ y h1 hy) (ih (par k) hp _ h1)
end
end Go.Proofs.Ytlmdgdehjpahiaa
