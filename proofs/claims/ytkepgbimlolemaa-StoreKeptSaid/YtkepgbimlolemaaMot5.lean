/- The engine, in one of its parts: rules by which functions are walked, over any program. No condition. -/
import Derived.Test.YtkepgbimlolemaaMot3

set_option linter.unusedVariables false
namespace Go.Proofs.Ytkepgbimlolemaa
variable {α : Type}
/-- By exchanges within a piece. -/
inductive RP (a b : Nat) : List α → List α → Prop
  | refl (xs : List α) : RP a b xs xs
  | step {xs ys : List α} {i j : Nat} : RP a b xs ys → a ≤ i → i < b → a ≤ j → j < b → b ≤ ys.length → RP a b xs (swp ys i j)
section
variable {a b a' b' : Nat} {xs ys zs : List α}
theorem RP.length (h : RP a b xs ys) : ys.length = xs.length := by
  induction h with
  | refl => rfl
  | step _ _ _ _ _ _ ih => rw [swp_length, ih]
theorem RP.perm (h : RP a b xs ys) : ys.Perm xs := by
  induction h with
  | refl => exact .refl _
  | step _ _ _ _ _ _ ih => exact swp_perm.trans ih
theorem RP.out (h : RP a b xs ys) {k : Nat} (hk : k < a ∨ b ≤ k) : ys[k]? = xs[k]? := by
  induction h with
  | refl => rfl
  | step _ h1 h2 h3 h4 h5 ih => rw [swp_get (by omega) (by omega), if_neg (by omega), if_neg (by omega), ih]
theorem RP.all (h : RP a b xs ys) {p : α → Prop} (hp : ∀ (k : Nat) (x : α), a ≤ k → k < b → xs[k]? = some x → p x) : ∀ (k : Nat) (x : α), a ≤ k → k < b → ys[k]? = some x → p x := by
  induction h with
  | refl => exact hp
  | step _ h1 h2 h3 h4 h5 ih =>
    intro k x hk1 hk2 hx
    rw [swp_get (by omega) (by omega)] at hx
    split at hx
    · exact ih _ x h1 h2 hx
    · split at hx
      · exact ih _ x h3 h4 hx
      · exact ih k x hk1 hk2 hx
theorem RP.trans (h : RP a b xs ys) (h' : RP a b ys zs) : RP a b xs zs := by
  induction h' with
  | refl => exact h
  | step _ h1 h2 h3 h4 h5 ih => exact .step ih h1 h2 h3 h4 h5
theorem RP.mono (h : RP a b xs ys) (ha : a' ≤ a) (hb : b ≤ b') (hl : b' ≤ xs.length) : RP a' b' xs ys := by
  induction h with
  | refl => exact .refl _
  | step h0 h1 h2 h3 h4 h5 ih => exact .step ih (by omega) (by omega) (by omega) (by omega) (by rw [h0.length]; omega)
theorem RP.one {i j : Nat} (h1 : a ≤ i) (h2 : i < b) (h3 : a ≤ j) (h4 : j < b) (h5 : b ≤ xs.length) : RP a b xs (swp xs i j) := .step (.refl xs) h1 h2 h3 h4 h5
end
section
variable {lt : α → α → Bool} {a b a0 b0 mid : Nat} {xs ys zs : List α}
def SR (lt : α → α → Bool) (xs : List α) (a b : Nat) : Prop := ∀ i j, a ≤ i → i < j → j < b → HEdge lt xs i j
/-- In order but for what is within a piece. -/
def OX (lt : α → α → Bool) (xs : List α) (a0 b0 a b : Nat) : Prop := ∀ i j, a0 ≤ i → i < j → j < b0 → (i < a ∨ b ≤ j) → HEdge lt xs i j
theorem OX.start : OX lt xs a0 b0 a0 b0 := fun i j h1 h2 h3 h4 => by omega
theorem OX.sorted (h : OX lt xs a0 b0 a b) (hs : SR lt xs a b) : SR lt xs a0 b0 := fun i j h1 h2 h3 => by
  by_cases h4 : i < a ∨ b ≤ j
  · exact h i j h1 h2 h3 h4
  · exact hs i j (by omega) h2 (by omega)
theorem OX.rp (h : OX lt xs a0 b0 a b) (hr : RP a b xs ys) (ha : a0 ≤ a) (hb : b ≤ b0) : OX lt ys a0 b0 a b := fun i j h1 h2 h3 h4 x y hx hy => by
  rcases h4 with h4 | h4
  · rw [hr.out (.inl h4)] at hx
    by_cases h5 : j < a ∨ b ≤ j
    · rw [hr.out h5] at hy
      exact h i j h1 h2 h3 (.inl h4) x y hx hy
    · exact hr.all (p := fun y => lt y x = false) (fun k z hk1 hk2 hz => h i k h1 (by omega) (by omega) (.inl h4) x z hx hz) j y (by omega) (by omega) hy
  · rw [hr.out (.inr h4)] at hy
    by_cases h5 : i < a ∨ b ≤ i
    · rw [hr.out h5] at hx
      exact h i j h1 h2 h3 (.inr h4) x y hx hy
    · exact hr.all (p := fun x => lt y x = false) (fun k z hk1 hk2 hz => h k j (by omega) (by omega) h3 (.inr h4) z y hz hy) i x (by omega) (by omega) hx
/-- Parted at a place: what is less ahead, what is not less behind. -/
structure Part (lt : α → α → Bool) (xs : List α) (a mid b : Nat) (p : α) : Prop where
  lo : a ≤ mid
  hi : mid < b
  at_ : xs[mid]? = some p
  left : ∀ (k : Nat) (x : α), a ≤ k → k < mid → xs[k]? = some x → lt x p = true
  right : ∀ (k : Nat) (x : α), mid < k → k < b → xs[k]? = some x → lt x p = false
theorem Part.rpL {p : α} (h : Part lt xs a mid b p) (hr : RP a mid xs ys) : Part lt ys a mid b p :=
  ⟨h.lo, h.hi, by rw [hr.out (.inr (Nat.le_refl _))]; exact h.at_, hr.all h.left, fun k x h1 h2 hx => h.right k x h1 h2 (by rw [← hr.out (.inr (by omega))]; exact hx)⟩
theorem Part.rpR {p : α} (h : Part lt xs a mid b p) (hr : RP (mid + 1) b xs ys) : Part lt ys a mid b p :=
  ⟨h.lo, h.hi, by rw [hr.out (.inl (by omega))]; exact h.at_, fun k x h1 h2 hx => h.left k x h1 h2 (by rw [← hr.out (.inl (by omega))]; exact hx),
    fun k x h1 h2 hx => hr.all (p := fun x => lt x p = false) (fun k x hk1 hk2 => h.right k x (by omega) hk2) k x (by omega) h2 hx⟩
theorem Part.pair (so : SO lt) {p : α} (h : Part lt xs a mid b p) {i j : Nat} (h1 : a ≤ i) (h2 : i < j) (h3 : j < b) (h4 : i ≤ mid) (h5 : mid ≤ j) : HEdge lt xs i j := fun x y hx hy => by
  rcases Nat.lt_or_ge i mid with hi | hi
  · have hxp := h.left i x h1 hi hx
    rcases Nat.lt_or_ge mid j with hj | hj
    · have hyp := h.right j y hj h3 hy
      cases hc : lt y x with
      | false => rfl
      | true => rw [so.tr _ _ _ hc hxp] at hyp; cases hyp
    · have : j = mid := by omega
      subst this
      rw [h.at_] at hy; cases hy
      exact so.asym hxp
  · have : i = mid := by omega
    subst this
    rw [h.at_] at hx; cases hx
    exact h.right j y (by omega) h3 hy
theorem OX.left (so : SO lt) {p : α} (h : OX lt xs a0 b0 a b) (hp : Part lt xs a mid b p) (hr : RP a mid xs ys) (hs : SR lt ys a mid) (ha : a0 ≤ a) (hb : b ≤ b0) (hl : b ≤ xs.length) : OX lt ys a0 b0 (mid + 1) b := fun i j h1 h2 h3 h4 => by
  have ho := h.rp (hr.mono (Nat.le_refl a) (Nat.le_of_lt hp.hi) hl) ha hb
  have hp' := hp.rpL hr
  by_cases h5 : i < a ∨ b ≤ j
  · exact ho i j h1 h2 h3 h5
  · rcases Nat.lt_or_ge j mid with hj | hj
    · exact hs i j (by omega) h2 hj
    · exact hp'.pair so (by omega) h2 (by omega) (by omega) hj
theorem OX.right (so : SO lt) {p : α} (h : OX lt xs a0 b0 a b) (hp : Part lt xs a mid b p) (hr : RP (mid + 1) b xs ys) (hs : SR lt ys (mid + 1) b) (ha : a0 ≤ a) (hb : b ≤ b0) (hl : b ≤ xs.length) : OX lt ys a0 b0 a mid := fun i j h1 h2 h3 h4 => by
  have hlo := hp.lo
  have ho := h.rp (hr.mono (by omega) (Nat.le_refl b) hl) ha hb
  have hp' := hp.rpR hr
  by_cases h5 : i < a ∨ b ≤ j
  · exact ho i j h1 h2 h3 h5
  · rcases Nat.lt_or_ge mid i with hi | hi
    · exact hs i j (by omega) h2 (by omega)
    · exact hp'.pair so (by omega) h2 (by omega) hi (by omega)
/-- Parted at a place: what is alike ahead, what is greater behind. -/
structure PartE (lt : α → α → Bool) (xs : List α) (a mid b : Nat) (p : α) : Prop where
  lo : a < mid
  hi : mid ≤ b
  left : ∀ (k : Nat) (x : α), a ≤ k → k < mid → xs[k]? = some x → lt x p = false ∧ lt p x = false
  right : ∀ (k : Nat) (x : α), mid ≤ k → k < b → xs[k]? = some x → lt p x = true
theorem OX.eqs (so : SO lt) {p : α} (h : OX lt xs a0 b0 a b) (hp : PartE lt xs a mid b p) : OX lt xs a0 b0 mid b := fun i j h1 h2 h3 h4 => by
  by_cases h5 : i < a ∨ b ≤ j
  · exact h i j h1 h2 h3 h5
  · intro x y hx hy
    obtain ⟨e1, e2⟩ := hp.left i x (by omega) (by omega) hx
    rcases Nat.lt_or_ge j mid with hj | hj
    · obtain ⟨e3, e4⟩ := hp.left j y (by omega) hj hy
      exact so.ntr _ _ _ e3 e2
    · have e3 := hp.right j y hj (by omega) hy
      cases hc : lt y x with
      | false => rfl
      | true => rw [so.tr _ _ _ e3 hc] at e2; cases e2
/-- One more, put in its place: the piece is in order but for the place j, which is less than none of those behind it. -/
def Ins (lt : α → α → Bool) (xs : List α) (a j n : Nat) : Prop := ∀ i k, a ≤ i → i < k → k < n → k ≠ j → HEdge lt xs i k
theorem SR.ins (h : SR lt xs a b) : Ins lt xs a b (b + 1) := fun i k h1 h2 h3 h4 => h i k h1 h2 (by omega)
theorem Ins.done (so : SO lt) {j n : Nat} (h : Ins lt xs a j n) (hn : n ≤ xs.length) (hj : j < n) (he : j = a ∨ a < j ∧ HEdge lt xs (j - 1) j) : SR lt xs a n := fun i k h1 h2 h3 => by
  by_cases hk : k = j
  · subst hk
    rcases he with he | ⟨he1, he⟩
    · omega
    · by_cases hi : i = k - 1
      · subst hi; exact he
      · intro x y hx hy
        have hz : xs[k - 1]? = some (xs[k - 1]'(by omega)) := List.getElem?_eq_getElem _
        exact so.ntr _ _ _ (he _ y hz hy) (h i (k - 1) h1 (by omega) (by omega) (by omega) x _ hx hz)
  · exact h i k h1 h2 h3 hk
theorem Ins.step (so : SO lt) {j n : Nat} (h : Ins lt xs a j n) (hn : n ≤ xs.length) (hj : j < n) (ha : a < j) {x y : α} (hx : xs[j]? = some x) (hy : xs[j - 1]? = some y) (hlt : lt x y = true) : Ins lt (swp xs j (j - 1)) a (j - 1) n := fun i k h1 h2 h3 h4 => by
  have g := fun k => swp_get (L := xs) (i := j) (k := j - 1) (by omega) (by omega) k
  by_cases hk : k = j
  · subst hk
    by_cases hi : i = k - 1
    · subst hi
      intro u v hu hv
      rw [g, if_pos rfl, hx] at hu
      rw [g, if_neg (by omega), if_pos rfl, hy] at hv
      cases hu; cases hv
      exact so.asym hlt
    · refine (h i (k - 1) h1 (by omega) (by omega) (by omega)).of_get ?_ ?_
      · rw [g, if_neg hi, if_neg (by omega)]
      · rw [g, if_neg (by omega), if_pos rfl]
  · by_cases hi : i = j
    · subst hi
      refine (h (i - 1) k (by omega) (by omega) h3 hk).of_get ?_ ?_
      · rw [g, if_neg (by omega), if_pos rfl]
      · rw [g, if_neg h4, if_neg hk]
    · by_cases hi2 : i = j - 1
      · subst hi2
        refine (h j k (by omega) (by omega) h3 hk).of_get ?_ ?_
        · rw [g, if_pos rfl]
        · rw [g, if_neg h4, if_neg hk]
      · refine (h i k h1 h2 h3 hk).of_get ?_ ?_
        · rw [g, if_neg hi2, if_neg hi]
        · rw [g, if_neg h4, if_neg hk]
end
end Go.Proofs.Ytkepgbimlolemaa


set_option linter.unusedVariables false
namespace Go.Proofs.Ytkepgbimlolemaa
variable {α : Type}
/-- What a function value answers of two elements. -/
def FnC (P : Program) (f : FuncId) (caps : List Value) (R : Rds) (pk : α → Value) (c : α → α → Int) (ok : α → Prop) : Prop :=
  ∀ x y, ok x → ok y → ∀ R', (∀ b o, R b o → R' b o) → Spec P f ([pk x, pk y] ++ caps) R' [] fun v H' => v = .int .i64 (c x y) ∧ H' = []
theorem FnC.mono {P : Program} {f : FuncId} {caps : List Value} {R R' : Rds} {pk : α → Value} {c : α → α → Int} {ok : α → Prop} (h : FnC P f caps R pk c ok) (hr : ∀ b o, R b o → R' b o) : FnC P f caps R' pk c ok := fun x y hx hy R2 h2 => h x y hx hy R2 fun b o hb => h2 b o (hr b o hb)
def ltc (c : α → α → Int) (x y : α) : Bool := decide (c x y < 0)
def HeapF (lt : α → α → Bool) (L : List α) (n lo : Nat) : Prop := ∀ k, 0 < k → k < n → lo ≤ par k → HEdge lt L (par k) k
structure HoleF (lt : α → α → Bool) (L : List α) (n lo i : Nat) : Prop where
  e : ∀ k, 0 < k → k < n → k ≠ i → par k ≠ i → lo ≤ par k → HEdge lt L (par k) k
  b : ∀ k, 0 < k → k < n → par k = i → 0 < i → lo ≤ par i → HEdge lt L (par i) k
  u : 0 < i → lo ≤ par i → HEdge lt L (par i) i
section
variable {lt : α → α → Bool} {L : List α} {n i j lo : Nat}
theorem HoleF.step (so : SO lt) (h : HoleF lt L n lo i) (hlo : lo ≤ i) (h0 : 0 < j) (hj : j < n) (hn : n ≤ L.length) (hp : par j = i) {x y : α} (hx : L[j]? = some x) (hy : L[i]? = some y) (hlt : lt x y = true)
    (hmin : ∀ c z, 0 < c → c < n → par c = i → L[c]? = some z → lt z x = false) : HoleF lt (swp L i j) n lo j := by
  have hij : i < j := hp ▸ par_lt h0
  have g := fun k => swp_get (L := L) (i := i) (k := j) (by omega) (by omega) k
  refine ⟨fun k hk0 hk hkj hkp hkl => ?_, fun k hk0 hk hkp _ hkl => ?_, fun _ _ => ?_⟩
  · by_cases hki : k = i
    · subst hki
      have hpk := par_lt hk0
      refine (h.b j h0 hj hp hk0 hkl).of_get ?_ ?_
      · rw [g, if_neg (by omega), if_neg (by omega)]
      · rw [g, if_neg hkj, if_pos rfl]
    · by_cases h1 : par k = i
      · intro u v hu hv
        rw [h1, g, if_neg (by omega), if_pos rfl, hx] at hu
        rw [g, if_neg hkj, if_neg hki] at hv
        cases hu
        exact hmin k v hk0 hk h1 hv
      · refine (h.e k hk0 hk hki h1 hkl).of_get ?_ ?_
        · rw [g, if_neg hkp, if_neg h1]
        · rw [g, if_neg hkj, if_neg hki]
  · have hkj : k ≠ j := by have := par_lt hk0; omega
    have hki : k ≠ i := by have := par_lt hk0; omega
    refine (h.e k hk0 hk hki (by omega) (by omega)).of_get ?_ ?_
    · rw [hp, hkp, g, if_neg (by omega), if_pos rfl]
    · rw [g, if_neg hkj, if_neg hki]
  · intro u v hu hv
    rw [hp, g, if_neg (by omega), if_pos rfl, hx] at hu
    rw [g, if_pos rfl, hy] at hv
    cases hu; cases hv
    exact so.asym hlt
theorem HoleF.stop (h : HoleF lt L n lo i) (hc : ∀ c, 0 < c → c < n → par c = i → HEdge lt L i c) : HeapF lt L n lo := fun k hk0 hk hkl => by
  by_cases h1 : par k = i
  · rw [h1]; exact hc k hk0 hk h1
  · by_cases hki : k = i
    · subst hki; exact h.u hk0 hkl
    · exact h.e k hk0 hk hki h1 hkl
theorem HeapF.hole (h : HeapF lt L n (lo + 1)) : HoleF lt L n lo lo :=
  ⟨fun k hk0 hk _ hkp hkl => h k hk0 hk (by omega), fun k _ _ _ h0 hl => by have := par_lt h0; omega, fun h0 hl => by have := par_lt h0; omega⟩
theorem HeapF.hole0 (h : HeapF lt L (n + 1) 0) {L' : List α} (hs : ∀ k, 0 < k → k < n → L'[k]? = L[k]?) : HoleF lt L' n 0 0 :=
  ⟨fun k hk0 hk _ hkp _ => by
    have := par_lt hk0
    exact (h k hk0 (by omega) (Nat.zero_le _)).of_get (hs _ (by omega) (by omega)) (hs _ hk0 hk), fun k _ _ _ h0 _ => by omega, fun h0 _ => by omega⟩
theorem HeapF.top (so : SO lt) (h : HeapF lt L n 0) (hn : n ≤ L.length) {x : α} (hx : L[0]? = some x) : ∀ (k : Nat) (y : α), k < n → L[k]? = some y → lt y x = false := by
  intro k
  induction k using Nat.strongRecOn with
  | _ k ih =>
    intro y hk hy
    by_cases h0 : k = 0
    · subst h0; rw [hx] at hy; cases hy; exact so.irr _
    · have hp := par_lt (k := k) (by omega)
      have h1 : L[par k]? = some (L[par k]'(by omega)) := List.getElem?_eq_getElem _
      exact so.ntr _ _ _ (h k (by omega) hk (Nat.zero_le _) _ y h1 hy) (ih (par k) hp _ (by omega) h1)
theorem SO.rev (so : SO lt) : SO (fun x y => lt y x) := ⟨so.irr, fun x y z h1 h2 => so.tr _ _ _ h2 h1, fun x y z h1 h2 => so.ntr _ _ _ h2 h1⟩
theorem drop_get (xs : List α) (f k : Nat) : (xs.drop f)[k]? = xs[f + k]? := by rw [List.getElem?_drop]
theorem drop_swp {xs : List α} {f i j : Nat} (hi : f + i < xs.length) (hj : f + j < xs.length) : (swp xs (f + i) (f + j)).drop f = swp (xs.drop f) i j := by
  apply List.ext_getElem?
  intro k
  rw [drop_get, swp_get hi hj, swp_get (by rw [List.length_drop]; omega) (by rw [List.length_drop]; omega), drop_get, drop_get, drop_get]
  by_cases h1 : k = j
  · subst h1; simp
  · by_cases h2 : k = i
    · subst h2; simp [h1]
    · rw [if_neg (by omega), if_neg (by omega), if_neg h1, if_neg h2]
/-- The greatest goes to the end of the piece. -/
theorem OX.last {xs : List α} {a0 b0 m : Nat} {x : α} (h : OX lt xs a0 b0 a0 (m + 1)) (ha : a0 ≤ m) (hm : m + 1 ≤ b0) (hb : b0 ≤ xs.length) (hx : xs[a0]? = some x) (hmax : ∀ (k : Nat) (y : α), a0 ≤ k → k ≤ m → xs[k]? = some y → lt x y = false) : OX lt (swp xs a0 m) a0 b0 a0 m := fun i j h1 h2 h3 h4 => by
  have hr : RP a0 (m + 1) xs (swp xs a0 m) := RP.one (Nat.le_refl _) (by omega) ha (by omega) (by omega)
  by_cases hj : m + 1 ≤ j
  · exact h.rp hr (Nat.le_refl _) hm i j h1 h2 h3 (.inr hj)
  · have : j = m := by omega
    subst this
    intro u w hu hw
    rw [swp_get (by omega) (by omega), if_pos rfl, hx] at hw
    cases hw
    exact hr.all (p := fun y => lt x y = false) (fun k y hk1 hk2 hy => hmax k y hk1 (by omega) hy) i u h1 (by omega) hu
end
end Go.Proofs.Ytkepgbimlolemaa


set_option linter.unusedVariables false
namespace Go.Proofs.Ytkepgbimlolemaa
section
variable {P : Program} {R : Rds} {env : Env} {H : Segs} {ty : TypeId} {x y : Operand} {t u : TypeId} {k k2 : IntKind} {m n : Int}
theorem Quiet.andI (hx : ev env x = some (.int k m) := by rfl) (hy : ev env y = some (.int k n) := by rfl) : Quiet P R env H (.binOp .and t x y u) ty (.int k (k.wrap (BitVec.ofInt k.bits m &&& BitVec.ofInt k.bits n).toNat)) := fun a w d pos af g ha _ _ => by
  simp [execOp, ha.eval hx, ha.eval hy, eqGuard, binOp, Op.intBits]
theorem Quiet.orI (hx : ev env x = some (.int k m) := by rfl) (hy : ev env y = some (.int k n) := by rfl) : Quiet P R env H (.binOp .or t x y u) ty (.int k (k.wrap (BitVec.ofInt k.bits m ||| BitVec.ofInt k.bits n).toNat)) := fun a w d pos af g ha _ _ => by
  simp [execOp, ha.eval hx, ha.eval hy, eqGuard, binOp, Op.intBits]
theorem Quiet.xorI (hx : ev env x = some (.int k m) := by rfl) (hy : ev env y = some (.int k n) := by rfl) : Quiet P R env H (.binOp .xor t x y u) ty (.int k (k.wrap (BitVec.ofInt k.bits m ^^^ BitVec.ofInt k.bits n).toNat)) := fun a w d pos af g ha _ _ => by
  simp [execOp, ha.eval hx, ha.eval hy, eqGuard, binOp, Op.intBits]
theorem Quiet.shlI (hx : ev env x = some (.int k m) := by rfl) (hy : ev env y = some (.int k2 n) := by rfl) (hn : 0 ≤ n := by first | decide | omega) : Quiet P R env H (.binOp .shl t x y u) ty (.int k (k.wrap (m * 2 ^ (min n.toNat k.bits)))) := fun a w d pos af g ha _ _ => by
  have h : ¬ n < 0 := by omega
  simp [execOp, ha.eval hx, ha.eval hy, eqGuard, binOp, Op.shift, h]
theorem Quiet.shrI (hx : ev env x = some (.int k m) := by rfl) (hy : ev env y = some (.int k2 n) := by rfl) (hn : 0 ≤ n := by first | decide | omega) : Quiet P R env H (.binOp .shr t x y u) ty (.int k (m.fdiv (2 ^ (min n.toNat k.bits)))) := fun a w d pos af g ha _ _ => by
  have h : ¬ n < 0 := by omega
  simp [execOp, ha.eval hx, ha.eval hy, eqGuard, binOp, Op.shift, h]
end
theorem wrap_u64 (z : Int) : 0 ≤ IntKind.u64.wrap z ∧ IntKind.u64.wrap z < 18446744073709551616 := by
  have : IntKind.u64.wrap z = z % 18446744073709551616 := by simp [IntKind.wrap, IntKind.bits, IntKind.signed]
  rw [this]; omega
theorem wrap_u64_in {z : Int} (h0 : 0 ≤ z) (h1 : z < 18446744073709551616) : IntKind.u64.wrap z = z := by
  have : IntKind.u64.wrap z = z % 18446744073709551616 := by simp [IntKind.wrap, IntKind.bits, IntKind.signed]
  rw [this]; omega
theorem wrap_i64_in {z : Int} (h0 : -9223372036854775808 ≤ z) (h1 : z ≤ 9223372036854775807) : IntKind.i64.wrap z = z := IntWalk.i64_in _ (by omega)
theorem and_le {z q : Int} (h0 : 0 ≤ q) (h1 : q < 18446744073709551616) : 0 ≤ IntKind.u64.wrap (BitVec.ofInt IntKind.u64.bits z &&& BitVec.ofInt IntKind.u64.bits q).toNat ∧ IntKind.u64.wrap (BitVec.ofInt IntKind.u64.bits z &&& BitVec.ofInt IntKind.u64.bits q).toNat ≤ q := by
  have e : (BitVec.ofInt IntKind.u64.bits q).toNat = q.toNat := by
    simp [IntKind.bits, BitVec.toNat_ofInt]; omega
  have h2 : (BitVec.ofInt IntKind.u64.bits z &&& BitVec.ofInt IntKind.u64.bits q).toNat ≤ q.toNat := by
    rw [BitVec.toNat_and, ← e]; exact Nat.and_le_right
  rw [wrap_u64_in (by omega) (by omega)]
  omega
end Go.Proofs.Ytkepgbimlolemaa


set_option linter.unusedVariables false
namespace Go.Proofs.Ytkepgbimlolemaa
variable {α : Type} {lt : α → α → Bool} {a b i j : Nat} {xs ys : List α}
/-- What stands right ahead of a piece is greater than nothing in it. -/
def LB (lt : α → α → Bool) (xs : List α) (a b : Nat) : Prop := 0 < a → ∀ k, a ≤ k → k < b → HEdge lt xs (a - 1) k
theorem LB.rp (h : LB lt xs a b) (hr : RP a b xs ys) : LB lt ys a b := fun h0 k h1 h2 x y hx hy => by
  rw [hr.out (.inl (by omega))] at hx
  exact hr.all (p := fun y => lt y x = false) (fun k y hk1 hk2 hy => h h0 k hk1 hk2 x y hx hy) k y h1 h2 hy
theorem SR.snoc (so : SO lt) (h : SR lt xs a i) (hi : a < i) (hl : i < xs.length) (he : HEdge lt xs (i - 1) i) : SR lt xs a (i + 1) := h.ins.done so (by omega) (by omega) (.inr ⟨hi, he⟩)
theorem SR.swp_out {p q : Nat} (h : SR lt xs a i) (hp : i ≤ p) (hq : i ≤ q) (hp2 : p < xs.length) (hq2 : q < xs.length) : SR lt (swp xs p q) a i := fun u w h1 h2 h3 =>
  (h u w h1 h2 h3).of_get (by rw [swp_get hp2 hq2, if_neg (by omega), if_neg (by omega)]) (by rw [swp_get hp2 hq2, if_neg (by omega), if_neg (by omega)])
theorem SR.swp_last (h : SR lt xs a i) (hi : i < xs.length) : Ins lt (swp xs i (i - 1)) a (i - 1) i := fun u w h1 h2 h3 h4 =>
  (h u w h1 h2 h3).of_get (by rw [swp_get hi (by omega), if_neg (by omega), if_neg (by omega)]) (by rw [swp_get hi (by omega), if_neg (by omega), if_neg (by omega)])
theorem Ins.done' (so : SO lt) {n : Nat} (h : Ins lt xs a j n) (hn : n ≤ xs.length) (hj : j < n) (he : j = a ∨ a < j ∧ HEdge lt xs (j - 1) j) : SR lt xs a n := h.done so hn hj he
theorem OX.lb {a0 b0 : Nat} (h : OX lt xs a0 b0 a b) (hlb : LB lt xs a0 b0) (ha : a0 ≤ a) (hb : b ≤ b0) : LB lt xs a b := fun h0 k h1 h2 => by
  by_cases he : a = a0
  · subst he; exact hlb h0 k h1 (by omega)
  · exact h (a - 1) k (by omega) (by omega) (by omega) (.inl (by omega))
end Go.Proofs.Ytkepgbimlolemaa


set_option linter.unusedVariables false
namespace Go.Proofs.Ytkepgbimlolemaa
section
variable {α : Type} {lt : α → α → Bool} {q : α → Bool} {ys : List α} {a b i j : Nat} {p : α}
structure PQ (q : α → Bool) (ys : List α) (a i j b : Nat) (p : α) : Prop where
  i0 : a < i
  ij : i ≤ j + 1
  jb : j < b
  at_ : ys[a]? = some p
  left : ∀ (k : Nat) (x : α), a < k → k < i → ys[k]? = some x → q x = true
  right : ∀ (k : Nat) (x : α), j < k → k < b → ys[k]? = some x → q x = false
theorem PQ.start (hab : a < b) (h : ys[a]? = some p) : PQ q ys a (a + 1) (b - 1) b p :=
  ⟨Nat.lt_succ_self _, by omega, by omega, h, fun k x h1 h2 => by omega, fun k x h1 h2 => by omega⟩
theorem PQ.inc (h : PQ q ys a i j b p) (hij : i ≤ j) {x : α} (hx : ys[i]? = some x) (hq : q x = true) : PQ q ys a (i + 1) j b p :=
  ⟨by have := h.i0; omega, by omega, h.jb, h.at_, fun k y h1 h2 hy => by
    rcases Nat.lt_or_ge k i with hk | hk
    · exact h.left k y h1 hk hy
    · have : k = i := by omega
      subst this
      rw [hx] at hy; cases hy; exact hq, h.right⟩
theorem PQ.dec (h : PQ q ys a i j b p) (hij : i ≤ j) {x : α} (hx : ys[j]? = some x) (hq : q x = false) : PQ q ys a i (j - 1) b p :=
  ⟨h.i0, by have := h.i0; omega, by have := h.jb; omega, h.at_, h.left, fun k y h1 h2 hy => by
    rcases Nat.lt_or_ge j k with hk | hk
    · exact h.right k y hk h2 hy
    · have : k = j := by omega
      subst this
      rw [hx] at hy; cases hy; exact hq⟩
theorem PQ.sw (h : PQ q ys a i j b p) (hij : i ≤ j) (hl : b ≤ ys.length) {x y : α} (hx : ys[i]? = some x) (hy : ys[j]? = some y) (hqx : q x = false) (hqy : q y = true) : i < j ∧ PQ q (swp ys i j) a (i + 1) (j - 1) b p := by
  have i0 := h.i0
  have jb := h.jb
  have hne : i ≠ j := fun e => by
    subst e
    rw [hx] at hy; cases hy
    rw [hqx] at hqy; cases hqy
  have g := fun k => swp_get (L := ys) (i := i) (k := j) (by omega) (by omega) k
  refine ⟨by omega, by omega, by omega, by omega, ?_, fun k z h1 h2 hz => ?_, fun k z h1 h2 hz => ?_⟩
  · rw [g, if_neg (by omega), if_neg (by omega)]; exact h.at_
  · rw [g, if_neg (by omega)] at hz
    by_cases hk : k = i
    · rw [if_pos hk, hy] at hz; cases hz; exact hqy
    · rw [if_neg hk] at hz; exact h.left k z h1 (by omega) hz
  · rw [g] at hz
    by_cases hk : k = j
    · rw [if_pos hk, hx] at hz; cases hz; exact hqx
    · rw [if_neg hk, if_neg (by omega)] at hz; exact h.right k z (by omega) h2 hz
theorem PQ.fin (h : PQ (fun x => lt x p) ys a i j b p) (hij : j < i) (hl : b ≤ ys.length) : Part lt (swp ys j a) a j b p := by
  have i0 := h.i0
  have ij := h.ij
  have jb := h.jb
  have g := fun k => swp_get (L := ys) (i := j) (k := a) (by omega) (by omega) k
  refine ⟨by omega, jb, ?_, fun k z h1 h2 hz => ?_, fun k z h1 h2 hz => ?_⟩
  · rw [g]
    by_cases hk : j = a
    · rw [if_pos hk, hk]; exact h.at_
    · rw [if_neg hk, if_pos rfl]; exact h.at_
  · rw [g] at hz
    by_cases hk : k = a
    · rw [if_pos hk] at hz
      exact h.left j z (by omega) (by omega) hz
    · rw [if_neg hk, if_neg (by omega)] at hz
      exact h.left k z (by omega) (by omega) hz
  · rw [g, if_neg (by omega), if_neg (by omega)] at hz
    exact h.right k z h1 h2 hz
theorem PQ.finE (so : SO lt) (h : PQ (fun x => !lt p x) ys a i j b p) (hij : j < i) (hlo : ∀ (k : Nat) (x : α), a ≤ k → k < b → ys[k]? = some x → lt x p = false) : PartE lt ys a i b p := by
  have i0 := h.i0
  have ij := h.ij
  have jb := h.jb
  refine ⟨i0, by omega, fun k z h1 h2 hz => ⟨hlo k z h1 (by omega) hz, ?_⟩, fun k z h1 h2 hz => ?_⟩
  · by_cases hk : k = a
    · subst hk
      rw [h.at_] at hz; cases hz; exact so.irr _
    · simpa using h.left k z (by omega) h2 hz
  · simpa using h.right k z (by omega) h2 hz
theorem Part.lb (h : Part lt ys a j b p) : LB lt ys (j + 1) b := fun _ k h1 h2 x y hx hy => by
  rw [Nat.add_sub_cancel, h.at_] at hx
  cases hx
  exact h.right k y h1 h2 hy
theorem LB.less (h : LB lt ys a b) {b' : Nat} (hb : b' ≤ b) : LB lt ys a b' := fun h0 k h1 h2 => h h0 k h1 (by omega)
theorem LB.nol (so : SO lt) (h : LB lt ys a b) (h0 : 0 < a) {x : α} (hx : ys[a - 1]? = some x) (hp : lt x p = false) : ∀ (k : Nat) (y : α), a ≤ k → k < b → ys[k]? = some y → lt y p = false := fun k y h1 h2 hy =>
  so.ntr _ _ _ (h h0 k h1 h2 x y hx hy) hp
end
end Go.Proofs.Ytkepgbimlolemaa


set_option linter.unusedVariables false
namespace Go.Proofs.Ytkepgbimlolemaa
variable {κ β : Type} [DecidableEq κ]

/-- Going through a map: what is still to come, and what has come last. -/
def ItC (Rd : Rds) (encK : κ → Value) (encV : β → Value) (m : Value) (M : List (κ × β)) (it : Value) (todo : List κ) (k : κ) (u : β) (Ti : Seg) : Prop :=
  ∃ (b : Nat) (es : Array MapEntry) (clock r : Nat) (seen : Array Nat) (e : MapEntry), m = .map (some b) ∧ Rd b (.map es clock) ∧ MapOK encK encV es clock M ∧ it = .pointer (some ⟨r, 0, none⟩) ∧ Ti = [(r, .mapIter (some b) clock (seen.push e.born) clock)] ∧ e ∈ es.toList ∧ e.key = encK k ∧ e.val = encV u ∧
    todo = ((es.toList.zip M).filter fun p => !(seen.push e.born).contains p.1.born).map (·.2.1)
omit [DecidableEq κ] in
theorem ItC.it {Rd : Rds} {encK : κ → Value} {encV : β → Value} {m : Value} {M : List (κ × β)} {it : Value} {todo : List κ} {k : κ} {u : β} {Ti : Seg} (h : ItC Rd encK encV m M it todo k u Ti) : It Rd encK encV m M it todo Ti := by
  obtain ⟨b, es, clock, r, seen, e, h1, h2, h3, h4, h5, h6, h7, h8, h9⟩ := h
  exact ⟨b, es, clock, r, seen.push e.born, h1, h2, h3, h4, h5, h9⟩
theorem find_stamp (e : MapEntry) : ∀ (l : List MapEntry), (l.map (·.born)).Nodup → e ∈ l → l.find? (·.born == e.born) = some e
  | [], _, h => by cases h
  | x :: l, hn, h => by
    have hn' := List.nodup_cons.1 hn
    rcases List.mem_cons.1 h with rfl | h
    · simp
    · have : x.born ≠ e.born := fun he => hn'.1 (List.mem_map.2 ⟨e, h, he.symm⟩)
      simp [this, find_stamp e l hn'.2 h]
section
variable {P : Program} {N : Nat} {R : Rds} {ops : Array Oper} {l : List Oper} {env : Env} {H : Segs} {K : Env → Segs → Prop} {ty : TypeId} {pos : String} {af : Array Edge} {m : Bool}
variable {encK : κ → Value} {encV : β → Value} {mp : Value} {M : List (κ × β)} {T : Seg} {upd : Seg → Segs}

/-- The next one, or none. -/
theorem TriOps.nextC {d : Nat} {x : Operand} {Rd : Rds} {it : Value} {todo : List κ} {Ti : Seg} (h : It Rd encK encV mp M it todo Ti) [sa : SegAt H Ti upd] (hrd : ∀ b o, Rd b o → Rx R H b o) (hx : ev env x = some it)
    (h0 : todo = [] → TriOps false P N R ops l ((d, .tuple [.bool false].toArray) :: env) H K)
    (hn : ∀ k u Ti', k ∈ todo → mget k M = some u → ItC Rd encK encV mp M it (todo.filter fun k' => decide (k' ≠ k)) k u Ti' → TriOps false P N R ops l ((d, .tuple [.bool true, encK k, encV u].toArray) :: env) (upd Ti') K) (hd : Nat.blt d N = true := by rfl) :
    TriOps false P N R ops (⟨some d, .next x false, ty, pos, af, none⟩ :: l) env H K :=
  TriOps.eff hd fun a w ha s ro => by
    obtain ⟨b, es, clock, r, seen, rfl, h2, h3, rfl, rfl, h6⟩ := h
    obtain ⟨H1, H2, e1, e2⟩ := sa.h
    have hb := rx_in s ro _ _ (hrd _ _ h2)
    subst e1
    have hr : w.heap[r]? = some (.mapIter (some b) clock seen clock) := s.2 (r, _) (by simp)
    have hgi : (getObj r).run P w = .ok (.mapIter (some b) clock seen clock) w := by simp [getObj, Sem.run, hr]
    have hl := h3.ents.length
    have hbo := h3.born
    -- what may come
    have hleft : es.filter (fun e => !seen.contains e.born) = ((es.toList.filter fun e => !seen.contains e.born)).toArray := by
      apply Array.toList_inj.1; rw [Array.toList_filter]
    have htodo : (es.toList.filter fun e => !seen.contains e.born).length = todo.length := by
      rw [h6, List.length_map]
      have : ((es.toList.zip M).filter fun p => !seen.contains p.1.born).length = (((es.toList.zip M).map (·.1)).filter fun e => !seen.contains e.born).length := by
        rw [List.filter_map, List.length_map]; rfl
      rw [this, List.map_fst_zip (by omega)]
    have hguard : (!seen.isEmpty && !es.isEmpty && es.all (fun e => decide (e.born ≥ clock))) = false := by
      cases hes : es.toList with
      | nil =>
        have : es = #[] := by simpa using hes
        simp [this]
      | cons e rest =>
        have h1 := hbo e (by rw [hes]; simp)
        have : es.all (fun e => decide (e.born ≥ clock)) = false := by
          rw [← Array.all_toList, hes]
          simp; omega
        rw [this, Bool.and_false]
    have hold : (es.filter fun e => !seen.contains e.born).filter (fun e => decide (e.born < clock)) = es.filter fun e => !seen.contains e.born := by
      rw [Array.filter_eq_self]
      intro e he
      have := hbo e (by simpa using (Array.mem_filter.1 he).1)
      simpa using this
    have hnew : (es.filter fun e => !seen.contains e.born).filter (fun e => decide (e.born ≥ clock)) = #[] := by
      rw [Array.filter_eq_empty_iff]
      intro e he
      have := hbo e (by simpa using (Array.mem_filter.1 he).1)
      simpa using this
    by_cases ht : todo = []
    · refine ⟨.tuple #[.bool false], w, _, ?_, Frame.refl _ _, s, h0 ht⟩
      have he : es.filter (fun e => !seen.contains e.born) = #[] := by
        rw [hleft]
        have : (es.toList.filter fun e => !seen.contains e.born) = [] := List.eq_nil_of_length_eq_zero (by rw [htodo, ht]; rfl)
        rw [this]
      have hc : (choose (.mapNext 1)).run P w = .ok 0 w := by simp [choose, Sem.run, Question.forced]
      simp only [execOp, ha.eval hx, Instr.next, Sem.run_bind, hgi, run_getMap hb, Result.andThen_ok, hguard, Bool.false_eq_true, if_false, he]
      simp [hc]
    · have hne : (es.filter fun e => !seen.contains e.born).isEmpty = false := by
        rw [hleft]
        cases hf : (es.toList.filter fun e => !seen.contains e.born) with
        | nil => rw [hf] at htodo; exact absurd (List.eq_nil_of_length_eq_zero htodo.symm) ht
        | cons _ _ => rfl
      have hpos : 0 < todo.length := List.length_pos_iff.2 ht
      have hsz : (es.filter fun e => !seen.contains e.born).size = todo.length := by rw [hleft]; simpa using htodo
      obtain ⟨n, w1, hc, hlt, hw1⟩ : ∃ n w1, (choose (.mapNext todo.length)).run P w = .ok n w1 ∧ n < todo.length ∧ ∃ q, w1 = { w with drawn := q } := by
        by_cases h1 : todo.length ≤ 1
        · exact ⟨0, w, by simp [choose, Sem.run, Question.forced, h1], hpos, w.drawn, rfl⟩
        · exact ⟨_, _, by simp only [choose, Sem.run, Question.forced, h1, decide_false, Bool.false_eq_true, if_false]; rfl, by simp only [Question.cut]; exact Nat.mod_lt _ hpos, _, rfl⟩
      obtain ⟨q, rfl⟩ := hw1
      have hn' : n < (es.toList.filter fun e => !seen.contains e.born).length := by rw [htodo]; exact hlt
      generalize he : (es.toList.filter fun e => !seen.contains e.born)[n] = e
      have hem : e ∈ es.toList.filter fun e => !seen.contains e.born := he ▸ List.getElem_mem hn'
      obtain ⟨hes, hns⟩ := List.mem_filter.1 hem
      obtain ⟨j, hj, hje⟩ := List.mem_iff_getElem.1 hes
      have hjM : j < M.length := by omega
      have hpair : (e.key, e.val) = (encK M[j].1, encV M[j].2) := by
        have := congrArg (fun l : List (Value × Value) => l[j]?) h3.ents
        simp only [List.getElem?_map, List.getElem?_eq_getElem hj, List.getElem?_eq_getElem hjM, Option.map_some, Option.some.injEq, hje] at this
        exact this
      injection hpair with hp1 hp2
      have hzip : (e, M[j]) ∈ es.toList.zip M := by
        refine List.mem_iff_getElem.2 ⟨j, by rw [List.length_zip]; omega, ?_⟩
        simp only [List.getElem_zip, hje]
      have hkt : M[j].1 ∈ todo := by
        rw [h6]
        exact List.mem_map.2 ⟨(e, M[j]), List.mem_filter.2 ⟨hzip, hns⟩, rfl⟩
      have hget : mget M[j].1 M = some M[j].2 := mget_of_mem h3.nd (List.getElem_mem hjM)
      have hrun : (execOp a.eval ⟨some d, .next x false, ty, pos, af, none⟩).run P w = .ok (.value (.tuple #[.bool true, e.key, e.val])) (setO { w with drawn := q } r (.mapIter (some b) clock (seen.push e.born) clock)) := by
        have hcand : ∀ (A : Array MapEntry), A.isEmpty = false → (if A.isEmpty = true then #[none] else #[]) ++ (A ++ #[]).map some = A.map some := fun A hA => by simp [hA]
        have hget2 : ((es.filter fun e => !seen.contains e.born).map some)[n]? = some (some e) := by
          rw [hleft]
          simp only [List.map_toArray, List.getElem?_toArray, List.getElem?_map, List.getElem?_eq_getElem hn', he, Option.map_some]
        have hset : (setObj r (.mapIter (some b) clock (seen.push e.born) clock)).run P { w with drawn := q } = .ok () (setO { w with drawn := q } r (.mapIter (some b) clock (seen.push e.born) clock)) := by
          have : ({ w with drawn := q } : World).heap[r]? = some (.mapIter (some b) clock seen clock) := hr
          simp [setObj, Sem.run, this, setO]
        simp only [execOp, ha.eval hx, Instr.next, Sem.run_bind, hgi, run_getMap hb, Result.andThen_ok, hguard, Bool.false_eq_true, if_false, hold, hnew]
        rw [hcand _ hne]
        simp only [Array.size_map, hsz, hc, Result.andThen_ok, hget2, Sem.run_bind, hset, Sem.run_pure]
      obtain ⟨f, s'⟩ := setO_seg (w := { w with drawn := q }) (o' := .mapIter (some b) clock (seen.push e.born) clock) (s.drew q)
      refine ⟨_, _, upd [(r, .mapIter (some b) clock (seen.push e.born) clock)], hrun, by rw [e2]; exact (Frame.drew w _ q).trans f, by rw [e2]; exact s', ?_⟩
      rw [hp1, hp2]
      refine hn M[j].1 M[j].2 _ hkt hget ⟨b, es, clock, r, seen, e, rfl, h2, h3, rfl, rfl, hes, hp1, hp2, ?_⟩
      rw [h6]
      -- the one that came is no more to come, all others are
      have key : ∀ (l : List (MapEntry × (κ × β))), (∀ p ∈ l, (p.1.born = e.born ↔ p.2.1 = M[j].1)) →
          ((l.filter fun p => !seen.contains p.1.born).map (·.2.1)).filter (fun k' => decide (k' ≠ M[j].1)) = (l.filter fun p => !(seen.push e.born).contains p.1.born).map (·.2.1) := by
        intro l
        induction l with
        | nil => intro _; rfl
        | cons p l ih =>
          intro hp
          have h1 := hp p (by simp)
          have h2 := ih fun q hq => hp q (by simp [hq])
          simp only [Array.contains_push] at h2
          simp only [List.filter_cons, Array.contains_push]
          by_cases hc : seen.contains p.1.born = true
          · simp only [hc, Bool.not_true, Bool.false_eq_true, if_false, Bool.true_or]; exact h2
          · simp only [Bool.not_eq_true] at hc
            simp only [hc, Bool.not_false, if_true, Bool.false_or, List.map_cons, List.filter_cons]
            by_cases hb : p.1.born = e.born
            · have := h1.1 hb
              simp only [this, ne_eq, not_true, decide_false, Bool.false_eq_true, if_false, hb, beq_self_eq_true, Bool.not_true]; simpa only [ne_eq] using h2
            · have hk : ¬ p.2.1 = M[j].1 := fun hk => hb (h1.2 hk)
              have hb' : (p.1.born == e.born) = false := by simpa using hb
              simp only [hk, ne_eq, not_false_eq_true, decide_true, if_true, hb', Bool.not_false, List.map_cons]
              exact congrArg _ (by simpa only [ne_eq] using h2)
      refine key _ fun p hp => ?_
      obtain ⟨i, hi, hpi⟩ := List.mem_iff_getElem.1 hp
      have hi' : i < es.toList.length := by simp only [List.length_zip] at hi; omega
      have hiM : i < M.length := by omega
      rw [List.getElem_zip] at hpi
      subst hpi
      simp only
      constructor
      · intro hb
        have : i = j := (List.getElem_inj (h := h3.bnd) (i := i) (j := j) (h₀ := by simpa using hi') (h₁ := by simpa using hj)).1 (by rw [List.getElem_map, List.getElem_map, hb, hje])
        subst this; rfl
      · intro hk
        have : i = j := (List.getElem_inj (h := h3.nd) (i := i) (j := j) (h₀ := by simpa using hiM) (h₁ := by simpa using hjM)).1 (by rw [List.getElem_map, List.getElem_map]; exact hk)
        subst this; rw [hje]
omit [DecidableEq κ] in
/-- The entry that has come. -/
theorem Quiet.entry {x : Operand} {Rd : Rds} {it : Value} {todo : List κ} {k : κ} {u : β} {Ti : Seg} (h : ItC Rd encK encV mp M it todo k u Ti) [sa : SegAt H Ti upd] (hrd : ∀ b o, Rd b o → Rx R H b o) (hx : ev env x = some it) :
    Quiet P R env H (.entry x) ty (.tuple [encK k, encV u].toArray) := fun a w d pos af g ha s ro => by
  obtain ⟨b, es, clock, r, seen, e, rfl, h2, h3, rfl, rfl, h6, h7, h8, h9⟩ := h
  obtain ⟨H1, H2, e1, e2⟩ := sa.h
  have hb := rx_in s ro _ _ (hrd _ _ h2)
  subst e1
  have hr : w.heap[r]? = some (.mapIter (some b) clock (seen.push e.born) clock) := s.2 (r, _) (by simp)
  have hf : es.find? (·.born == e.born) = some e := by rw [← Array.find?_toList]; exact find_stamp e es.toList h3.bnd h6
  rw [← h7, ← h8]
  simp only [execOp, ha.eval hx, Instr.entry, getObj, Sem.run_bind, Sem.run, hr, hb, Result.andThen, Array.back?_push, bne_self_eq_false, Bool.false_eq_true, if_false, hf]
  rfl

theorem SegAt.same {H : Segs} {T : Seg} {upd : Seg → Segs} (s : SegAt H T upd) : upd T = H := by
  obtain ⟨H1, H2, h1, h2⟩ := s.h
  rw [h2, h1]
/-- The next one, or none, as one way. -/
theorem TriOps.nextB {d : Nat} {x : Operand} {Rd : Rds} {it : Value} {todo : List κ} {Ti : Seg} (h : It Rd encK encV mp M it todo Ti) [sa : SegAt H Ti upd] (hrd : ∀ b o, Rd b o → Rx R H b o) (hx : ev env x = some it)
    (hn : ∀ (b : Bool) (rest : List Value) (Ti' : Seg), (b = false → todo = []) → (b = true → ∃ k u, k ∈ todo ∧ mget k M = some u ∧ ItC Rd encK encV mp M it (todo.filter fun k' => decide (k' ≠ k)) k u Ti') → TriOps false P N R ops l ((d, .tuple (.bool b :: rest).toArray) :: env) (upd Ti') K) (hd : Nat.blt d N = true := by rfl) :
    TriOps false P N R ops (⟨some d, .next x false, ty, pos, af, none⟩ :: l) env H K :=
  TriOps.nextC h hrd hx
    (fun h0 => by
      have := hn false [] Ti (fun _ => h0) (fun hb => by cases hb)
      rw [sa.same] at this
      exact this)
    (fun k u Ti' hk hu hc => hn true [encK k, encV u] Ti' (fun hb => by cases hb) (fun _ => ⟨k, u, hk, hu, hc⟩)) hd
end
theorem sg_left {A B : Seg} {b : Nat} {o : Obj} (h : sg A b o) : sg (A ++ B) b o := List.mem_append_left B h
theorem sg_right {A B : Seg} {b : Nat} {o : Obj} (h : sg B b o) : sg (A ++ B) b o := List.mem_append_right A h
theorem SR.ordered {α : Type} {lt : α → α → Bool} {ys : List α} (h : SR lt ys 0 ys.length) : ys.Pairwise fun p r => lt r p = false := by
  rw [List.pairwise_iff_getElem]
  intro i j hi hj hij
  exact h i j (Nat.zero_le _) hij hj _ _ (List.getElem?_eq_getElem hi) (List.getElem?_eq_getElem hj)
theorem RA.takeFh {P : Program} {N : Nat} {R : Rds} {ops : Array Oper} {env : Env} {H Ho : Segs} {Ms : List Nat} {K : Env → Segs → Prop} {done : List Nat} {d j t : Nat} {want b c : Bool} {op : Op} {ty : TypeId} {pos : String} {af : Array Edge} (i : Nat) (hi : ops[i]? = some ⟨some d, op, ty, pos, af, some (j, want)⟩) (hv : Env.get? env t = some (.bool b)) (hb : b = c) (hw : (c == want) = false)
    (hc : tk false ops Ms done i = true) (hn : RA P N R ops Ho Ms (i :: done) ((d, undef) :: env) H K) (hj : gdst ops j = some t := by rfl) (hd : Nat.blt d N = true := by rfl) : RA P N R ops Ho Ms done env H K :=
  RA.takeF i hi hv (by rw [hb]; exact hw) hc hn hj hd
end Go.Proofs.Ytkepgbimlolemaa
