/- One more in a list that is in order, as a loop lays it. Plain lists, no program, no condition. -/
import Derived.Test.YtkepgbimlolemaaMot5
set_option linter.unusedVariables false
namespace Go.Proofs.Ytkepgbimlolemaa
section
variable {α : Type} {lt : α → α → Bool}
/-- One more, in its place. -/
def gins (lt : α → α → Bool) (p : α) : List α → List α
  | [] => [p]
  | r :: L => if lt p r then p :: r :: L else r :: gins lt p L
theorem gins_any {p : α} : ∀ {X Y : List α}, X.any (lt p) = true → gins lt p (X ++ Y) = gins lt p X ++ Y
  | [], Y, h => by simp at h
  | r :: X, Y, h => by
    simp only [List.cons_append, gins]
    split
    · rfl
    · rename_i hn
      have : X.any (lt p) = true := by simpa [hn] using h
      rw [gins_any this]; rfl
theorem gins_none {p : α} : ∀ {X Y : List α}, X.any (lt p) = false → gins lt p (X ++ Y) = X ++ gins lt p Y
  | [], Y, h => rfl
  | r :: X, Y, h => by
    simp only [List.any_cons, Bool.or_eq_false_iff] at h
    simp only [List.cons_append, gins, h.1]
    rw [gins_none h.2]; rfl
theorem gins_perm {p : α} : ∀ {L : List α}, (gins lt p L).Perm (p :: L)
  | [] => .refl _
  | r :: L => by
    simp only [gins]
    split
    · exact .refl _
    · exact ((gins_perm (L := L)).cons r).trans (List.Perm.swap p r L)
theorem gins_strict (tr : ∀ x y z, lt x y = true → lt y z = true → lt x z = true) {p : α} : ∀ {L : List α}, (L.Pairwise fun x y => lt x y = true) → (∀ y ∈ L, lt p y = true ∨ lt y p = true) → (gins lt p L).Pairwise fun x y => lt x y = true
  | [], _, _ => by simp [gins]
  | r :: L, h, hp => by
    have h' := List.pairwise_cons.1 h
    simp only [gins]
    split
    · rename_i hlt
      refine List.pairwise_cons.2 ⟨fun x hx => ?_, h⟩
      rcases List.mem_cons.1 hx with rfl | hx
      · exact hlt
      · exact tr _ _ _ hlt (h'.1 x hx)
    · rename_i hlt
      refine List.pairwise_cons.2 ⟨fun x hx => ?_, gins_strict tr h'.2 fun y hy => hp y (by simp [hy])⟩
      rcases List.mem_cons.1 (gins_perm.mem_iff.1 hx) with rfl | hx
      · rcases hp r (by simp) with h2 | h2
        · exact absurd h2 hlt
        · exact h2
      · exact h'.1 x hx
theorem gins_end {p : α} {L : List α} (h : L.any (lt p) = false) : gins lt p L = L ++ [p] := by
  have := gins_none (Y := []) h
  simpa [gins] using this
theorem gins_len {p : α} {L : List α} : (gins lt p L).length = L.length + 1 := by
  simpa using (gins_perm (lt := lt) (p := p) (L := L)).length_eq
/-- What has been laid so far. -/
def gpre (lt : α → α → Bool) (p : α) (X : List α) : List α := if X.any (lt p) then gins lt p X else X
theorem gpre_len {p : α} {X : List α} : (gpre lt p X).length ≤ X.length + 1 := by
  unfold gpre
  split
  · rw [gins_len]; omega
  · omega
def gmid (lt : α → α → Bool) (p : α) (X : List α) (x : α) : List α := gpre lt p X ++ if !X.any (lt p) && lt p x then [p] else []
theorem gany_take {p x : α} {L : List α} {i : Nat} (hx : L[i]? = some x) : (L.take (i + 1)).any (lt p) = ((L.take i).any (lt p) || lt p x) := by
  rw [List.take_add_one, hx]; simp
theorem gmid_next {p x : α} {L : List α} {i : Nat} (hx : L[i]? = some x) : gmid lt p (L.take i) x ++ [x] = gpre lt p (L.take (i + 1)) := by
  have e1 := gany_take (lt := lt) (p := p) hx
  have e0 : L.take (i + 1) = L.take i ++ [x] := by rw [List.take_add_one, hx]; rfl
  unfold gmid gpre
  rw [e1]
  cases h : (L.take i).any (lt p) with
  | true => simp [e0, gins_any h]
  | false =>
    cases h' : lt p x with
    | true => simp [e0, gins_none h, gins, h']
    | false => simp [e0]
theorem gmid_put {p x : α} {L : List α} {i : Nat} (hx : L[i]? = some x) (ha : (!(L.take i).any (lt p)) = true) (hp : lt p x = true) : gmid lt p (L.take i) x = gpre lt p (L.take i) ++ [p] ∧ (L.take (i + 1)).any (lt p) = true := by
  refine ⟨?_, by rw [gany_take hx, hp, Bool.or_true]⟩
  unfold gmid
  rw [ha, hp]; rfl
theorem gmid_not {p x : α} {L : List α} {i : Nat} (hx : L[i]? = some x) (hp : (!(L.take i).any (lt p)) = false ∨ lt p x = false) : gmid lt p (L.take i) x = gpre lt p (L.take i) ∧ (L.take (i + 1)).any (lt p) = (L.take i).any (lt p) := by
  rw [gany_take hx]
  unfold gmid
  rcases hp with h | h
  · have h2 : (L.take i).any (lt p) = true := by simpa using h
    simp [h2]
  · simp [h]
end
end Go.Proofs.Ytkepgbimlolemaa
