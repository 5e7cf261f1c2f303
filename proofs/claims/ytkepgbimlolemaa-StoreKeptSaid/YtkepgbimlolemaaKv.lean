/- Keys with their times, as plain lists: what Set, Drop and At do. No program, no condition. -/
import Derived.Test.YtkepgbimlolemaaBase
set_option linter.unusedVariables false
namespace Go.Proofs.Ytkepgbimlolemaa
section
variable {κ β : Type} [DecidableEq κ]
def kdel (k : κ) (A : List (κ × β)) : List (κ × β) := A.filter fun p => decide (p.1 ≠ k)
def kset (k : κ) (x : β) (A : List (κ × β)) : List (κ × β) := kdel k A ++ [(k, x)]
theorem kdel_perm {k : κ} {A B : List (κ × β)} (h : A.Perm B) : (kdel k A).Perm (kdel k B) := h.filter _
theorem kset_perm {k : κ} {x : β} {A B : List (κ × β)} (h : A.Perm B) : (kset k x A).Perm (kset k x B) := (kdel_perm h).append_right _
theorem kdel_none {k : κ} {A : List (κ × β)} (h : k ∉ A.map (·.1)) : kdel k A = A := by
  unfold kdel
  rw [List.filter_eq_self]
  intro p hp
  simp only [decide_eq_true_eq]
  exact fun e => h (e ▸ List.mem_map_of_mem hp)
theorem kdel_cons {k : κ} {x : β} {A : List (κ × β)} (h : k ∉ A.map (·.1)) : kdel k ((k, x) :: A) = A := by
  have := kdel_none h
  unfold kdel at *
  rw [List.filter_cons, if_neg (by simp)]
  exact this
theorem kdel_mid {k : κ} {x : β} {A B : List (κ × β)} (hn : ((A ++ (k, x) :: B).map (·.1)).Nodup) : kdel k (A ++ (k, x) :: B) = A ++ B := by
  simp only [List.map_append, List.map_cons, List.nodup_append, List.nodup_cons, List.mem_cons] at hn
  obtain ⟨_, ⟨h2, _⟩, h3⟩ := hn
  have e1 : kdel k A = A := kdel_none fun hm => h3 k hm k (.inl rfl) rfl
  have e2 : kdel k ((k, x) :: B) = B := kdel_cons h2
  unfold kdel at *
  rw [List.filter_append, e1, e2]
theorem kset_mid {k : κ} {x x' : β} {A B : List (κ × β)} (hn : ((A ++ (k, x) :: B).map (·.1)).Nodup) : (A ++ (k, x') :: B).Perm (kset k x' (A ++ (k, x) :: B)) := by
  unfold kset
  rw [kdel_mid hn]
  have h1 : (A ++ (k, x') :: B).Perm ((k, x') :: (A ++ B)) := List.perm_middle
  have h2 : ((A ++ B) ++ [(k, x')]).Perm ((k, x') :: (A ++ B)) := by simpa using (List.perm_middle (a := (k, x')) (l₁ := A ++ B) (l₂ := []))
  exact h1.trans h2.symm
theorem mdel_kdel {k : κ} : ∀ {M : List (κ × β)}, (M.map (·.1)).Nodup → mdel k M = kdel k M
  | [], _ => rfl
  | (k', y) :: r, hn => by
    simp only [List.map_cons, List.nodup_cons] at hn
    simp only [mdel]
    split
    · rename_i he; subst he; exact (kdel_cons hn.1).symm
    · rename_i he
      rw [mdel_kdel hn.2]
      simp [kdel, Ne.symm he]
theorem mget_perm {k : κ} {A B : List (κ × β)} (h : A.Perm B) (hn : (A.map (·.1)).Nodup) : mget k A = mget k B := by
  have hn' : (B.map (·.1)).Nodup := (h.map (·.1)).nodup_iff.1 hn
  cases h1 : mget k A with
  | some x => exact (mget_of_mem hn' (h.mem_iff.1 (mget_some h1))).symm
  | none =>
    rw [mget_none] at h1
    refine (mget_none.2 fun hm => h1 ?_).symm
    exact (h.map (·.1)).mem_iff.2 hm
theorem kset_nodup {k : κ} {x : β} {A : List (κ × β)} (hn : (A.map (·.1)).Nodup) : ((kset k x A).map (·.1)).Nodup := by
  unfold kset kdel
  rw [List.map_append, List.nodup_append]
  refine ⟨hn.sublist (List.filter_sublist.map _), by simp, fun a ha b hb => ?_⟩
  simp only [List.map_cons, List.map_nil, List.mem_singleton] at hb
  subst hb
  obtain ⟨p, hp, rfl⟩ := List.mem_map.1 ha
  simpa using (List.mem_filter.1 hp).2
theorem kdel_nodup {k : κ} {A : List (κ × β)} (hn : (A.map (·.1)).Nodup) : ((kdel k A).map (·.1)).Nodup := hn.sublist (List.filter_sublist.map _)
theorem mget_append {k : κ} {A B : List (κ × β)} : mget k (A ++ B) = (mget k A).or (mget k B) := by
  induction A with
  | nil => simp [mget]
  | cons p A ih =>
    obtain ⟨k', y⟩ := p
    simp only [List.cons_append, mget]
    split
    · rfl
    · exact ih
theorem mget_kdel {k k' : κ} {A : List (κ × β)} : mget k' (kdel k A) = if k' = k then none else mget k' A := by
  induction A with
  | nil => simp [kdel, mget]
  | cons p A ih =>
    obtain ⟨k1, y⟩ := p
    unfold kdel at ih ⊢
    by_cases h : k1 = k
    · subst h
      simp only [List.filter_cons, ne_eq, not_true, decide_false, Bool.false_eq_true, if_false, ih, mget]
      split
      · rfl
      · rfl
    · simp only [List.filter_cons, ne_eq, h, not_false_eq_true, decide_true, if_true, mget, ih]
      split
      · rename_i e; subst e; simp [h]
      · rfl
theorem mget_kset {k k' : κ} {x : β} {A : List (κ × β)} : mget k' (kset k x A) = if k' = k then some x else mget k' A := by
  unfold kset
  rw [mget_append, mget_kdel]
  split
  · rename_i e; subst e; simp [mget]
  · rename_i e; simp [mget, e]
theorem kset_length {k : κ} {x : β} {A : List (κ × β)} : (kset k x A).length ≤ A.length + 1 := by
  unfold kset kdel
  have := List.length_filter_le (fun p : κ × β => decide (p.1 ≠ k)) A
  simp only [List.length_append, List.length_singleton]; omega
theorem kdel_length {k : κ} {A : List (κ × β)} : (kdel k A).length ≤ A.length := List.length_filter_le _ _
end
end Go.Proofs.Ytkepgbimlolemaa
