/- Keyed lists, and what is made of their values. No program, no condition. -/
import Derived.Test.YtkepgbimlolemaaKv
set_option linter.unusedVariables false
namespace Go.Proofs.Ytkepgbimlolemaa
section
variable {κ β γ : Type}
def kmap (f : β → γ) (A : List (κ × β)) : List (κ × γ) := A.map fun p => (p.1, f p.2)
theorem kmap_keys {f : β → γ} {A : List (κ × β)} : (kmap f A).map (·.1) = A.map (·.1) := by rw [kmap, List.map_map]; rfl
theorem kmap_perm {f : β → γ} {A B : List (κ × β)} (h : A.Perm B) : (kmap f A).Perm (kmap f B) := h.map _
theorem kmap_length {f : β → γ} {A : List (κ × β)} : (kmap f A).length = A.length := by simp [kmap]
theorem kmap_mem {f : β → γ} {A : List (κ × β)} {p : κ × β} (h : p ∈ A) : (p.1, f p.2) ∈ kmap f A := List.mem_map.2 ⟨p, h, rfl⟩
theorem mem_kmap {f : β → γ} {A : List (κ × β)} {p : κ × γ} (h : p ∈ kmap f A) : ∃ q ∈ A, p = (q.1, f q.2) := let ⟨q, h1, h2⟩ := List.mem_map.1 h; ⟨q, h1, h2.symm⟩
variable [DecidableEq κ]
theorem kmap_del {f : β → γ} {A : List (κ × β)} {k : κ} : kmap f (kdel k A) = kdel k (kmap f A) := by unfold kmap kdel; rw [List.filter_map]; rfl
theorem kmap_set {f : β → γ} {A : List (κ × β)} {k : κ} {x : β} : kmap f (kset k x A) = kset k (f x) (kmap f A) := by
  unfold kset; rw [← kmap_del]; simp [kmap]
theorem kmap_get {f : β → γ} {k : κ} : ∀ {A : List (κ × β)}, mget k (kmap f A) = (mget k A).map f
  | [] => rfl
  | (k', x) :: A => by
    have ih := kmap_get (f := f) (k := k) (A := A)
    simp only [kmap, List.map_cons, mget] at ih ⊢
    split
    · rfl
    · exact ih
theorem mset_perm {k : κ} {x : β} : ∀ {M : List (κ × β)}, (M.map (·.1)).Nodup → (mset k x M).Perm (kset k x M)
  | [], _ => by simp [mset, kset, kdel]
  | (k', x') :: M, hn => by
    rw [List.map_cons, List.nodup_cons] at hn
    simp only [mset]
    split
    · rename_i h
      subst h
      unfold kset
      rw [kdel_cons hn.1]
      exact List.perm_append_comm (l₁ := [(k, x)])
    · rename_i h
      have ih := (mset_perm (k := k) (x := x) hn.2).cons (k', x')
      refine ih.trans (List.Perm.of_eq ?_)
      unfold kset kdel
      have : decide ((k', x').1 ≠ k) = true := decide_eq_true fun e => h e.symm
      rw [List.filter_cons, if_pos this]
      rfl
theorem mset_mem {k : κ} {x : β} {M : List (κ × β)} (hn : (M.map (·.1)).Nodup) {p : κ × β} (h : p ∈ mset k x M) : p ∈ M ∨ p = (k, x) := by
  have := (mset_perm hn).mem_iff.1 h
  rcases List.mem_append.1 this with h | h
  · exact .inl (List.mem_filter.1 h).1
  · exact .inr (by simpa using h)
theorem kset_mem {k : κ} {x : β} {A : List (κ × β)} {p : κ × β} (h : p ∈ kset k x A) : p ∈ A ∧ p.1 ≠ k ∨ p = (k, x) := by
  rcases List.mem_append.1 h with h | h
  · have := List.mem_filter.1 h
    exact .inl ⟨this.1, by simpa using this.2⟩
  · exact .inr (by simpa using h)
theorem mget_mem' {k : κ} {x : β} {A : List (κ × β)} (hn : (A.map (·.1)).Nodup) : mget k A = some x ↔ (k, x) ∈ A := ⟨mget_some, mget_of_mem hn⟩
theorem kset_same {k : κ} {x : β} {A : List (κ × β)} (hn : (A.map (·.1)).Nodup) (h : mget k A = some x) : (kset k x A).Perm A := by
  obtain ⟨X, Y, rfl⟩ := List.append_of_mem (mget_some h)
  unfold kset
  rw [kdel_mid hn]
  exact (List.perm_append_singleton _ _).trans List.perm_middle.symm
end
theorem filter_one {k : ByteArray} : ∀ {l : List ByteArray}, l.Nodup → k ∈ l → l.Perm (k :: l.filter fun k' => decide (k' ≠ k))
  | [], _, h => by cases h
  | x :: l, hn, h => by
    have hn' := List.nodup_cons.1 hn
    by_cases hx : x = k
    · subst hx
      have : l.filter (fun k' => decide (k' ≠ x)) = l := List.filter_eq_self.2 fun y hy => by
        have : y ≠ x := fun e => hn'.1 (e ▸ hy)
        simp [this]
      rw [List.filter_cons]
      simp only [ne_eq, not_true_eq_false, decide_false, Bool.false_eq_true, if_false]
      have h2 : l.filter (fun k' => !decide (k' = x)) = l := by simpa using this
      simp only [decide_not, h2]
      exact .refl _
    · have hk : k ∈ l := by
        rcases List.mem_cons.1 h with e | h
        · exact absurd e.symm hx
        · exact h
      have := (filter_one hn'.2 hk).cons x
      rw [List.filter_cons, if_pos (by simp [hx])]
      exact this.trans (List.Perm.swap k x _)
end Go.Proofs.Ytkepgbimlolemaa
