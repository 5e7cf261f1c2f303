/- Comparisons that put things in order, made of others. No program, no condition. -/
import Derived.Test.YtkepgbimlolemaaBase
import Derived.Test.YtkepgbimlolemaaMot5
set_option linter.unusedVariables false
namespace Go.Proofs.Ytkepgbimlolemaa
structure CmpOK {α : Type} (c : α → α → Int) : Prop where
  sw : ∀ x y, c x y < 0 ↔ 0 < c y x
  tr : ∀ x y z, c x y ≤ 0 → c y z ≤ 0 → c x z ≤ 0
  tl : ∀ x y z, c x y < 0 → c y z ≤ 0 → c x z < 0
section
variable {α β : Type} {c d : α → α → Int}
theorem CmpOK.refl (h : CmpOK c) (x : α) : c x x = 0 := by have := h.sw x x; omega
theorem CmpOK.zero_sw (h : CmpOK c) {x y : α} (h0 : c x y = 0) : c y x = 0 := by have h1 := h.sw x y; have h2 := h.sw y x; omega
theorem CmpOK.t2 (h : CmpOK c) (x y z : α) (h1 : c x y ≤ 0) (h2 : c y z < 0) : c x z < 0 := by
  have h3 := h.tr x y z h1 (by omega)
  rcases Int.lt_or_eq_of_le h3 with h4 | h4
  · exact h4
  · have h5 := h.zero_sw h4
    have h6 := h.tl y z x h2 (by omega)
    have h7 := (h.sw y x).1 h6
    omega
theorem CmpOK.map (h : CmpOK c) (f : β → α) : CmpOK (fun x y => c (f x) (f y)) := ⟨fun x y => h.sw _ _, fun x y z => h.tr _ _ _, fun x y z => h.tl _ _ _⟩
theorem CmpOK.so (h : CmpOK c) : SO (ltc c) where
  irr x := by unfold ltc; rw [h.refl]; rfl
  tr x y z h1 h2 := by
    unfold ltc at *
    have h1 := of_decide_eq_true h1
    have h2 := of_decide_eq_true h2
    exact decide_eq_true (h.tl x y z h1 (by omega))
  ntr x y z h1 h2 := by
    unfold ltc at *
    have h1 := of_decide_eq_false h1
    have h2 := of_decide_eq_false h2
    refine decide_eq_false fun h3 => ?_
    have e1 : c y x ≤ 0 := by have := h.sw y x; have := h.sw x y; omega
    have e2 : c z y ≤ 0 := by have := h.sw y z; have := h.sw z y; omega
    have e3 := h.tr z y x e2 e1
    have e4 := (h.sw x z).1 h3
    omega
theorem orI_cons (a : Int) (l : List Int) : orI (a :: l) = if a = 0 then orI l else a := rfl
theorem CmpOK.nil : CmpOK (fun _ _ : α => orI []) := ⟨fun x y => by simp [orI], fun x y z _ _ => by simp [orI], fun x y z h _ => by simp [orI] at h⟩
theorem CmpOK.cons {L : α → α → List Int} (hc : CmpOK c) (hL : CmpOK fun a b => orI (L a b)) : CmpOK (fun a b => orI (c a b :: L a b)) where
  sw x y := by
    simp only [orI_cons]
    have h1 := hc.sw x y
    have h2 := hc.sw y x
    have h3 := hL.sw x y
    split <;> split <;> omega
  tr x y z h1 h2 := by
    simp only [orI_cons] at *
    have a1 := hc.tr x y z
    have a2 := hc.tl x y z
    have a3 := hc.t2 x y z
    have a4 := hL.tr x y z
    have b1 := hc.tr z y x
    have b2 := hc.sw x y
    have b3 := hc.sw y x
    have b4 := hc.sw z y
    have b5 := hc.sw y z
    have b6 := hc.sw x z
    have b7 := hc.sw z x
    split <;> (try split at h1) <;> (try split at h2) <;> omega
  tl x y z h1 h2 := by
    simp only [orI_cons] at *
    have a1 := hc.tr x y z
    have a2 := hc.tl x y z
    have a3 := hc.t2 x y z
    have a4 := hL.tl x y z
    have b1 := hc.tr z y x
    have b2 := hc.sw x y
    have b3 := hc.sw y x
    have b4 := hc.sw z y
    have b5 := hc.sw y z
    have b6 := hc.sw x z
    have b7 := hc.sw z x
    split <;> (try split at h1) <;> (try split at h2) <;> omega
theorem orI_zero {a : Int} {l : List Int} (h : orI (a :: l) = 0) : a = 0 ∧ orI l = 0 := by
  rw [orI_cons] at h
  split at h
  · rename_i h0; exact ⟨h0, h⟩
  · omega
end
theorem scmp_ok : CmpOK scmp where
  sw x y := by rw [← sLt_iff, ← sLt_iff']
  tr x y z h1 h2 := by
    have e1 : sLt y x = false := Bool.eq_false_iff.2 fun h => by have := sLt_iff'.1 h; omega
    have e2 : sLt z y = false := Bool.eq_false_iff.2 fun h => by have := sLt_iff'.1 h; omega
    have e3 := sLt_so.ntr z y x e2 e1
    rcases Int.lt_or_le 0 (scmp x z) with h | h
    · rw [sLt_iff'.2 h] at e3; cases e3
    · exact h
  tl x y z h1 h2 := by
    have e1 := sLt_iff.2 h1
    rcases Int.lt_or_eq_of_le h2 with h | h
    · exact sLt_iff.1 (sLt_trans e1 (sLt_iff.2 h))
    · rw [scmp_eq] at h; subst h; exact h1
theorem icmp_ok : CmpOK icmp where
  sw x y := by unfold icmp; split <;> split <;> (try split) <;> (try split) <;> omega
  tr x y z h1 h2 := by unfold icmp at *; split at h1 <;> split at h2 <;> (try split at h1) <;> (try split at h2) <;> split <;> (try split) <;> omega
  tl x y z h1 h2 := by unfold icmp at *; split at h1 <;> split at h2 <;> (try split at h1) <;> (try split at h2) <;> split <;> (try split) <;> omega
theorem icmp_eq {a b : Int} : icmp a b = 0 ↔ a = b := by unfold icmp; split <;> (try split) <;> omega
/-- What is in order, and has no two alike, is told by what is in it. -/
theorem cmp_uniq {α : Type} {c : α → α → Int} (h : CmpOK c) (he : ∀ x y, c x y = 0 → x = y) {xs ys : List α} (hp : ys.Perm xs) (hx : xs.Pairwise fun a b => ltc c b a = false) (hy : ys.Pairwise fun a b => ltc c b a = false) : ys = xs := by
  refine List.Perm.eq_of_pairwise (le := fun a b : α => ltc c b a = false) (fun a b _ _ h1 h2 => ?_) hy hx hp
  unfold ltc at h1 h2
  have h1 := of_decide_eq_false h1
  have h2 := of_decide_eq_false h2
  have := h.sw b a
  have := h.sw a b
  exact he a b (by omega)
end Go.Proofs.Ytkepgbimlolemaa
