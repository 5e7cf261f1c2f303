/- The reference's queue: a list in order; what it does, as plain lists. No program, no condition. -/
import Derived.Test.YtlmdgdehjpahiaaExpP
set_option linter.unusedVariables false
set_option maxRecDepth 4000
namespace Go.Proofs.Ytlmdgdehjpahiaa
abbrev KA : Type := ByteArray × Int
theorem kaLt_elt (p r : KA) : kaLt p r = elt ⟨0, p.1, p.2⟩ ⟨0, r.1, r.2⟩ := (elt_ka (e := ⟨0, p.1, p.2⟩) (f := ⟨0, r.1, r.2⟩)).symm
theorem kaLt_so : SO kaLt := ⟨fun x => by rw [kaLt_elt]; exact elt_so.irr _, fun x y z h1 h2 => by rw [kaLt_elt] at *; exact elt_so.tr _ _ _ h1 h2, fun x y z h1 h2 => by rw [kaLt_elt] at *; exact elt_so.ntr _ _ _ h1 h2⟩
/-- One more, in its place. -/
def kins (p : KA) : List KA → List KA
  | [] => [p]
  | r :: L => if kaLt p r then p :: r :: L else r :: kins p L
theorem kins_any {p : KA} : ∀ {X Y : List KA}, X.any (kaLt p) = true → kins p (X ++ Y) = kins p X ++ Y
  | [], Y, h => by simp at h
  | r :: X, Y, h => by
    simp only [List.cons_append, kins]
    split
    · rfl
    · rename_i hn
      have : X.any (kaLt p) = true := by simpa [hn] using h
      rw [kins_any this]; rfl
theorem kins_none {p : KA} : ∀ {X Y : List KA}, X.any (kaLt p) = false → kins p (X ++ Y) = X ++ kins p Y
  | [], Y, h => rfl
  | r :: X, Y, h => by
    simp only [List.any_cons, Bool.or_eq_false_iff] at h
    simp only [List.cons_append, kins, h.1]
    rw [kins_none h.2]; rfl
theorem kins_perm {p : KA} : ∀ {L : List KA}, (kins p L).Perm (p :: L)
  | [] => .refl _
  | r :: L => by
    simp only [kins]
    split
    · exact .refl _
    · exact ((kins_perm (L := L)).cons r).trans (List.Perm.swap p r L)
theorem kins_sort {p : KA} : ∀ {L : List KA}, KSort L → KSort (kins p L)
  | [], h => by simp [kins, KSort]
  | r :: L, h => by
    have h' := List.pairwise_cons.1 h
    simp only [kins]
    split
    · rename_i hp
      refine List.pairwise_cons.2 ⟨fun x hx => ?_, h⟩
      rcases List.mem_cons.1 hx with rfl | hx
      · exact kaLt_so.asym hp
      · have h1 := h'.1 x hx
        cases hc : kaLt x p with
        | false => rfl
        | true => rw [kaLt_so.tr _ _ _ hc hp] at h1; cases h1
    · rename_i hp
      have hp' : kaLt p r = false := by simpa using hp
      refine List.pairwise_cons.2 ⟨fun x hx => ?_, kins_sort h'.2⟩
      rcases List.mem_cons.1 (kins_perm.mem_iff.1 hx) with rfl | hx
      · exact hp'
      · exact h'.1 x hx
theorem KSort.sub {A B : List KA} (h : KSort A) (hs : B.Sublist A) : KSort B := List.Pairwise.sublist hs h
theorem KSort.kdel {A : List KA} {k : ByteArray} (h : KSort A) : KSort (kdel k A) := h.sub List.filter_sublist
theorem kset_kins {A L : List KA} {k : ByteArray} {a : Int} (h : A.Perm L) : (kset k a A).Perm (kins (k, a) (kdel k L)) := by
  refine List.Perm.trans ?_ kins_perm.symm
  exact List.perm_append_comm.trans ((kdel_perm h).cons _)
/-- In order, what is over stands first. -/
theorem KSort.due {now : Int} : ∀ {B A : List KA}, KSort (B ++ A) → (∀ p ∈ B, p.2 ≤ now) → (∀ p : KA, A.head? = some p → now < p.2) → (∀ p ∈ A, now < p.2)
  | B, [], _, _, _ => by simp
  | B, x :: A, hs, hb, hh => fun p hp => by
    have hx := hh x rfl
    rcases List.mem_cons.1 hp with rfl | hp
    · exact hx
    · have := (List.pairwise_cons.1 (List.pairwise_append.1 hs).2.1).1 p hp
      simp only [kaLt, Bool.or_eq_false_iff, decide_eq_false_iff_not] at this
      have := this.1
      omega
theorem DueR.is {A B A' L C D : List KA} {now : Int} (h : DueR A now B A') (h' : ∀ p ∈ A', now < p.2) (hL : KSort L) (hp : A.Perm L) (he : L = C ++ D) (hC : ∀ p ∈ C, p.2 ≤ now) (hD : ∀ p ∈ D, now < p.2) : B = C ∧ A'.Perm D := by
  subst he
  have f1 : ∀ (X : List KA) (q : KA → Bool), (∀ p ∈ X, q p = true) → X.filter q = X := fun X q hq => List.filter_eq_self.2 hq
  have f2 : ∀ (X : List KA) (q : KA → Bool), (∀ p ∈ X, q p = false) → X.filter q = [] := fun X q hq => List.filter_eq_nil_iff.2 fun p hp => by rw [hq p hp]; simp
  have hpm := (h.pm.symm.trans hp)
  have hb : B.Perm C := by
    have := hpm.filter fun p => decide (p.2 ≤ now)
    rw [List.filter_append, List.filter_append, f1 B _ (fun p hp => by simpa using h.le p hp), f2 A' _ (fun p hp => by have := h' p hp; simpa using this), f1 C _ (fun p hp => by simpa using hC p hp), f2 D _ (fun p hp => by have := hD p hp; simpa using this), List.append_nil, List.append_nil] at this
    exact this
  have hd : A'.Perm D := by
    have := hpm.filter fun p => decide (now < p.2)
    rw [List.filter_append, List.filter_append, f2 B _ (fun p hp => by have := h.le p hp; simpa using this), f1 A' _ (fun p hp => by have := h' p hp; simpa using this), f2 C _ (fun p hp => by have := hC p hp; simpa using this), f1 D _ (fun p hp => by have := hD p hp; simpa using this), List.nil_append, List.nil_append] at this
    exact this
  exact ⟨KSort.uniq h.ord (hL.sub (List.sublist_append_left C D)) hb, hd⟩
end Go.Proofs.Ytlmdgdehjpahiaa
