/- Lists that rise; what holds of all up to a place. No program, no condition. -/
import Derived.Test.YtkepgbimlolemaaBase
set_option linter.unusedVariables false
namespace Go.Proofs.Ytkepgbimlolemaa
theorem rise_pw {α : Type} {r : α → α → Prop} (tr : ∀ x y z, r x y → r y z → r x z) : ∀ {L : List α}, (∀ (i : Nat) (x y : α), L[i]? = some x → L[i + 1]? = some y → r x y) → L.Pairwise r
  | [], _ => List.Pairwise.nil
  | [x], _ => List.pairwise_singleton _ _
  | x :: y :: L, h => by
    have ih := rise_pw tr (L := y :: L) fun i a b ha hb => h (i + 1) a b ha hb
    have hxy : r x y := h 0 x y rfl rfl
    refine List.Pairwise.cons (fun z hz => ?_) ih
    rcases List.mem_cons.1 hz with rfl | hz
    · exact hxy
    · exact tr _ _ _ hxy (List.rel_of_pairwise_cons ih hz)
theorem asc_same {α : Type} (key : α → ByteArray) {cs ds : List α} (hc : cs.Pairwise fun c d => sLt (key c) (key d) = true) (hp : ds.Perm cs) (hs : ds.Pairwise fun c d => sLt (key d) (key c) = false) : ds = cs := by
  refine List.Perm.eq_of_pairwise (le := fun c d : α => sLt (key d) (key c) = false) (fun a b ha hb h1 h2 => ?_) hs (hc.imp fun {a b} hab => ?_) hp
  · have he : key a = key b := sLt_conn h2 h1
    have ha := hp.mem_iff.1 ha
    obtain ⟨i, hi, rfl⟩ := List.mem_iff_getElem.1 ha
    obtain ⟨j, hj, rfl⟩ := List.mem_iff_getElem.1 hb
    rw [List.pairwise_iff_getElem] at hc
    rcases Nat.lt_trichotomy i j with hij | hij | hij
    · have := hc i j hi hj hij
      rw [he, sLt_irr] at this; cases this
    · subst hij; rfl
    · have := hc j i hj hi hij
      rw [he, sLt_irr] at this; cases this
  · exact sLt_so.asym hab
theorem asc_nodup {α : Type} (key : α → ByteArray) {cs : List α} (hc : cs.Pairwise fun c d => sLt (key c) (key d) = true) : (cs.map key).Nodup := by
  rw [List.Nodup, List.pairwise_map]
  exact hc.imp fun {a b} hab he => by rw [he, sLt_irr] at hab; cases hab
/-- It holds at all places ahead of n. -/
def okN (f : Nat → Bool) (n : Nat) : Bool := (List.range n).all f
theorem okN_zero (f : Nat → Bool) : okN f 0 = true := rfl
theorem okN_succ {f : Nat → Bool} {i : Nat} : okN f (i + 1) = (okN f i && f i) := by unfold okN; rw [List.range_succ, List.all_append]; simp
theorem okN_get {f : Nat → Bool} {n i : Nat} (h : okN f n = true) (hi : i < n) : f i = true := List.all_eq_true.1 h i (List.mem_range.2 hi)
theorem okN_not {f : Nat → Bool} {n i : Nat} (h : f i = false) (hi : i < n) : okN f n = false := Bool.eq_false_iff.2 fun hh => by rw [okN_get hh hi] at h; cases h
end Go.Proofs.Ytkepgbimlolemaa
