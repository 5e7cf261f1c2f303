/- What a law is given: numbers, texts, lists of texts. No condition. -/
import Derived.Test.YtkepgbimlolemaaBase
import Derived.Test.YtkepgbimlolemaaMot4
import Derived.Test.YtkepgbimlolemaaLaw
set_option linter.unusedVariables false
set_option maxRecDepth 4000
namespace Go.Proofs.Ytkepgbimlolemaa
theorem strs_of {H : Type} {enc : TypeId × Value → H} {W : World} {f : Nat} {cs : List Value} {x : DataW H × List MemPlace} (h : DataW.trod enc Try.prog W 0 (fun _ => true) true f 23 cs = some x) : ∃ v l, cs = [v] ∧ RS (Rw W) 1 encS v l := by
  obtain ⟨v, l, h1, h2, _⟩ := RS.ofCells (D := fun _ => True) (sz := 1) (en := encS) Try.underlying23 fT9.n (by omega) h fun n cs x hx => by
    have hk := fT9.h enc W 0 _ true n cs x hx
    refine ⟨hk.length, hk.ones, ?_⟩
    match cs, hk with
    | [a], hk =>
      obtain ⟨a, rfl⟩ := ck_s hk.1
      exact ⟨a, rfl, trivial⟩
  exact ⟨v, l, h1, h2⟩
theorem str_of {H : Type} {enc : TypeId × Value → H} {W : World} {f : Nat} {cs : List Value} {x : DataW H × List MemPlace} (h : DataW.trod enc Try.prog W 0 (fun _ => true) true f 9 cs = some x) : ∃ s : ByteArray, cs = [.string s] := by
  have hk := fT9.h enc W 0 _ true f cs x h
  match cs, hk with
  | [a], hk =>
    obtain ⟨a, rfl⟩ := ck_s hk.1
    exact ⟨a, rfl⟩
theorem int_of {t : TypeId} {k : IntKind} [s : ShT Try.prog t [.i k]] {H : Type} {enc : TypeId × Value → H} {W : World} {f : Nat} {cs : List Value} {x : DataW H × List MemPlace} (h : DataW.trod enc Try.prog W 0 (fun _ => true) true f t cs = some x) : ∃ z : Int, cs = [.int k z] := by
  have hk := s.h enc W 0 _ true f cs x h
  match cs, hk with
  | [a], hk =>
    obtain ⟨a, rfl⟩ := ck_i hk.1
    exact ⟨a, rfl⟩
theorem bool_of {t : TypeId} [s : ShT Try.prog t [.b]] {H : Type} {enc : TypeId × Value → H} {W : World} {f : Nat} {cs : List Value} {x : DataW H × List MemPlace} (h : DataW.trod enc Try.prog W 0 (fun _ => true) true f t cs = some x) : ∃ z : Bool, cs = [.bool z] := by
  have hk := s.h enc W 0 _ true f cs x h
  match cs, hk with
  | [a], hk =>
    obtain ⟨a, rfl⟩ := ck_b hk.1
    exact ⟨a, rfl⟩
theorem str_fit {t : TypeId} [u : Und Try.prog t .string] {H : Type} {enc : TypeId × Value → H} {W : World} {f : Nat} {cs : List Value} {x : DataW H × List MemPlace} (h : DataW.trod enc Try.prog W 0 (fun _ => true) true f t cs = some x) : ∃ s : ByteArray, cs = [.string s] ∧ s.size ≤ 9223372036854775807 := by
  cases f with
  | zero => simp [DataW.trod] at h
  | succ f =>
    unfold DataW.trod at h
    rw [u.h] at h
    split at h <;> simp_all
    rename_i s _
    exact Nat.le_trans h.1 (by decide)
theorem int_fit {t : TypeId} {k : IntKind} [u : Und Try.prog t (.int k)] {H : Type} {enc : TypeId × Value → H} {W : World} {f : Nat} {cs : List Value} {x : DataW H × List MemPlace} (h : DataW.trod enc Try.prog W 0 (fun _ => true) true f t cs = some x) : ∃ z : Int, cs = [.int k z] ∧ k.min ≤ z ∧ z ≤ k.max := by
  obtain ⟨n, rfl, _, hw⟩ := DataW.trod_int u.h h
  have hw : (Lit.int k n).wf = true := hw
  simp only [Lit.wf, Bool.and_eq_true, decide_eq_true_eq] at hw
  exact ⟨n, rfl, hw⟩
end Go.Proofs.Ytkepgbimlolemaa
