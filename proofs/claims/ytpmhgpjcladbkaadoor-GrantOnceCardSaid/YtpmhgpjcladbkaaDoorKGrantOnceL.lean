/- What the law 'GrantOnce' uses of this prover's engine, facts and walks. No condition. -/
import Derived.Test.YtpmhgpjcladbkaaDoorKGrantOnceC
import Derived.Test.YtpmhgpjcladbkaaDoorKGrantOnceH
import Derived.Test.YtpmhgpjcladbkaaDoorKGrantOnceK
set_option linter.unusedVariables false
set_option maxRecDepth 4000
namespace Go.Proofs.YtpmhgpjcladbkaaDoor
theorem strs_of {H : Type} {enc : TypeId × Value → H} {W : World} {f : Nat} {cs : List Value} {x : DataW H × List MemPlace} (h : DataW.trod enc Tryd.prog W 0 (fun _ => true) true f 22 cs = some x) : ∃ v l, cs = [v] ∧ RS (Rw W) 1 encS v l := by
  obtain ⟨v, l, h1, h2, _⟩ := RS.ofCells (D := fun _ => True) (sz := 1) (en := encS) Tryd.underlying22 fT9.n (by omega) h fun n cs x hx => by
    have hk := fT9.h enc W 0 _ true n cs x hx
    refine ⟨hk.length, hk.ones, ?_⟩
    match cs, hk with
    | [a], hk =>
      obtain ⟨a, rfl⟩ := ck_s hk.1
      exact ⟨a, rfl, trivial⟩
  exact ⟨v, l, h1, h2⟩
theorem str_of {H : Type} {enc : TypeId × Value → H} {W : World} {f : Nat} {cs : List Value} {x : DataW H × List MemPlace} (h : DataW.trod enc Tryd.prog W 0 (fun _ => true) true f 9 cs = some x) : ∃ s : ByteArray, cs = [.string s] := by
  have hk := fT9.h enc W 0 _ true f cs x h
  match cs, hk with
  | [a], hk =>
    obtain ⟨a, rfl⟩ := ck_s hk.1
    exact ⟨a, rfl⟩
theorem int_of {t : TypeId} {k : IntKind} [s : ShT Tryd.prog t [.i k]] {H : Type} {enc : TypeId × Value → H} {W : World} {f : Nat} {cs : List Value} {x : DataW H × List MemPlace} (h : DataW.trod enc Tryd.prog W 0 (fun _ => true) true f t cs = some x) : ∃ z : Int, cs = [.int k z] := by
  have hk := s.h enc W 0 _ true f cs x h
  match cs, hk with
  | [a], hk =>
    obtain ⟨a, rfl⟩ := ck_i hk.1
    exact ⟨a, rfl⟩
theorem bool_of {t : TypeId} [s : ShT Tryd.prog t [.b]] {H : Type} {enc : TypeId × Value → H} {W : World} {f : Nat} {cs : List Value} {x : DataW H × List MemPlace} (h : DataW.trod enc Tryd.prog W 0 (fun _ => true) true f t cs = some x) : ∃ z : Bool, cs = [.bool z] := by
  have hk := s.h enc W 0 _ true f cs x h
  match cs, hk with
  | [a], hk =>
    obtain ⟨a, rfl⟩ := ck_b hk.1
    exact ⟨a, rfl⟩
theorem str_fit {t : TypeId} [u : Und Tryd.prog t .string] {H : Type} {enc : TypeId × Value → H} {W : World} {f : Nat} {cs : List Value} {x : DataW H × List MemPlace} (h : DataW.trod enc Tryd.prog W 0 (fun _ => true) true f t cs = some x) : ∃ s : ByteArray, cs = [.string s] ∧ s.size ≤ 9223372036854775807 := by
  cases f with
  | zero => simp [DataW.trod] at h
  | succ f =>
    unfold DataW.trod at h
    rw [u.h] at h
    split at h <;> simp_all
    rename_i s _
    exact Nat.le_trans h.1 (by decide)
end Go.Proofs.YtpmhgpjcladbkaaDoor
