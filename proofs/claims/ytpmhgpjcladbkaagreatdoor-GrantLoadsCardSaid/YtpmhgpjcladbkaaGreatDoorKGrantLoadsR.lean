/- What the law 'GrantLoads' uses of this prover's engine, facts and walks. No condition. -/
import Derived.Test.YtpmhgpjcladbkaaGreatDoorKGrantLoadsC
import Derived.Test.YtpmhgpjcladbkaaGreatDoorKGrantLoadsH
import Derived.Test.YtpmhgpjcladbkaaGreatDoorKGrantLoadsQ
set_option linter.unusedVariables false
set_option maxRecDepth 4000
namespace Go.Proofs.YtpmhgpjcladbkaaGreatDoor
theorem strs_of {H : Type} {enc : TypeId × Value → H} {W : World} {f : Nat} {cs : List Value} {x : DataW H × List MemPlace} (h : DataW.trod enc Tryz.prog W 0 (fun _ => true) true f 26 cs = some x) : ∃ v l, cs = [v] ∧ RS (Rw W) 1 encS v l := by
  obtain ⟨v, l, h1, h2, _⟩ := RS.ofCells (D := fun _ => True) (sz := 1) (en := encS) Tryz.underlying26 fT9.n (by omega) h fun n cs x hx => by
    have hk := fT9.h enc W 0 _ true n cs x hx
    refine ⟨hk.length, hk.ones, ?_⟩
    match cs, hk with
    | [a], hk =>
      obtain ⟨a, rfl⟩ := ck_s hk.1
      exact ⟨a, rfl, trivial⟩
  exact ⟨v, l, h1, h2⟩
theorem str_of {H : Type} {enc : TypeId × Value → H} {W : World} {f : Nat} {cs : List Value} {x : DataW H × List MemPlace} (h : DataW.trod enc Tryz.prog W 0 (fun _ => true) true f 9 cs = some x) : ∃ s : ByteArray, cs = [.string s] := by
  have hk := fT9.h enc W 0 _ true f cs x h
  match cs, hk with
  | [a], hk =>
    obtain ⟨a, rfl⟩ := ck_s hk.1
    exact ⟨a, rfl⟩
theorem int_of {t : TypeId} {k : IntKind} [s : ShT Tryz.prog t [.i k]] {H : Type} {enc : TypeId × Value → H} {W : World} {f : Nat} {cs : List Value} {x : DataW H × List MemPlace} (h : DataW.trod enc Tryz.prog W 0 (fun _ => true) true f t cs = some x) : ∃ z : Int, cs = [.int k z] := by
  have hk := s.h enc W 0 _ true f cs x h
  match cs, hk with
  | [a], hk =>
    obtain ⟨a, rfl⟩ := ck_i hk.1
    exact ⟨a, rfl⟩
theorem bool_of {t : TypeId} [s : ShT Tryz.prog t [.b]] {H : Type} {enc : TypeId × Value → H} {W : World} {f : Nat} {cs : List Value} {x : DataW H × List MemPlace} (h : DataW.trod enc Tryz.prog W 0 (fun _ => true) true f t cs = some x) : ∃ z : Bool, cs = [.bool z] := by
  have hk := s.h enc W 0 _ true f cs x h
  match cs, hk with
  | [a], hk =>
    obtain ⟨a, rfl⟩ := ck_b hk.1
    exact ⟨a, rfl⟩
end Go.Proofs.YtpmhgpjcladbkaaGreatDoor
