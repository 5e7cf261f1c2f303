/- What the law 'CoreReplays' uses of this prover's engine, facts and walks. No condition. -/
import Derived.Test.YtkagfkbkpiebjaaGreatDoorKCoreReplaysC
import Derived.Test.YtkagfkbkpiebjaaGreatDoorKCoreReplaysH
import Derived.Test.YtkagfkbkpiebjaaGreatDoorKCoreReplaysS
set_option linter.unusedVariables false
set_option maxRecDepth 4000
namespace Go.Proofs.YtkagfkbkpiebjaaGreatDoor
theorem strs_of {H : Type} {enc : TypeId × Value → H} {W : World} {f : Nat} {cs : List Value} {x : DataW H × List MemPlace} (h : DataW.trod enc Tryz.prog W 0 (fun _ => true) true f 28 cs = some x) : ∃ v l, cs = [v] ∧ RS (Rw W) 1 encS v l := by
 obtain ⟨v, l, h1, h2, _⟩ := RS.ofCells (D := fun _ => True) (sz := 1) (en := encS) Tryz.underlying28 fT9.n (by omega) h fun n cs x hx => by
  have hk := fT9.h enc W 0 _ true n cs x hx
  refine ⟨hk.length, hk.ones, ?_⟩
  match cs, hk with
  | [a], hk =>
   obtain ⟨a, rfl⟩ := ck_s hk.1
   exact ⟨a, rfl, trivial⟩
 exact ⟨v, l, h1, h2⟩
theorem str_of {H : Type} {enc : TypeId × Value → H} {W : World} {f : Nat} {cs : List Value} {x : DataW H × List MemPlace} (h : DataW.trod enc Tryz.prog W 0 (fun _ => true) true f 9 cs = some x) : ∃ s : ByteArray, cs = [.string s] := by
 have hk := fT9.h enc W 0 _ true f cs x h
 match cs, hk with
 | [a], hk =>
  obtain ⟨a, rfl⟩ := ck_s hk.1
  exact ⟨a, rfl⟩
theorem int_of {t : TypeId} {k : IntKind} [s : ShT Tryz.prog t [.i k]] {H : Type} {enc : TypeId × Value → H} {W : World} {f : Nat} {cs : List Value} {x : DataW H × List MemPlace} (h : DataW.trod enc Tryz.prog W 0 (fun _ => true) true f t cs = some x) : ∃ z : Int, cs = [.int k z] := by
 have hk := s.h enc W 0 _ true f cs x h
 match cs, hk with
 | [a], hk =>
  obtain ⟨a, rfl⟩ := ck_i hk.1
  exact ⟨a, rfl⟩
theorem int_fit {t : TypeId} {k : IntKind} [u : Und Tryz.prog t (.int k)] {H : Type} {enc : TypeId × Value → H} {W : World} {f : Nat} {cs : List Value} {x : DataW H × List MemPlace} (h : DataW.trod enc Tryz.prog W 0 (fun _ => true) true f t cs = some x) : ∃ z : Int, cs = [.int k z] ∧ k.min ≤ z ∧ z ≤ k.max := by
 obtain ⟨n, rfl, _, hw⟩ := DataW.trod_int u.h h
 have hw : (Lit.int k n).wf = true := hw
 simp only [Lit.wf, Bool.and_eq_true, decide_eq_true_eq] at hw
 exact ⟨n, rfl, hw⟩
theorem cli_of {H : Type} {enc : TypeId × Value → H} {W : World} {f : Nat} {cs : List Value} {x : DataW H × List MemPlace} (h : DataW.trod enc Tryz.prog W 0 (fun _ => true) true f 30 cs = some x) : ∃ (r : CR) (c : Cli), cs = r.cells ∧ CliR (Rw W) r c := by
 obtain ⟨hl, hp⟩ := parts_of Tryz.underlying30 h
 have hc : Tryz.prog.cellsOf 30 = 4 := by kernel_rfl
 have c1 : Tryz.prog.cellsOf 9 = 1 := by kernel_rfl
 have c2 : Tryz.prog.cellsOf 28 = 1 := by kernel_rfl
 rw [hc] at hl
 match cs, hl with
 | [a, b, c, d], _ =>
  obtain ⟨n0, y0, h0⟩ : ∃ n y, DataW.trod enc Tryz.prog W 0 (fun _ => true) true n 9 (([a, b, c, d].drop 0).take (Tryz.prog.cellsOf 9)) = some y := hp 0 _ rfl
  obtain ⟨n1, y1, h1⟩ : ∃ n y, DataW.trod enc Tryz.prog W 0 (fun _ => true) true n 9 (([a, b, c, d].drop 1).take (Tryz.prog.cellsOf 9)) = some y := hp 1 _ rfl
  obtain ⟨n2, y2, h2⟩ : ∃ n y, DataW.trod enc Tryz.prog W 0 (fun _ => true) true n 28 (([a, b, c, d].drop 2).take (Tryz.prog.cellsOf 28)) = some y := hp 2 _ rfl
  obtain ⟨n3, y3, h3⟩ : ∃ n y, DataW.trod enc Tryz.prog W 0 (fun _ => true) true n 28 (([a, b, c, d].drop 3).take (Tryz.prog.cellsOf 28)) = some y := hp 3 _ rfl
  simp only [c1, c2, List.drop_zero, List.drop_succ_cons, List.take_succ_cons, List.take_zero] at h0 h1 h2 h3
  obtain ⟨s0, e0⟩ := str_of h0
  obtain ⟨s1, e1⟩ := str_of h1
  obtain ⟨v2, l2, e2, r2⟩ := strs_of h2
  obtain ⟨v3, l3, e3, r3⟩ := strs_of h3
  cases e0; cases e1; cases e2; cases e3
  exact ⟨⟨s0, s1, _, _⟩, ⟨s0, s1, l2, l3⟩, rfl, rfl, rfl, r2, r3⟩
end Go.Proofs.YtkagfkbkpiebjaaGreatDoor
