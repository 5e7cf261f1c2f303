/- What a law is given of clients. No condition. -/
import Derived.Test.YtlmdgdehjpahiaaCliB
import Derived.Test.YtlmdgdehjpahiaaOpen
import Derived.Test.YtlmdgdehjpahiaaMot4
import Derived.Test.YtlmdgdehjpahiaaLaw
set_option linter.unusedVariables false
set_option maxRecDepth 4000
namespace Go.Proofs.Ytlmdgdehjpahiaa

theorem cli_of {H : Type} {enc : TypeId × Value → H} {W : World} {f : Nat} {cs : List Value} {x : DataW H × List MemPlace} (h : DataW.trod enc Try.prog W 0 (fun _ => true) true f 35 cs = some x) : ∃ (r : CR) (c : Cli), cs = r.cells ∧ CliR (Rw W) r c := by
  obtain ⟨hl, hp⟩ := parts_of Try.underlying35 h
  have hc : Try.prog.cellsOf 35 = 4 := by kernel_rfl
  have c1 : Try.prog.cellsOf 9 = 1 := by kernel_rfl
  have c2 : Try.prog.cellsOf 33 = 1 := by kernel_rfl
  rw [hc] at hl
  match cs, hl with
  | [a, b, c, d], _ =>
    obtain ⟨n0, y0, h0⟩ : ∃ n y, DataW.trod enc Try.prog W 0 (fun _ => true) true n 9 (([a, b, c, d].drop 0).take (Try.prog.cellsOf 9)) = some y := hp 0 _ rfl
    obtain ⟨n1, y1, h1⟩ : ∃ n y, DataW.trod enc Try.prog W 0 (fun _ => true) true n 9 (([a, b, c, d].drop 1).take (Try.prog.cellsOf 9)) = some y := hp 1 _ rfl
    obtain ⟨n2, y2, h2⟩ : ∃ n y, DataW.trod enc Try.prog W 0 (fun _ => true) true n 33 (([a, b, c, d].drop 2).take (Try.prog.cellsOf 33)) = some y := hp 2 _ rfl
    obtain ⟨n3, y3, h3⟩ : ∃ n y, DataW.trod enc Try.prog W 0 (fun _ => true) true n 33 (([a, b, c, d].drop 3).take (Try.prog.cellsOf 33)) = some y := hp 3 _ rfl
    simp only [c1, c2, List.drop_zero, List.drop_succ_cons, List.take_succ_cons, List.take_zero] at h0 h1 h2 h3
    obtain ⟨s0, e0⟩ := str_of h0
    obtain ⟨s1, e1⟩ := str_of h1
    obtain ⟨v2, l2, e2, r2⟩ := strs_of h2
    obtain ⟨v3, l3, e3, r3⟩ := strs_of h3
    cases e0; cases e1; cases e2; cases e3
    exact ⟨⟨s0, s1, _, _⟩, ⟨s0, s1, l2, l3⟩, rfl, rfl, rfl, r2, r3⟩
end Go.Proofs.Ytlmdgdehjpahiaa
