/- What ClientPlays is given. No condition. -/
import Derived.Test.YtlmdgdehjpahiaaCliG
import Derived.Test.YtlmdgdehjpahiaaCliR
set_option linter.unusedVariables false
set_option maxRecDepth 4000
namespace Go.Proofs.Ytlmdgdehjpahiaa
theorem cdo_of {H : Type} {enc : TypeId × Value → H} {W : World} {f : Nat} {cs : List Value} {x : DataW H × List MemPlace} (h : DataW.trod enc Try.prog W 0 (fun _ => true) true f 96 cs = some x) : ∃ d : CDo, cs = d.enc ∧ d.is (Rw W) ∧ ∀ u ∈ d.enc, oneCell u = true := by
  obtain ⟨hl, hp⟩ := parts_of Try.underlying96 h
  have hc : Try.prog.cellsOf 96 = 9 := by kernel_rfl
  rw [hc] at hl
  have c3 : Try.prog.cellsOf 3 = 1 := by kernel_rfl
  have c9 : Try.prog.cellsOf 9 = 1 := by kernel_rfl
  have c33 : Try.prog.cellsOf 33 = 1 := by kernel_rfl
  have c35 : Try.prog.cellsOf 35 = 4 := by kernel_rfl
  match cs, hl with
  | [a0, a1, a2, a3, a4, a5, a6, a7, a8], _ =>
    obtain ⟨n0, y0, h0⟩ : ∃ n y, DataW.trod enc Try.prog W 0 (fun _ => true) true n 3 (([a0, a1, a2, a3, a4, a5, a6, a7, a8].drop 0).take (Try.prog.cellsOf 3)) = some y := hp 0 _ rfl
    obtain ⟨n1, y1, h1⟩ : ∃ n y, DataW.trod enc Try.prog W 0 (fun _ => true) true n 35 (([a0, a1, a2, a3, a4, a5, a6, a7, a8].drop 1).take (Try.prog.cellsOf 35)) = some y := hp 1 _ rfl
    obtain ⟨n2, y2, h2⟩ : ∃ n y, DataW.trod enc Try.prog W 0 (fun _ => true) true n 9 (([a0, a1, a2, a3, a4, a5, a6, a7, a8].drop 5).take (Try.prog.cellsOf 9)) = some y := hp 2 _ rfl
    obtain ⟨n3, y3, h3⟩ : ∃ n y, DataW.trod enc Try.prog W 0 (fun _ => true) true n 9 (([a0, a1, a2, a3, a4, a5, a6, a7, a8].drop 6).take (Try.prog.cellsOf 9)) = some y := hp 3 _ rfl
    obtain ⟨n4, y4, h4⟩ : ∃ n y, DataW.trod enc Try.prog W 0 (fun _ => true) true n 9 (([a0, a1, a2, a3, a4, a5, a6, a7, a8].drop 7).take (Try.prog.cellsOf 9)) = some y := hp 4 _ rfl
    obtain ⟨n5, y5, h5⟩ : ∃ n y, DataW.trod enc Try.prog W 0 (fun _ => true) true n 33 (([a0, a1, a2, a3, a4, a5, a6, a7, a8].drop 8).take (Try.prog.cellsOf 33)) = some y := hp 5 _ rfl
    simp only [c3, c9, c33, c35, List.drop_zero, List.drop_succ_cons, List.take_succ_cons, List.take_zero] at h0 h1 h2 h3 h4 h5
    obtain ⟨z0, e0⟩ := int_of (k := .i64) h0
    obtain ⟨r, c, e1, hc⟩ := cli_of h1
    obtain ⟨s2, e2⟩ := str_of h2
    obtain ⟨s3, e3⟩ := str_of h3
    obtain ⟨s4, e4⟩ := str_of h4
    obtain ⟨v5, l5, e5, r5⟩ := strs_of h5
    cases e0; cases e1; cases e2; cases e3; cases e4; cases e5
    refine ⟨⟨z0, r, s2, s3, s4, _, c, l5⟩, rfl, ⟨hc, r5⟩, ?_⟩
    have h7 := r5.oneCell.h
    have h8 := hc.u.oneCell.h
    have h9 := hc.s.oneCell.h
    intro u hu
    simp only [CDo.enc, List.mem_cons, List.not_mem_nil, or_false] at hu
    rcases hu with rfl | rfl | rfl | rfl | rfl | rfl | rfl | rfl | rfl <;> first | rfl | assumption
end Go.Proofs.Ytlmdgdehjpahiaa
