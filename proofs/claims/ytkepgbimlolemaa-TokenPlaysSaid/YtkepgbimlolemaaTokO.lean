/- What a law is given of tokens. No condition. -/
import Derived.Test.YtkepgbimlolemaaTokA
import Derived.Test.YtkepgbimlolemaaOpen
set_option linter.unusedVariables false
set_option maxRecDepth 4000
namespace Go.Proofs.Ytkepgbimlolemaa
theorem tok_of {H : Type} {enc : TypeId × Value → H} {W : World} {f : Nat} {cs : List Value} {x : DataW H × List MemPlace} (h : DataW.trod enc Try.prog W 0 (fun _ => true) true f 26 cs = some x) : ∃ p : TP, cs = encT p ∧ TokR (Rw W) p := by
  obtain ⟨hl, hp⟩ := parts_of Try.underlying26 h
  have hc : Try.prog.cellsOf 26 = 9 := by kernel_rfl
  rw [hc] at hl
  have c2 : Try.prog.cellsOf 2 = 1 := by kernel_rfl
  have c3 : Try.prog.cellsOf 3 = 1 := by kernel_rfl
  have c4 : Try.prog.cellsOf 4 = 1 := by kernel_rfl
  have c9 : Try.prog.cellsOf 9 = 1 := by kernel_rfl
  have c23 : Try.prog.cellsOf 23 = 1 := by kernel_rfl
  have c24 : Try.prog.cellsOf 24 = 1 := by kernel_rfl
  match cs, hl with
  | [a0, a1, a2, a3, a4, a5, a6, a7, a8], _ =>
    obtain ⟨n0, y0, h0⟩ : ∃ n y, DataW.trod enc Try.prog W 0 (fun _ => true) true n 9 (([a0, a1, a2, a3, a4, a5, a6, a7, a8].drop 0).take (Try.prog.cellsOf 9)) = some y := hp 0 _ rfl
    obtain ⟨n1, y1, h1⟩ : ∃ n y, DataW.trod enc Try.prog W 0 (fun _ => true) true n 3 (([a0, a1, a2, a3, a4, a5, a6, a7, a8].drop 1).take (Try.prog.cellsOf 3)) = some y := hp 1 _ rfl
    obtain ⟨n2, y2, h2⟩ : ∃ n y, DataW.trod enc Try.prog W 0 (fun _ => true) true n 9 (([a0, a1, a2, a3, a4, a5, a6, a7, a8].drop 2).take (Try.prog.cellsOf 9)) = some y := hp 2 _ rfl
    obtain ⟨n3, y3, h3⟩ : ∃ n y, DataW.trod enc Try.prog W 0 (fun _ => true) true n 9 (([a0, a1, a2, a3, a4, a5, a6, a7, a8].drop 3).take (Try.prog.cellsOf 9)) = some y := hp 3 _ rfl
    obtain ⟨n4, y4, h4⟩ : ∃ n y, DataW.trod enc Try.prog W 0 (fun _ => true) true n 23 (([a0, a1, a2, a3, a4, a5, a6, a7, a8].drop 4).take (Try.prog.cellsOf 23)) = some y := hp 4 _ rfl
    obtain ⟨n5, y5, h5⟩ : ∃ n y, DataW.trod enc Try.prog W 0 (fun _ => true) true n 3 (([a0, a1, a2, a3, a4, a5, a6, a7, a8].drop 5).take (Try.prog.cellsOf 3)) = some y := hp 5 _ rfl
    obtain ⟨n6, y6, h6⟩ : ∃ n y, DataW.trod enc Try.prog W 0 (fun _ => true) true n 2 (([a0, a1, a2, a3, a4, a5, a6, a7, a8].drop 6).take (Try.prog.cellsOf 2)) = some y := hp 6 _ rfl
    obtain ⟨n7, y7, h7⟩ : ∃ n y, DataW.trod enc Try.prog W 0 (fun _ => true) true n 24 (([a0, a1, a2, a3, a4, a5, a6, a7, a8].drop 7).take (Try.prog.cellsOf 24)) = some y := hp 7 _ rfl
    obtain ⟨n8, y8, h8⟩ : ∃ n y, DataW.trod enc Try.prog W 0 (fun _ => true) true n 4 (([a0, a1, a2, a3, a4, a5, a6, a7, a8].drop 8).take (Try.prog.cellsOf 4)) = some y := hp 8 _ rfl
    simp only [c2, c3, c4, c9, c23, c24, List.drop_zero, List.drop_succ_cons, List.take_succ_cons, List.take_zero] at h0 h1 h2 h3 h4 h5 h6 h7 h8
    obtain ⟨s0, e0⟩ := str_of h0
    obtain ⟨z1, e1⟩ := int_of (k := .i64) h1
    obtain ⟨s2, e2⟩ := str_of h2
    obtain ⟨s3, e3⟩ := str_of h3
    obtain ⟨v4, l4, e4, r4⟩ := strs_of h4
    obtain ⟨z5, e5⟩ := int_of (k := .i64) h5
    obtain ⟨z6, e6⟩ := int_of (k := .i64) h6
    obtain ⟨z7, e7⟩ := int_of (k := .u64) h7
    obtain ⟨b8, e8⟩ := bool_of h8
    cases e0; cases e1; cases e2; cases e3; cases e4; cases e5; cases e6; cases e7; cases e8
    exact ⟨(_, ⟨s0, z1, s2, s3, l4, z5, z6, z7, b8⟩), rfl, r4⟩
end Go.Proofs.Ytkepgbimlolemaa
