/- What a law is given of calls upon a vault. No condition. -/
import Derived.Test.YtkepgbimlolemaaTokT
import Derived.Test.YtkepgbimlolemaaTokO
set_option linter.unusedVariables false
set_option maxRecDepth 4000
namespace Go.Proofs.Ytkepgbimlolemaa
def TDo.is (R : Rds) (d : TDo) : Prop := TokR R (d.w, d.t)
theorem tdo_of {H : Type} {enc : TypeId × Value → H} {W : World} {f : Nat} {cs : List Value} {x : DataW H × List MemPlace} (h : DataW.trod enc Try.prog W 0 (fun _ => true) true f 28 cs = some x) : ∃ d : TDo, cs = d.enc ∧ d.is (Rw W) ∧ ∀ u ∈ d.enc, oneCell u = true := by
  obtain ⟨hl, hp⟩ := parts_of Try.underlying28 h
  have hc : Try.prog.cellsOf 28 = 15 := by kernel_rfl
  rw [hc] at hl
  have c2 : Try.prog.cellsOf 2 = 1 := by kernel_rfl
  have c3 : Try.prog.cellsOf 3 = 1 := by kernel_rfl
  have c9 : Try.prog.cellsOf 9 = 1 := by kernel_rfl
  have c26 : Try.prog.cellsOf 26 = 9 := by kernel_rfl
  match cs, hl with
  | [a0, a1, a2, a3, a4, a5, a6, a7, a8, a9, a10, a11, a12, a13, a14], _ =>
    obtain ⟨n0, y0, h0⟩ : ∃ n y, DataW.trod enc Try.prog W 0 (fun _ => true) true n 3 (([a0, a1, a2, a3, a4, a5, a6, a7, a8, a9, a10, a11, a12, a13, a14].drop 0).take (Try.prog.cellsOf 3)) = some y := hp 0 _ rfl
    obtain ⟨n1, y1, h1⟩ : ∃ n y, DataW.trod enc Try.prog W 0 (fun _ => true) true n 26 (([a0, a1, a2, a3, a4, a5, a6, a7, a8, a9, a10, a11, a12, a13, a14].drop 1).take (Try.prog.cellsOf 26)) = some y := hp 1 _ rfl
    obtain ⟨n2, y2, h2⟩ : ∃ n y, DataW.trod enc Try.prog W 0 (fun _ => true) true n 9 (([a0, a1, a2, a3, a4, a5, a6, a7, a8, a9, a10, a11, a12, a13, a14].drop 10).take (Try.prog.cellsOf 9)) = some y := hp 2 _ rfl
    obtain ⟨n3, y3, h3⟩ : ∃ n y, DataW.trod enc Try.prog W 0 (fun _ => true) true n 9 (([a0, a1, a2, a3, a4, a5, a6, a7, a8, a9, a10, a11, a12, a13, a14].drop 11).take (Try.prog.cellsOf 9)) = some y := hp 3 _ rfl
    obtain ⟨n4, y4, h4⟩ : ∃ n y, DataW.trod enc Try.prog W 0 (fun _ => true) true n 9 (([a0, a1, a2, a3, a4, a5, a6, a7, a8, a9, a10, a11, a12, a13, a14].drop 12).take (Try.prog.cellsOf 9)) = some y := hp 4 _ rfl
    obtain ⟨n5, y5, h5⟩ : ∃ n y, DataW.trod enc Try.prog W 0 (fun _ => true) true n 3 (([a0, a1, a2, a3, a4, a5, a6, a7, a8, a9, a10, a11, a12, a13, a14].drop 13).take (Try.prog.cellsOf 3)) = some y := hp 5 _ rfl
    obtain ⟨n6, y6, h6⟩ : ∃ n y, DataW.trod enc Try.prog W 0 (fun _ => true) true n 2 (([a0, a1, a2, a3, a4, a5, a6, a7, a8, a9, a10, a11, a12, a13, a14].drop 14).take (Try.prog.cellsOf 2)) = some y := hp 6 _ rfl
    simp only [c2, c3, c9, c26, List.drop_zero, List.drop_succ_cons, List.take_succ_cons, List.take_zero] at h0 h1 h2 h3 h4 h5 h6
    obtain ⟨z0, e0⟩ := int_of (k := .i64) h0
    obtain ⟨⟨w, t⟩, e1, ht⟩ := tok_of h1
    obtain ⟨s2, e2⟩ := str_of h2
    obtain ⟨s3, e3⟩ := str_of h3
    obtain ⟨s4, e4⟩ := str_of h4
    obtain ⟨z5, e5⟩ := int_of (k := .i64) h5
    obtain ⟨z6, e6⟩ := int_of (k := .i64) h6
    have i1 := ht.oneCell.h
    cases e0; cases e1; cases e2; cases e3; cases e4; cases e5; cases e6
    refine ⟨⟨z0, w, t, s2, s3, s4, z5, z6⟩, rfl, ht, ?_⟩
    intro u hu
    simp only [TDo.enc, List.mem_cons, List.not_mem_nil, or_false] at hu
    rcases hu with rfl | rfl | rfl | rfl | rfl | rfl | rfl | rfl | rfl | rfl | rfl | rfl | rfl | rfl | rfl <;> first | rfl | assumption
end Go.Proofs.Ytkepgbimlolemaa
