/- What the law 'ReachNobody' uses. No condition. -/
import Derived.Test.YtenilfmlfldogaaGreatKReachNobodyC
import Derived.Test.YtenilfmlfldogaaGreatKReachNobodyH
import Derived.Test.YtenilfmlfldogaaGreatKReachNobodyL
namespace Go.Proofs.YtenilfmlfldogaaGreat
open Tryz (prog)
set_option linter.unusedVariables false
set_option maxRecDepth 4000
theorem str_fit {t : TypeId} [u : Und prog t .string] {H : Type} {enc : TypeId × Value -> H} {W : World} {f : Nat} {cs : List Value} {x : DataW H × List MemPlace} (h : DataW.trod enc prog W 0 (λ _ => true) true f t cs = some x) : ∃ s : ByteArray, cs = [.string s] /\ s.size <= 9223372036854775807 := by
 cases f with
 | zero => simp [DataW.trod] at h
 | succ f =>
  unfold DataW.trod at h
  rw [u.h] at h
  split at h <;> simp_all
  rename_i s _
  exact Nat.le_trans h.1 (by decide)
set_option linter.unusedSimpArgs false
theorem ref_of {H : Type} {enc : TypeId × Value -> H} {W : World} {f : Nat} {cs : List Value} {x : DataW H × List MemPlace} (h : DataW.trod enc prog W 0 (λ _ => true) true f 30 cs = some x) : ∃ s i : ByteArray, cs = [.string s, .string i] /\ s.size <= 9223372036854775807 /\ i.size <= 9223372036854775807 := by
 obtain ⟨hl, hp⟩ := parts_of Tryz.underlying30 h
 have hc : Tryz.prog.cellsOf 30 = 2 := by kernel_rfl
 rw [hc] at hl
 have c9 : Tryz.prog.cellsOf 9 = 1 := by kernel_rfl
 match cs, hl with
 | [a0, a1], _ =>
  obtain ⟨n0, y0, h0⟩ : ∃ n y, DataW.trod enc prog W 0 (λ _ => true) true n 9 (([a0, a1].drop 0).take (Tryz.prog.cellsOf 9)) = some y := hp 0 _ rfl
  obtain ⟨n1, y1, h1⟩ : ∃ n y, DataW.trod enc prog W 0 (λ _ => true) true n 9 (([a0, a1].drop 1).take (Tryz.prog.cellsOf 9)) = some y := hp 1 _ rfl
  simp only [c9, List.drop_zero, List.drop_succ_cons, List.take_succ_cons, List.take_zero] at h0 h1
  obtain ⟨s0, e0, l0⟩ := str_fit h0
  obtain ⟨s1, e1, l1⟩ := str_fit h1
  cases e0; cases e1
  exact ⟨s0, s1, rfl, l0, l1⟩
end Go.Proofs.YtenilfmlfldogaaGreat
