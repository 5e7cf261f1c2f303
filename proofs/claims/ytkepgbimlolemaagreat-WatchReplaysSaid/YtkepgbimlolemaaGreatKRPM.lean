/- What the law 'RP' uses of this prover's engine, facts and walks. No condition. -/
import Derived.Test.YtkepgbimlolemaaGreatKRPC
import Derived.Test.YtkepgbimlolemaaGreatKRPG
import Derived.Test.YtkepgbimlolemaaGreatKRPL
set_option linter.unusedVariables false
set_option maxRecDepth 4000
namespace Go.Proofs.YtkepgbimlolemaaGreat
theorem bool_of {t : TypeId} [s : ShT Tryz.prog t [.b]] {H : Type} {enc : TypeId × Value → H} {W : World} {f : Nat} {cs : List Value} {x : DataW H × List MemPlace} (h : DataW.trod enc Tryz.prog W 0 (fun _ => true) true f t cs = some x) : ∃ z : Bool, cs = [.bool z] := by
  have hk := s.h enc W 0 _ true f cs x h
  match cs, hk with
  | [a], hk =>
    obtain ⟨a, rfl⟩ := ck_b hk.1
    exact ⟨a, rfl⟩
theorem str_fit {t : TypeId} [u : Und Tryz.prog t .string] {H : Type} {enc : TypeId × Value → H} {W : World} {f : Nat} {cs : List Value} {x : DataW H × List MemPlace} (h : DataW.trod enc Tryz.prog W 0 (fun _ => true) true f t cs = some x) : ∃ s : ByteArray, cs = [.string s] ∧ s.size ≤ 9223372036854775807 := by
  cases f with
  | zero => simp [DataW.trod] at h
  | succ f =>
    unfold DataW.trod at h
    rw [u.h] at h
    split at h <;> simp_all
    rename_i s _
    exact Nat.le_trans h.1 (by decide)
theorem int_fit {t : TypeId} {k : IntKind} [u : Und Tryz.prog t (.int k)] {H : Type} {enc : TypeId × Value → H} {W : World} {f : Nat} {cs : List Value} {x : DataW H × List MemPlace} (h : DataW.trod enc Tryz.prog W 0 (fun _ => true) true f t cs = some x) : ∃ z : Int, cs = [.int k z] ∧ k.min ≤ z ∧ z ≤ k.max := by
  obtain ⟨n, rfl, _, hw⟩ := DataW.trod_int u.h h
  have hw : (Lit.int k n).wf = true := hw
  simp only [Lit.wf, Bool.and_eq_true, decide_eq_true_eq] at hw
  exact ⟨n, rfl, hw⟩
end Go.Proofs.YtkepgbimlolemaaGreat
set_option linter.unusedVariables false
set_option linter.unusedSimpArgs false
set_option maxRecDepth 4000
namespace Go.Proofs.YtkepgbimlolemaaGreat
theorem ref_of {H : Type} {enc : TypeId × Value → H} {W : World} {f : Nat} {cs : List Value} {x : DataW H × List MemPlace} (h : DataW.trod enc Tryz.prog W 0 (fun _ => true) true f 27 cs = some x) : ∃ s i : ByteArray, cs = [.string s, .string i] ∧ s.size ≤ 9223372036854775807 ∧ i.size ≤ 9223372036854775807 := by
  obtain ⟨hl, hp⟩ := parts_of Tryz.underlying27 h
  have hc : Tryz.prog.cellsOf 27 = 2 := by kernel_rfl
  rw [hc] at hl
  have c9 : Tryz.prog.cellsOf 9 = 1 := by kernel_rfl
  match cs, hl with
  | [a0, a1], _ =>
    obtain ⟨n0, y0, h0⟩ : ∃ n y, DataW.trod enc Tryz.prog W 0 (fun _ => true) true n 9 (([a0, a1].drop 0).take (Tryz.prog.cellsOf 9)) = some y := hp 0 _ rfl
    obtain ⟨n1, y1, h1⟩ : ∃ n y, DataW.trod enc Tryz.prog W 0 (fun _ => true) true n 9 (([a0, a1].drop 1).take (Tryz.prog.cellsOf 9)) = some y := hp 1 _ rfl
    simp only [c9, List.drop_zero, List.drop_succ_cons, List.take_succ_cons, List.take_zero] at h0 h1
    obtain ⟨s0, e0, l0⟩ := str_fit h0
    obtain ⟨s1, e1, l1⟩ := str_fit h1
    cases e0; cases e1
    exact ⟨s0, s1, rfl, l0, l1⟩
theorem sub_of {H : Type} {enc : TypeId × Value → H} {W : World} {f : Nat} {cs : List Value} {x : DataW H × List MemPlace} (h : DataW.trod enc Tryz.prog W 0 (fun _ => true) true f 34 cs = some x) : ∃ s : Sub, cs = s.enc ∧ s.us.size ≤ 9223372036854775807 ∧ s.ss.size ≤ 9223372036854775807 ∧ s.si.size ≤ 9223372036854775807 ∧ s.sr.size ≤ 9223372036854775807 := by
  obtain ⟨hl, hp⟩ := parts_of Tryz.underlying34 h
  have hc : Tryz.prog.cellsOf 34 = 4 := by kernel_rfl
  rw [hc] at hl
  have c9 : Tryz.prog.cellsOf 9 = 1 := by kernel_rfl
  have c27 : Tryz.prog.cellsOf 27 = 2 := by kernel_rfl
  match cs, hl with
  | [a0, a1, a2, a3], _ =>
    obtain ⟨n0, y0, h0⟩ : ∃ n y, DataW.trod enc Tryz.prog W 0 (fun _ => true) true n 9 (([a0, a1, a2, a3].drop 0).take (Tryz.prog.cellsOf 9)) = some y := hp 0 _ rfl
    obtain ⟨n1, y1, h1⟩ : ∃ n y, DataW.trod enc Tryz.prog W 0 (fun _ => true) true n 27 (([a0, a1, a2, a3].drop 1).take (Tryz.prog.cellsOf 27)) = some y := hp 1 _ rfl
    obtain ⟨n2, y2, h2⟩ : ∃ n y, DataW.trod enc Tryz.prog W 0 (fun _ => true) true n 9 (([a0, a1, a2, a3].drop 3).take (Tryz.prog.cellsOf 9)) = some y := hp 2 _ rfl
    simp only [c9, c27, List.drop_zero, List.drop_succ_cons, List.take_succ_cons, List.take_zero] at h0 h1 h2
    obtain ⟨s0, e0, l0⟩ := str_fit h0
    obtain ⟨s1, s2, e1, l1, l2⟩ := ref_of h1
    obtain ⟨s3, e2, l3⟩ := str_fit h2
    cases e0; cases e1; cases e2
    exact ⟨⟨s0, s1, s2, s3⟩, rfl, l0, l1, l2, l3⟩
theorem tpl_of {H : Type} {enc : TypeId × Value → H} {W : World} {f : Nat} {cs : List Value} {x : DataW H × List MemPlace} (h : DataW.trod enc Tryz.prog W 0 (fun _ => true) true f 36 cs = some x) : ∃ t : Tpl, cs = t.enc ∧ t.fits := by
  obtain ⟨hl, hp⟩ := parts_of Tryz.underlying36 h
  have hc : Tryz.prog.cellsOf 36 = 7 := by kernel_rfl
  rw [hc] at hl
  have c9 : Tryz.prog.cellsOf 9 = 1 := by kernel_rfl
  have c27 : Tryz.prog.cellsOf 27 = 2 := by kernel_rfl
  have c34 : Tryz.prog.cellsOf 34 = 4 := by kernel_rfl
  match cs, hl with
  | [a0, a1, a2, a3, a4, a5, a6], _ =>
    obtain ⟨n0, y0, h0⟩ : ∃ n y, DataW.trod enc Tryz.prog W 0 (fun _ => true) true n 27 (([a0, a1, a2, a3, a4, a5, a6].drop 0).take (Tryz.prog.cellsOf 27)) = some y := hp 0 _ rfl
    obtain ⟨n1, y1, h1⟩ : ∃ n y, DataW.trod enc Tryz.prog W 0 (fun _ => true) true n 9 (([a0, a1, a2, a3, a4, a5, a6].drop 2).take (Tryz.prog.cellsOf 9)) = some y := hp 1 _ rfl
    obtain ⟨n2, y2, h2⟩ : ∃ n y, DataW.trod enc Tryz.prog W 0 (fun _ => true) true n 34 (([a0, a1, a2, a3, a4, a5, a6].drop 3).take (Tryz.prog.cellsOf 34)) = some y := hp 2 _ rfl
    simp only [c9, c27, c34, List.drop_zero, List.drop_succ_cons, List.take_succ_cons, List.take_zero] at h0 h1 h2
    obtain ⟨s0, s1, e0, l0, l1⟩ := ref_of h0
    obtain ⟨s2, e1, l2⟩ := str_fit h1
    obtain ⟨⟨s3, s4, s5, s6⟩, e2, l3, l4, l5, l6⟩ := sub_of h2
    cases e0; cases e1; cases e2
    exact ⟨⟨s0, s1, s2, s3, s4, s5, s6⟩, rfl, l0, l1, l2, l3, l4, l5, l6⟩
theorem chg_of {H : Type} {enc : TypeId × Value → H} {W : World} {f : Nat} {cs : List Value} {x : DataW H × List MemPlace} (h : DataW.trod enc Tryz.prog W 0 (fun _ => true) true f 73 cs = some x) : ∃ c : Chg, cs = c.enc ∧ c.t.fits := by
  obtain ⟨hl, hp⟩ := parts_of Tryz.underlying73 h
  have hc : Tryz.prog.cellsOf 73 = 8 := by kernel_rfl
  rw [hc] at hl
  have c4 : Tryz.prog.cellsOf 4 = 1 := by kernel_rfl
  have c36 : Tryz.prog.cellsOf 36 = 7 := by kernel_rfl
  match cs, hl with
  | [a0, a1, a2, a3, a4, a5, a6, a7], _ =>
    obtain ⟨n0, y0, h0⟩ : ∃ n y, DataW.trod enc Tryz.prog W 0 (fun _ => true) true n 4 (([a0, a1, a2, a3, a4, a5, a6, a7].drop 0).take (Tryz.prog.cellsOf 4)) = some y := hp 0 _ rfl
    obtain ⟨n1, y1, h1⟩ : ∃ n y, DataW.trod enc Tryz.prog W 0 (fun _ => true) true n 36 (([a0, a1, a2, a3, a4, a5, a6, a7].drop 1).take (Tryz.prog.cellsOf 36)) = some y := hp 1 _ rfl
    simp only [c4, c36, List.drop_zero, List.drop_succ_cons, List.take_succ_cons, List.take_zero] at h0 h1
    obtain ⟨b0, e0⟩ := bool_of h0
    obtain ⟨t, e1, ht⟩ := tpl_of h1
    cases e0; cases e1
    exact ⟨⟨b0, t⟩, rfl, ht⟩
theorem tpls_of {H : Type} {enc : TypeId × Value → H} {W : World} {f : Nat} {cs : List Value} {x : DataW H × List MemPlace} (h : DataW.trod enc Tryz.prog W 0 (fun _ => true) true f 24 cs = some x) : ∃ v l, cs = [v] ∧ RS (Rw W) 7 Tpl.enc v l ∧ ∀ t ∈ l, t.fits :=
  RS.ofCells (D := fun t : Tpl => t.fits) (sz := 7) (en := Tpl.enc) Tryz.underlying24 (by kernel_rfl) (by omega) h fun n cs x hx => by
    obtain ⟨t, rfl, ht⟩ := tpl_of hx
    exact ⟨rfl, (Tpl.one t).h, t, rfl, ht⟩
theorem u64_of {H : Type} {enc : TypeId × Value → H} {W : World} {f : Nat} {cs : List Value} {x : DataW H × List MemPlace} (h : DataW.trod enc Tryz.prog W 0 (fun _ => true) true f 23 cs = some x) : ∃ z : Int, cs = [.int .u64 z] ∧ 0 ≤ z ∧ z ≤ 18446744073709551615 := by
  obtain ⟨z, e, h1, h2⟩ := int_fit (k := .u64) h
  refine ⟨z, e, ?_, ?_⟩
  · simpa [IntKind.min, IntKind.bits, IntKind.signed] using h1
  · have : IntKind.u64.max = 18446744073709551615 := by decide
    omega
end Go.Proofs.YtkepgbimlolemaaGreat
