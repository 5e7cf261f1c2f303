/- What the law 'ReachB' uses. No condition. -/
import Derived.Test.YtenilfmlfldogaaGreatKReachBC
import Derived.Test.YtenilfmlfldogaaGreatKReachBH
import Derived.Test.YtenilfmlfldogaaGreatKReachBM
namespace Go.Proofs.YtenilfmlfldogaaGreat
open Tryz (prog)
set_option linter.unusedVariables false
set_option maxRecDepth 4000
theorem str_of {H : Type} {enc : TypeId × Value -> H} {W : World} {f : Nat} {cs : List Value} {x : DataW H × List MemPlace} (h : DataW.trod enc prog W 0 (λ _ => true) true f 9 cs = some x) : ∃ s : ByteArray, cs = [.string s] := by
 have hk := fT9.h enc W 0 _ true f cs x h
 match cs, hk with
 | [a], hk =>
  obtain ⟨a, rfl⟩ := ck_s hk.1
  exact ⟨a, rfl⟩
theorem int_of {t : TypeId} {k : IntKind} [s : ShT prog t [.i k]] {H : Type} {enc : TypeId × Value -> H} {W : World} {f : Nat} {cs : List Value} {x : DataW H × List MemPlace} (h : DataW.trod enc prog W 0 (λ _ => true) true f t cs = some x) : ∃ z : Int, cs = [.int k z] := by
 have hk := s.h enc W 0 _ true f cs x h
 match cs, hk with
 | [a], hk =>
  obtain ⟨a, rfl⟩ := ck_i hk.1
  exact ⟨a, rfl⟩
theorem bool_of {t : TypeId} [s : ShT prog t [.b]] {H : Type} {enc : TypeId × Value -> H} {W : World} {f : Nat} {cs : List Value} {x : DataW H × List MemPlace} (h : DataW.trod enc prog W 0 (λ _ => true) true f t cs = some x) : ∃ z : Bool, cs = [.bool z] := by
 have hk := s.h enc W 0 _ true f cs x h
 match cs, hk with
 | [a], hk =>
  obtain ⟨a, rfl⟩ := ck_b hk.1
  exact ⟨a, rfl⟩
theorem str_fit {t : TypeId} [u : Und prog t .string] {H : Type} {enc : TypeId × Value -> H} {W : World} {f : Nat} {cs : List Value} {x : DataW H × List MemPlace} (h : DataW.trod enc prog W 0 (λ _ => true) true f t cs = some x) : ∃ s : ByteArray, cs = [.string s] /\ s.size <= 9223372036854775807 := by
 cases f with
 | zero => simp [DataW.trod] at h
 | succ f =>
  unfold DataW.trod at h
  rw [u.h] at h
  split at h <;> simp_all
  rename_i s _
  exact Nat.le_trans h.1 (by decide)
theorem int_fit {t : TypeId} {k : IntKind} [u : Und prog t (.int k)] {H : Type} {enc : TypeId × Value -> H} {W : World} {f : Nat} {cs : List Value} {x : DataW H × List MemPlace} (h : DataW.trod enc prog W 0 (λ _ => true) true f t cs = some x) : ∃ z : Int, cs = [.int k z] /\ k.min <= z /\ z <= k.max := by
 obtain ⟨n, rfl, _, hw⟩ := DataW.trod_int u.h h
 have hw : (Lit.int k n).wf = true := hw
 simp only [Lit.wf, Bool.and_eq_true, decide_eq_true_eq] at hw
 exact ⟨n, rfl, hw⟩
set_option linter.unusedSimpArgs false
theorem ref_of {H : Type} {enc : TypeId × Value -> H} {W : World} {f : Nat} {cs : List Value} {x : DataW H × List MemPlace} (h : DataW.trod enc prog W 0 (λ _ => true) true f 30 cs = some x) : ∃ s i : ByteArray, cs = [.string s, .string i] /\ s.size <= 9223372036854775807 /\ i.size <= 9223372036854775807 := by
 obtain ⟨hl, hp⟩ := parts_of Tryz.underlying30 h
 have hc : Tryz.prog.cellsOf 30 = 2 := by kernel_rfl
 rw [hc] at hl
 have c9 : Tryz.prog.cellsOf 9 = 1 := by kernel_rfl
 match cs, hl with
 | [a0, a1], _ =>
  obtain ⟨n0, y0, h0⟩ : ∃ n y, DataW.trod enc prog W 0 (λ _ => true) true n 9 (([a0, a1].drop 0).take (Tryz.prog.cellsOf 9)) = some y := hp 0 _ rfl
  obtain ⟨n1, y1, h1⟩ : ∃ n y, DataW.trod enc prog W 0 (λ _ => true) true n 9 (([a0, a1].drop 1).take (Tryz.prog.cellsOf 9)) = some y := hp 1 _ rfl
  simp only [c9, List.drop_zero, List.drop_succ_cons, List.take_succ_cons, List.take_zero] at h0 h1
  obtain ⟨s0, e0, l0⟩ := str_fit h0
  obtain ⟨s1, e1, l1⟩ := str_fit h1
  cases e0; cases e1
  exact ⟨s0, s1, rfl, l0, l1⟩
theorem sub_of {H : Type} {enc : TypeId × Value -> H} {W : World} {f : Nat} {cs : List Value} {x : DataW H × List MemPlace} (h : DataW.trod enc prog W 0 (λ _ => true) true f 149 cs = some x) : ∃ s : Sub, cs = s.enc /\ s.us.size <= 9223372036854775807 /\ s.ss.size <= 9223372036854775807 /\ s.si.size <= 9223372036854775807 /\ s.sr.size <= 9223372036854775807 := by
 obtain ⟨hl, hp⟩ := parts_of Tryz.underlying149 h
 have hc : Tryz.prog.cellsOf 149 = 4 := by kernel_rfl
 rw [hc] at hl
 have c9 : Tryz.prog.cellsOf 9 = 1 := by kernel_rfl
 have c30 : Tryz.prog.cellsOf 30 = 2 := by kernel_rfl
 match cs, hl with
 | [a0, a1, a2, a3], _ =>
  obtain ⟨n0, y0, h0⟩ : ∃ n y, DataW.trod enc prog W 0 (λ _ => true) true n 9 (([a0, a1, a2, a3].drop 0).take (Tryz.prog.cellsOf 9)) = some y := hp 0 _ rfl
  obtain ⟨n1, y1, h1⟩ : ∃ n y, DataW.trod enc prog W 0 (λ _ => true) true n 30 (([a0, a1, a2, a3].drop 1).take (Tryz.prog.cellsOf 30)) = some y := hp 1 _ rfl
  obtain ⟨n2, y2, h2⟩ : ∃ n y, DataW.trod enc prog W 0 (λ _ => true) true n 9 (([a0, a1, a2, a3].drop 3).take (Tryz.prog.cellsOf 9)) = some y := hp 2 _ rfl
  simp only [c9, c30, List.drop_zero, List.drop_succ_cons, List.take_succ_cons, List.take_zero] at h0 h1 h2
  obtain ⟨s0, e0, l0⟩ := str_fit h0
  obtain ⟨s1, s2, e1, l1, l2⟩ := ref_of h1
  obtain ⟨s3, e2, l3⟩ := str_fit h2
  cases e0; cases e1; cases e2
  exact ⟨⟨s0, s1, s2, s3⟩, rfl, l0, l1, l2, l3⟩
theorem tpl_of {H : Type} {enc : TypeId × Value -> H} {W : World} {f : Nat} {cs : List Value} {x : DataW H × List MemPlace} (h : DataW.trod enc prog W 0 (λ _ => true) true f 151 cs = some x) : ∃ t : Tpl, cs = t.enc /\ t.fits := by
 obtain ⟨hl, hp⟩ := parts_of Tryz.underlying151 h
 have hc : Tryz.prog.cellsOf 151 = 7 := by kernel_rfl
 rw [hc] at hl
 have c9 : Tryz.prog.cellsOf 9 = 1 := by kernel_rfl
 have c30 : Tryz.prog.cellsOf 30 = 2 := by kernel_rfl
 have c149 : Tryz.prog.cellsOf 149 = 4 := by kernel_rfl
 match cs, hl with
 | [a0, a1, a2, a3, a4, a5, a6], _ =>
  obtain ⟨n0, y0, h0⟩ : ∃ n y, DataW.trod enc prog W 0 (λ _ => true) true n 30 (([a0, a1, a2, a3, a4, a5, a6].drop 0).take (Tryz.prog.cellsOf 30)) = some y := hp 0 _ rfl
  obtain ⟨n1, y1, h1⟩ : ∃ n y, DataW.trod enc prog W 0 (λ _ => true) true n 9 (([a0, a1, a2, a3, a4, a5, a6].drop 2).take (Tryz.prog.cellsOf 9)) = some y := hp 1 _ rfl
  obtain ⟨n2, y2, h2⟩ : ∃ n y, DataW.trod enc prog W 0 (λ _ => true) true n 149 (([a0, a1, a2, a3, a4, a5, a6].drop 3).take (Tryz.prog.cellsOf 149)) = some y := hp 2 _ rfl
  simp only [c9, c30, c149, List.drop_zero, List.drop_succ_cons, List.take_succ_cons, List.take_zero] at h0 h1 h2
  obtain ⟨s0, s1, e0, l0, l1⟩ := ref_of h0
  obtain ⟨s2, e1, l2⟩ := str_fit h1
  obtain ⟨⟨s3, s4, s5, s6⟩, e2, l3, l4, l5, l6⟩ := sub_of h2
  cases e0; cases e1; cases e2
  exact ⟨⟨s0, s1, s2, s3, s4, s5, s6⟩, rfl, l0, l1, l2, l3, l4, l5, l6⟩
theorem filter_of {H : Type} {enc : TypeId × Value -> H} {W : World} {f : Nat} {cs : List Value} {x : DataW H × List MemPlace} (h : DataW.trod enc prog W 0 (λ _ => true) true f 60 cs = some x) : ∃ t : Tpl, cs = t.enc := by
 obtain ⟨hl, hp⟩ := parts_of Tryz.underlying60 h
 have hc : Tryz.prog.cellsOf 60 = 7 := by kernel_rfl
 rw [hc] at hl
 have c9 : Tryz.prog.cellsOf 9 = 1 := by kernel_rfl
 have c30 : Tryz.prog.cellsOf 30 = 2 := by kernel_rfl
 match cs, hl with
 | [a0, a1, a2, a3, a4, a5, a6], _ =>
  obtain ⟨n0, y0, h0⟩ : ∃ n y, DataW.trod enc prog W 0 (λ _ => true) true n 9 (([a0, a1, a2, a3, a4, a5, a6].drop 0).take (Tryz.prog.cellsOf 9)) = some y := hp 0 _ rfl
  obtain ⟨n1, y1, h1⟩ : ∃ n y, DataW.trod enc prog W 0 (λ _ => true) true n 9 (([a0, a1, a2, a3, a4, a5, a6].drop 1).take (Tryz.prog.cellsOf 9)) = some y := hp 1 _ rfl
  obtain ⟨n2, y2, h2⟩ : ∃ n y, DataW.trod enc prog W 0 (λ _ => true) true n 9 (([a0, a1, a2, a3, a4, a5, a6].drop 2).take (Tryz.prog.cellsOf 9)) = some y := hp 2 _ rfl
  obtain ⟨n3, y3, h3⟩ : ∃ n y, DataW.trod enc prog W 0 (λ _ => true) true n 9 (([a0, a1, a2, a3, a4, a5, a6].drop 3).take (Tryz.prog.cellsOf 9)) = some y := hp 3 _ rfl
  obtain ⟨n4, y4, h4⟩ : ∃ n y, DataW.trod enc prog W 0 (λ _ => true) true n 30 (([a0, a1, a2, a3, a4, a5, a6].drop 4).take (Tryz.prog.cellsOf 30)) = some y := hp 4 _ rfl
  obtain ⟨n5, y5, h5⟩ : ∃ n y, DataW.trod enc prog W 0 (λ _ => true) true n 9 (([a0, a1, a2, a3, a4, a5, a6].drop 6).take (Tryz.prog.cellsOf 9)) = some y := hp 5 _ rfl
  simp only [c9, c30, List.drop_zero, List.drop_succ_cons, List.take_succ_cons, List.take_zero] at h0 h1 h2 h3 h4 h5
  obtain ⟨s0, e0⟩ := str_of h0
  obtain ⟨s1, e1⟩ := str_of h1
  obtain ⟨s2, e2⟩ := str_of h2
  obtain ⟨s3, e3⟩ := str_of h3
  obtain ⟨s4, s5, e4, _, _⟩ := ref_of h4
  obtain ⟨s6, e5⟩ := str_of h5
  cases e0; cases e1; cases e2; cases e3; cases e4; cases e5
  exact ⟨⟨s0, s1, s2, s3, s4, s5, s6⟩, rfl⟩
theorem chg_of {H : Type} {enc : TypeId × Value -> H} {W : World} {f : Nat} {cs : List Value} {x : DataW H × List MemPlace} (h : DataW.trod enc prog W 0 (λ _ => true) true f 153 cs = some x) : ∃ c : Chg, cs = c.enc /\ c.t.fits := by
 obtain ⟨hl, hp⟩ := parts_of Tryz.underlying153 h
 have hc : Tryz.prog.cellsOf 153 = 8 := by kernel_rfl
 rw [hc] at hl
 have c4 : Tryz.prog.cellsOf 4 = 1 := by kernel_rfl
 have c151 : Tryz.prog.cellsOf 151 = 7 := by kernel_rfl
 match cs, hl with
 | [a0, a1, a2, a3, a4, a5, a6, a7], _ =>
  obtain ⟨n0, y0, h0⟩ : ∃ n y, DataW.trod enc prog W 0 (λ _ => true) true n 4 (([a0, a1, a2, a3, a4, a5, a6, a7].drop 0).take (Tryz.prog.cellsOf 4)) = some y := hp 0 _ rfl
  obtain ⟨n1, y1, h1⟩ : ∃ n y, DataW.trod enc prog W 0 (λ _ => true) true n 151 (([a0, a1, a2, a3, a4, a5, a6, a7].drop 1).take (Tryz.prog.cellsOf 151)) = some y := hp 1 _ rfl
  simp only [c4, c151, List.drop_zero, List.drop_succ_cons, List.take_succ_cons, List.take_zero] at h0 h1
  obtain ⟨b0, e0⟩ := bool_of h0
  obtain ⟨t, e1, ht⟩ := tpl_of h1
  cases e0; cases e1
  exact ⟨⟨b0, t⟩, rfl, ht⟩
theorem tpls_of {H : Type} {enc : TypeId × Value -> H} {W : World} {f : Nat} {cs : List Value} {x : DataW H × List MemPlace} (h : DataW.trod enc prog W 0 (λ _ => true) true f 57 cs = some x) : ∃ v l, cs = [v] /\ RS (Rw W) 7 Tpl.enc v l /\ ∀ t ∈ l, t.fits :=
 RS.ofCells (D := λ t : Tpl => t.fits) (sz := 7) (en := Tpl.enc) Tryz.underlying57 (by kernel_rfl) (by omega) h λ n cs x hx => by
  obtain ⟨t, rfl, ht⟩ := tpl_of hx
  exact ⟨rfl, (Tpl.one t).h, t, rfl, ht⟩
theorem chgs_of {H : Type} {enc : TypeId × Value -> H} {W : World} {f : Nat} {cs : List Value} {x : DataW H × List MemPlace} (h : DataW.trod enc prog W 0 (λ _ => true) true f 58 cs = some x) : ∃ v l, cs = [v] /\ RS (Rw W) 8 Chg.enc v l /\ ∀ c ∈ l, c.t.fits :=
 RS.ofCells (D := λ c : Chg => c.t.fits) (sz := 8) (en := Chg.enc) Tryz.underlying58 (by kernel_rfl) (by omega) h λ n cs x hx => by
  obtain ⟨t, rfl, ht⟩ := chg_of hx
  exact ⟨rfl, (Chg.one t).h, t, rfl, ht⟩
theorem u64_of {H : Type} {enc : TypeId × Value -> H} {W : World} {f : Nat} {cs : List Value} {x : DataW H × List MemPlace} (h : DataW.trod enc prog W 0 (λ _ => true) true f 31 cs = some x) : ∃ z : Int, cs = [.int .u64 z] /\ 0 <= z /\ z <= 18446744073709551615 := by
 obtain ⟨z, e, h1, h2⟩ := int_fit (k := .u64) h
 refine ⟨z, e, ?_, ?_⟩
 ·simpa [IntKind.min, IntKind.bits, IntKind.signed] using h1
 ·have : IntKind.u64.max = 18446744073709551615 := by decide
  omega
theorem scall_of {H : Type} {enc : TypeId × Value -> H} {W : World} {f : Nat} {cs : List Value} {x : DataW H × List MemPlace} (h : DataW.trod enc prog W 0 (λ _ => true) true f 62 cs = some x) : ∃ c : SCall, cs = c.enc /\ c.is (Rw W) := by
 obtain ⟨hl, hp⟩ := parts_of Tryz.underlying62 h
 have hc : Tryz.prog.cellsOf 62 = 12 := by kernel_rfl
 rw [hc] at hl
 have c3 : Tryz.prog.cellsOf 3 = 1 := by kernel_rfl
 have c31 : Tryz.prog.cellsOf 31 = 1 := by kernel_rfl
 have c57 : Tryz.prog.cellsOf 57 = 1 := by kernel_rfl
 have c58 : Tryz.prog.cellsOf 58 = 1 := by kernel_rfl
 have c60 : Tryz.prog.cellsOf 60 = 7 := by kernel_rfl
 match cs, hl with
 | [a0, a1, a2, a3, a4, a5, a6, a7, a8, a9, a10, a11], _ =>
  obtain ⟨n0, y0, h0⟩ : ∃ n y, DataW.trod enc prog W 0 (λ _ => true) true n 3 (([a0, a1, a2, a3, a4, a5, a6, a7, a8, a9, a10, a11].drop 0).take (Tryz.prog.cellsOf 3)) = some y := hp 0 _ rfl
  obtain ⟨n1, y1, h1⟩ : ∃ n y, DataW.trod enc prog W 0 (λ _ => true) true n 57 (([a0, a1, a2, a3, a4, a5, a6, a7, a8, a9, a10, a11].drop 1).take (Tryz.prog.cellsOf 57)) = some y := hp 1 _ rfl
  obtain ⟨n2, y2, h2⟩ : ∃ n y, DataW.trod enc prog W 0 (λ _ => true) true n 57 (([a0, a1, a2, a3, a4, a5, a6, a7, a8, a9, a10, a11].drop 2).take (Tryz.prog.cellsOf 57)) = some y := hp 2 _ rfl
  obtain ⟨n3, y3, h3⟩ : ∃ n y, DataW.trod enc prog W 0 (λ _ => true) true n 58 (([a0, a1, a2, a3, a4, a5, a6, a7, a8, a9, a10, a11].drop 3).take (Tryz.prog.cellsOf 58)) = some y := hp 3 _ rfl
  obtain ⟨n4, y4, h4⟩ : ∃ n y, DataW.trod enc prog W 0 (λ _ => true) true n 60 (([a0, a1, a2, a3, a4, a5, a6, a7, a8, a9, a10, a11].drop 4).take (Tryz.prog.cellsOf 60)) = some y := hp 4 _ rfl
  obtain ⟨n5, y5, h5⟩ : ∃ n y, DataW.trod enc prog W 0 (λ _ => true) true n 31 (([a0, a1, a2, a3, a4, a5, a6, a7, a8, a9, a10, a11].drop 11).take (Tryz.prog.cellsOf 31)) = some y := hp 5 _ rfl
  simp only [c3, c31, c57, c58, c60, List.drop_zero, List.drop_succ_cons, List.take_succ_cons, List.take_zero] at h0 h1 h2 h3 h4 h5
  obtain ⟨z0, e0⟩ := int_of (k := .i64) h0
  obtain ⟨v1, l1, e1, r1, f1⟩ := tpls_of h1
  obtain ⟨v2, l2, e2, r2, f2⟩ := tpls_of h2
  obtain ⟨v3, l3, e3, r3, f3⟩ := chgs_of h3
  obtain ⟨t4, e4⟩ := filter_of h4
  obtain ⟨z5, e5, m0, m1⟩ := u64_of h5
  cases e0; cases e1; cases e2; cases e3; cases e4; cases e5
  exact ⟨⟨z0, _, _, _, t4, z5, l1, l2, l3⟩, rfl, r1, r2, r3, f1, f2, f3, m0, m1⟩
theorem scalls_of {W : World} {f : Nat} {H : Type} {enc : TypeId × Value -> H} {cs : List Value} {x : DataW H × List MemPlace} (h : DataW.trod enc prog W 0 (λ _ => true) true f 26 cs = some x) : ∃ v l, cs = [v] /\ RS (Rw W) 12 SCall.enc v l /\ ∀ c ∈ l, c.is (Rw W) :=
 RS.ofCells (D := λ c : SCall => c.is (Rw W)) (sz := 12) (en := SCall.enc) Tryz.underlying26 (by kernel_rfl) (by omega) h λ n cs x hx => by
  obtain ⟨c, rfl, hc⟩ := scall_of hx
  exact ⟨rfl, hc.ones.h, c, rfl, hc⟩
end Go.Proofs.YtenilfmlfldogaaGreat
