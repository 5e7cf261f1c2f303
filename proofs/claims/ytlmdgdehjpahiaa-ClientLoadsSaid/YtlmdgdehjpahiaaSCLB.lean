/- Sorting by a function, at one kind of elements: a heap's sort, turning round, breaking patterns, the sort of what is nearly in order. No condition. -/
import Derived.Test.YtlmdgdehjpahiaaSCLA
import Derived.Test.YtlmdgdehjpahiaaRnd
set_option linter.unusedVariables false
set_option maxRecDepth 4000
namespace Go.Proofs.Ytlmdgdehjpahiaa
namespace SCL
section
variable {c : CP → CP → Int} {ok : CP → Prop} {f : FuncId} {caps : List Value} [e : Ent Try.prog f]

theorem heap_spec (v : Value) (xs : List CP) (T : Seg) (a b : Nat) (R : Rds) (h : OS 35 4 encC v xs T) (hab : a ≤ b) (hb : b ≤ xs.length) (hl : xs.length ≤ 1000000000) (hf : FnC Try.prog f caps R (fun p : CP => Value.agg (encC p).toArray) c ok) (hok : ∀ x ∈ xs, ok x) (so : SO (ltc c)) :
    Spec Try.prog 140 [v, .int .i64 a, .int .i64 b, .func (.func f) #[] caps.toArray] R [T] fun u H' => ∃ T', H' = [T'] ∧ u = .tuple #[] ∧ ∃ ys, OS 35 4 encC v ys T' ∧ RP a b xs ys ∧ SR (ltc c) ys a b := by
  have iv := h.oneCell
  have so' := so.rev
  obtain ⟨n, hn⟩ : ∃ n, b = a + n := ⟨b - a, by omega⟩
  subst hn
  refine Spec.body Try.func140 rfl Try.results140 Try.ntmps140 rfl ?_
  refine .seq ?_
  refine .region ?_
  refine TriOps.q .move ?_
  refine TriOps.q .assign ?_
  refine .nil ?_
  refine seqQ_n ?_
  refine .seq ?_
  refine .region ?_
  refine TriOps.q .assign ?_
  refine .nil ?_
  refine seqQ_n ?_
  refine .seq ?_
  refine .region ?_
  refine TriOps.q .move ?_
  refine TriOps.q .move ?_
  refine TriOps.q (.i64 ((n : Nat) : Int) .sub ⟨by omega, by omega, by omega⟩) ?_
  refine TriOps.q .assign ?_
  refine .nil ?_
  refine seqQ_n ?_
  refine .seq ?_
  refine .seq ?_
  refine .region ?_
  refine TriOps.q .move ?_
  refine TriOps.q (.i64 ((n : Int) - 1) .sub ⟨rfl, by omega, by omega⟩) ?_
  refine TriOps.q (.i64 (((n - 1) / 2 : Nat) : Int) .quo ⟨tdiv2, by omega, by omega⟩) ?_
  refine TriOps.q .assign ?_
  refine .nil ?_
  refine seqQ_n ?_
  refine .block ?_
  refine .loop (X := Nat × Int × List CP × Seg) (fun y => (y.2.1 = (y.1 : Int) - 1 ∧ y.1 ≤ n + 1) ∧ OS 35 4 encC v y.2.2.1 y.2.2.2 ∧ RP a (a + n) xs y.2.2.1 ∧ HeapF (fun x y => ltc c y x) (y.2.2.1.drop a) n y.1) (fun y => [(0, v), (3, .func (.func f) #[] caps.toArray), (8, .int .i64 (a : Nat)), (9, .int .i64 ((0 : Nat) : Int)), (10, .int .i64 (n : Nat)), (11, .int .i64 y.2.1)]) (fun y => [y.2.2.2]) (fun y => y.1) ((n - 1) / 2 + 1, (((n - 1) / 2 : Nat) : Int), xs, T) ⟨⟨by simp only; omega, by simp only; omega⟩, h, .refl _, fun k h0 hk hp => by simp only [par] at hp; omega⟩ (((((((EnvLe.nil _).cons rfl).cons rfl).cons rfl).cons rfl).cons rfl).cons rfl) (HLe.refl _) ?_
  rintro ⟨m, z, ys, T1⟩ ⟨⟨hz, hm⟩, hO1, hR1, hH1⟩
  simp only at hz hm hO1 hR1 hH1 ⊢
  have hlen := hR1.length
  refine .seq ?_
  refine .seq ?_
  refine .region ?_
  refine TriOps.q .move ?_
  refine TriOps.q .geq ?_
  refine .nil ?_
  refine seqQ_n ?_
  refine .cond rfl (fun h1 => ?_) (fun h1 => ?_)
  · skip
    have hz0 : 0 ≤ z := of_decide_eq_true h1
    obtain ⟨k, rfl⟩ : ∃ k, m = k + 1 := ⟨m - 1, by omega⟩
    obtain rfl : z = (k : Int) := by omega
    refine .skip ?_
    refine seqQ_n ?_
    refine .seq ?_
    refine .block ?_
    refine .region ?_
    refine TriOps.q .move ?_
    refine TriOps.q .move ?_
    refine TriOps.q .move ?_
    refine TriOps.q .move ?_
    refine TriOps.q .move ?_
    refine TriOps.callM (sift_spec (c := c) (ok := ok) v ys T1 k n a _ hO1 (by omega) (by omega) (by omega) hf (fun x hx => hok x (hR1.perm.mem_iff.1 hx)) so) (fun u T2 hu => ?_)
    obtain ⟨rfl, zs, hO2, hR2, hH2⟩ := hu
    refine .nil ?_
    refine blkQ_n (seqQ_n ?_)
    refine .region ?_
    refine TriOps.q .move ?_
    refine TriOps.q (.i64 ((k : Int) - 1) .sub ⟨rfl, by omega, by omega⟩) ?_
    refine TriOps.q .assign ?_
    refine .nil ?_
    exact loopQ_i (k, (k : Int) - 1, zs, T2) ⟨⟨rfl, by simp only; omega⟩, hO2, hR1.trans hR2, hH2 hH1.hole⟩ (by simp only; omega) (((((((EnvLe.nil _).cons rfl).cons rfl).cons rfl).cons rfl).cons rfl).cons rfl) (HLe.refl _)
  · skip
    have hm0 : m = 0 := by have := of_decide_eq_false h1; omega
    subst hm0
    refine .exit (seqQ_x (loopQ_x (blkQ_x ?_)))
    refine seqQ_n ?_
    refine .seq ?_
    refine .region ?_
    refine TriOps.q .move ?_
    refine TriOps.q (.i64 ((n : Int) - 1) .sub ⟨rfl, by omega, by omega⟩) ?_
    refine TriOps.q .assign ?_
    refine .nil ?_
    refine seqQ_n ?_
    refine .block ?_
    refine .loop (X := Nat × Int × List CP × Seg) (fun y => (y.2.1 = (y.1 : Int) - 1 ∧ y.1 ≤ n) ∧ OS 35 4 encC v y.2.2.1 y.2.2.2 ∧ RP a (a + n) xs y.2.2.1 ∧ HeapF (fun x y => ltc c y x) (y.2.2.1.drop a) y.1 0 ∧ OX (ltc c) y.2.2.1 a (a + n) a (a + y.1)) (fun y => [(0, v), (3, .func (.func f) #[] caps.toArray), (8, .int .i64 (a : Nat)), (9, .int .i64 ((0 : Nat) : Int)), (10, .int .i64 (n : Nat)), (12, .int .i64 y.2.1)]) (fun y => [y.2.2.2]) (fun y => y.1) (n, (n : Int) - 1, ys, T1) ⟨⟨rfl, Nat.le_refl _⟩, hO1, hR1, hH1, OX.start⟩ (((((((EnvLe.nil _).cons rfl).cons rfl).cons rfl).cons rfl).cons rfl).cons rfl) (HLe.refl _) ?_
    rintro ⟨m, z2, zs, T2⟩ ⟨⟨hz2, hm2⟩, hO2, hR2, hH2, hX2⟩
    simp only at hz2 hm2 hO2 hR2 hH2 hX2 ⊢
    have hlen2 := hR2.length
    refine .seq ?_
    refine .seq ?_
    refine .region ?_
    refine TriOps.q .move ?_
    refine TriOps.q .geq ?_
    refine .nil ?_
    refine seqQ_n ?_
    refine .cond rfl (fun h2 => ?_) (fun h2 => ?_)
    · skip
      have hz0 : 0 ≤ z2 := of_decide_eq_true h2
      obtain ⟨k, rfl⟩ : ∃ k, m = k + 1 := ⟨m - 1, by omega⟩
      obtain rfl : z2 = (k : Int) := by omega
      obtain ⟨x, hx⟩ : ∃ x, zs[a]? = some x := ⟨_, List.getElem?_eq_getElem (by omega)⟩
      obtain ⟨y, hy⟩ : ∃ x, zs[a + k]? = some x := ⟨_, List.getElem?_eq_getElem (by omega)⟩
      refine .skip ?_
      refine seqQ_n ?_
      refine .seq ?_
      refine .block ?_
      refine .seq ?_
      refine .region_all [17, 19] mixed ?_
      refine RA.takeO 0 rfl .move (by kernel_rfl) ?_
      refine RA.takeO 1 rfl .move (by kernel_rfl) ?_
      refine RA.take 2 rfl .move (by kernel_rfl) ?_
      refine RA.take 3 rfl .move (by kernel_rfl) ?_
      refine RA.take 4 rfl .move (by kernel_rfl) ?_
      refine RA.take 5 rfl (.i64 ((a + k : Nat) : Int) .add ⟨by omega, by omega, by omega⟩) (by kernel_rfl) ?_
      refine RA.takeO 6 rfl .move (by kernel_rfl) ?_
      refine RA.takeO 7 rfl .move (by kernel_rfl) ?_
      refine RA.takeO 8 rfl .move (by kernel_rfl) ?_
      refine RA.takeO 9 rfl (.i64 ((a + k : Nat) : Int) .add ⟨by omega, by omega, by omega⟩) (by kernel_rfl) ?_
      refine RA.indexO 10 rfl (a + k) hO2 hy rfl rfl rfl (by kernel_rfl) (fun p46 => ?_)
      refine RA.takeO 11 rfl (.loadA rfl) (by kernel_rfl) ?_
      refine RA.takeO 12 rfl .move (by kernel_rfl) ?_
      refine RA.takeO 13 rfl .move (by kernel_rfl) ?_
      refine RA.indexO 14 rfl (a) hO2 hx rfl rfl rfl (by kernel_rfl) (fun p50 => ?_)
      refine RA.takeO 15 rfl (.loadA rfl) (by kernel_rfl) ?_
      refine RA.indexO 16 rfl (a) hO2 hx rfl rfl rfl (by kernel_rfl) (fun p52 => ?_)
      refine RA.step 17 rfl (by kernel_rfl) rfl ?_
      refine TriOps.storeO (a) hO2 hx y (fun Tsa hsa => ?_) (hO2.one _ (List.mem_of_getElem? hy))
      refine .nil (Next.mod rfl ?_)
      refine RA.indexO 18 rfl (a + k) hO2 hy rfl rfl rfl (by kernel_rfl) (fun p53 => ?_)
      refine RA.step 19 rfl (by kernel_rfl) rfl ?_
      obtain ⟨zz, hzz⟩ : ∃ u, (zs.set (a) y)[a + k]? = some u := ⟨_, List.getElem?_eq_getElem (by rw [List.length_set]; exact (List.getElem?_eq_some_iff.1 hy).1)⟩
      refine TriOps.storeO (a + k) hsa hzz x (fun Tsw hsw => ?_) (hO2.one _ (List.mem_of_getElem? hx))
      rw [← swp_eq hx hy] at hsw
      refine .nil (Next.mod rfl ?_)
      refine RA.nil (by kernel_rfl) ?_
      refine seqQ_n ?_
      refine .region ?_
      refine TriOps.q .move ?_
      refine TriOps.q .move ?_
      refine TriOps.q .move ?_
      refine TriOps.q .move ?_
      refine TriOps.q .move ?_
      have hds := drop_swp (xs := zs) (f := a) (i := 0) (j := k) (by omega) (by omega)
      have hR3 := hR2.step (i := a) (j := a + k) (by omega) (by omega) (by omega) (by omega) (by omega)
      have hX3 := OX.last (m := a + k) (x := x) hX2 (by omega) (by omega) (by omega) hx (fun j w h1 h3 hw => HeapF.top so' hH2 (by rw [List.length_drop]; omega) (x := x) (by rw [drop_get]; exact hx) (j - a) w (by omega) (by rw [drop_get, show a + (j - a) = j by omega]; exact hw))
      refine TriOps.callM (sift_spec (c := c) (ok := ok) v (swp zs a (a + k)) Tsw 0 k a _ hsw (by omega) (by rw [swp_length]; omega) (by rw [swp_length]; omega) hf (fun x hx => hok x (hR3.perm.mem_iff.1 hx)) so) (fun u T3 hu => ?_)
      obtain ⟨rfl, ws, hO3, hR4, hH4⟩ := hu
      refine .nil ?_
      refine blkQ_n (seqQ_n ?_)
      refine .region ?_
      refine TriOps.q .move ?_
      refine TriOps.q (.i64 ((k : Int) - 1) .sub ⟨rfl, by omega, by omega⟩) ?_
      refine TriOps.q .assign ?_
      refine .nil ?_
      exact loopQ_i (k, (k : Int) - 1, ws, T3) ⟨⟨rfl, by simp only; omega⟩, hO3, hR3.trans (hR4.mono (Nat.le_refl a) (by omega) (by rw [swp_length]; omega)), hH4 (hH2.hole0 fun j h0 hj => by
        rw [Nat.add_zero] at hds
        rw [hds, swp_get (by rw [List.length_drop]; omega) (by rw [List.length_drop]; omega), if_neg (by omega), if_neg (by omega)]), hX3.rp hR4 (Nat.le_refl _) (by omega)⟩ (by simp only; omega) (((((((EnvLe.nil _).cons rfl).cons rfl).cons rfl).cons rfl).cons rfl).cons rfl) (HLe.refl _)
    · skip
      refine .exit (seqQ_x (loopQ_x (blkQ_x ?_)))
      refine retQ_n _ .none (HLe.refl _) ?_
      have hm0 : m = 0 := by have := of_decide_eq_false h2; omega
      subst hm0
      exact ⟨_, rfl, rfl, zs, hO2, hR2, hX2.sorted fun i j h1 h2 h3 => by omega⟩

theorem reverse_spec (v : Value) (xs : List CP) (T : Seg) (a b : Nat) (R : Rds) (fv : Value) (hfv : One fv) (h : OS 35 4 encC v xs T) (hab : a < b) (hb : b ≤ xs.length) (hl : xs.length ≤ 1000000000) :
    Spec Try.prog 143 [v, .int .i64 a, .int .i64 b, fv] R [T] fun u H' => ∃ T', H' = [T'] ∧ u = .tuple #[] ∧ ∃ ys, OS 35 4 encC v ys T' ∧ RP a b xs ys := by
  have iv := h.oneCell
  refine Spec.body Try.func143 rfl Try.results143 Try.ntmps143 rfl ?_
  refine .seq ?_
  refine .region ?_
  refine TriOps.q .move ?_
  refine TriOps.q .assign ?_
  refine .nil ?_
  refine seqQ_n ?_
  refine .seq ?_
  refine .region ?_
  refine TriOps.q .move ?_
  refine TriOps.q (.i64 ((b - 1 : Nat) : Int) .sub ⟨by omega, by omega, by omega⟩) ?_
  refine TriOps.q .assign ?_
  refine .nil ?_
  refine seqQ_n ?_
  refine .block ?_
  refine .loop (X := Nat × Nat × List CP × Seg) (fun y => (a ≤ y.1 ∧ y.1 ≤ y.2.1 + 1 ∧ y.2.1 < b) ∧ OS 35 4 encC v y.2.2.1 y.2.2.2 ∧ RP a b xs y.2.2.1) (fun y => [(0, v), (8, .int .i64 (y.1 : Nat)), (9, .int .i64 (y.2.1 : Nat))]) (fun y => [y.2.2.2]) (fun y => b - y.1) (a, b - 1, xs, T) ⟨⟨Nat.le_refl _, by simp only; omega, by simp only; omega⟩, h, .refl _⟩ ((((EnvLe.nil _).cons rfl).cons rfl).cons rfl) (HLe.refl _) ?_
  rintro ⟨i, j, ys, T1⟩ ⟨⟨hi, hij, hj⟩, hO1, hR1⟩
  simp only at hi hij hj hO1 hR1 ⊢
  have hlen := hR1.length
  refine .seq ?_
  refine .seq ?_
  refine .region ?_
  refine TriOps.q .move ?_
  refine TriOps.q .move ?_
  refine TriOps.q .lss ?_
  refine .nil ?_
  refine seqQ_n ?_
  refine .cond rfl (fun h1 => ?_) (fun h1 => ?_)
  · skip
    have hlt : i < j := by have := of_decide_eq_true h1; omega
    obtain ⟨x, hx⟩ : ∃ x, ys[i]? = some x := ⟨_, List.getElem?_eq_getElem (by omega)⟩
    obtain ⟨y, hy⟩ : ∃ x, ys[j]? = some x := ⟨_, List.getElem?_eq_getElem (by omega)⟩
    refine .skip ?_
    refine seqQ_n ?_
    refine .block ?_
    refine .seq ?_
    refine .region_all [13, 15] mixed ?_
    refine RA.takeO 0 rfl .move (by kernel_rfl) ?_
    refine RA.takeO 1 rfl .move (by kernel_rfl) ?_
    refine RA.take 2 rfl .move (by kernel_rfl) ?_
    refine RA.take 3 rfl .move (by kernel_rfl) ?_
    refine RA.takeO 4 rfl .move (by kernel_rfl) ?_
    refine RA.takeO 5 rfl .move (by kernel_rfl) ?_
    refine RA.indexO 6 rfl (j) hO1 hy rfl rfl rfl (by kernel_rfl) (fun p22 => ?_)
    refine RA.takeO 7 rfl (.loadA rfl) (by kernel_rfl) ?_
    refine RA.takeO 8 rfl .move (by kernel_rfl) ?_
    refine RA.takeO 9 rfl .move (by kernel_rfl) ?_
    refine RA.indexO 10 rfl (i) hO1 hx rfl rfl rfl (by kernel_rfl) (fun p26 => ?_)
    refine RA.takeO 11 rfl (.loadA rfl) (by kernel_rfl) ?_
    refine RA.indexO 12 rfl (i) hO1 hx rfl rfl rfl (by kernel_rfl) (fun p28 => ?_)
    refine RA.step 13 rfl (by kernel_rfl) rfl ?_
    refine TriOps.storeO (i) hO1 hx y (fun Tsa hsa => ?_) (hO1.one _ (List.mem_of_getElem? hy))
    refine .nil (Next.mod rfl ?_)
    refine RA.indexO 14 rfl (j) hO1 hy rfl rfl rfl (by kernel_rfl) (fun p29 => ?_)
    refine RA.step 15 rfl (by kernel_rfl) rfl ?_
    obtain ⟨zz, hzz⟩ : ∃ u, (ys.set (i) y)[j]? = some u := ⟨_, List.getElem?_eq_getElem (by rw [List.length_set]; exact (List.getElem?_eq_some_iff.1 hy).1)⟩
    refine TriOps.storeO (j) hsa hzz x (fun Tsw hsw => ?_) (hO1.one _ (List.mem_of_getElem? hx))
    rw [← swp_eq hx hy] at hsw
    refine .nil (Next.mod rfl ?_)
    refine RA.nil (by kernel_rfl) ?_
    refine seqQ_n ?_
    refine .seq ?_
    refine .region ?_
    refine TriOps.q .move ?_
    refine TriOps.q (.i64 ((i + 1 : Nat) : Int) .add ⟨by omega, by omega, by omega⟩) ?_
    refine TriOps.q .assign ?_
    refine .nil ?_
    refine seqQ_n ?_
    refine .region ?_
    refine TriOps.q .move ?_
    refine TriOps.q (.i64 ((j - 1 : Nat) : Int) .sub ⟨by omega, by omega, by omega⟩) ?_
    refine TriOps.q .assign ?_
    refine .nil ?_
    refine blkQ_n ?_
    exact loopQ_i (i + 1, j - 1, swp ys i j, Tsw) ⟨⟨by simp only; omega, by simp only; omega, by simp only; omega⟩, hsw, hR1.step (by omega) (by omega) (by omega) (by omega) (by omega)⟩ (by simp only; omega) ((((EnvLe.nil _).cons rfl).cons rfl).cons rfl) (HLe.refl _)
  · skip
    refine .exit (seqQ_x (loopQ_x (blkQ_x ?_)))
    refine retQ_n _ .none (HLe.refl _) ?_
    exact ⟨_, rfl, rfl, ys, hO1, hR1⟩

theorem break_spec (v : Value) (xs : List CP) (T : Seg) (a b : Nat) (R : Rds) (fv : Value) (hfv : One fv) (h : OS 35 4 encC v xs T) (hab : a ≤ b) (hb : b ≤ xs.length) (hl : xs.length ≤ 1000000000) :
    Spec Try.prog 141 [v, .int .i64 a, .int .i64 b, fv] R [T] fun u H' => ∃ T', H' = [T'] ∧ u = .tuple #[] ∧ ∃ ys, OS 35 4 encC v ys T' ∧ RP a b xs ys := by
  have iv := h.oneCell
  obtain ⟨n, hn⟩ : ∃ n, b = a + n := ⟨b - a, by omega⟩
  subst hn
  refine Spec.body Try.func141 rfl Try.results141 Try.ntmps141 rfl ?_
  refine .seq ?_
  refine .region ?_
  refine TriOps.q .move ?_
  refine TriOps.q .move ?_
  refine TriOps.q (.i64 ((n : Nat) : Int) .sub ⟨by omega, by omega, by omega⟩) ?_
  refine TriOps.q .assign ?_
  refine .nil ?_
  refine seqQ_n ?_
  refine .seq ?_
  refine .region ?_
  refine TriOps.q .move ?_
  refine TriOps.q .geq ?_
  refine .nil ?_
  refine seqQ_n ?_
  refine .cond rfl (fun h1 => ?_) (fun h1 => ?_)
  · skip
    have hn8 : 8 ≤ n := by have := of_decide_eq_true h1; omega
    obtain ⟨q, hq⟩ : ∃ q, q = n / 4 := ⟨_, rfl⟩
    refine .seq ?_
    refine .region ?_
    refine TriOps.q .move ?_
    refine TriOps.q .convI ?_
    refine TriOps.alloc1 (fun b9 => ?_)
    refine TriOps.store1 rfl rfl ?_
    refine .nil ?_
    refine seqQ_n ?_
    refine .seq ?_
    refine .region ?_
    refine TriOps.q .move ?_
    refine TriOps.callR (npow_spec n (by omega) (by omega) _) (fun u hu => ?_)
    obtain ⟨md, rfl, hmd1, hmd2⟩ := hu
    refine TriOps.q .assign ?_
    refine .nil ?_
    refine seqQ_n ?_
    refine .seq ?_
    refine .region ?_
    refine TriOps.q .move ?_
    refine TriOps.q .move ?_
    refine TriOps.q (.i64 ((q : Nat) : Int) .quo ⟨by rw [hq, Int.tdiv_eq_ediv_of_nonneg (by omega)]; omega, by omega, by omega⟩) ?_
    refine TriOps.q (.i64 ((q * 2 : Nat) : Int) .mul ⟨by omega, by omega, by omega⟩) ?_
    refine TriOps.q (.i64 ((a + q * 2 : Nat) : Int) .add ⟨by omega, by omega, by omega⟩) ?_
    refine TriOps.q (.i64 ((a + q * 2 - 1 : Nat) : Int) .sub ⟨by omega, by omega, by omega⟩) ?_
    refine TriOps.q .assign ?_
    refine .nil ?_
    refine seqQ_n ?_
    refine .block ?_
    refine .loop (X := Nat × Int × List CP × Seg) (fun y => (a + q * 2 - 1 ≤ y.1 ∧ y.1 ≤ a + q * 2 + 2) ∧ OS 35 4 encC v y.2.2.1 y.2.2.2 ∧ RP a (a + n) xs y.2.2.1) (fun y => [(0, v), (1, .int .i64 (a : Nat)), (8, .int .i64 (n : Nat)), (9, .pointer (some ⟨b9, 0, none⟩)), (10, .int .u64 (md : Nat)), (11, .int .i64 (y.1 : Nat))]) (fun y => [[(b9, .cells [.int .u64 y.2.1].toArray 193 (0, 0))], y.2.2.2]) (fun y => a + q * 2 + 2 - y.1) (a + q * 2 - 1, _, xs, T) ⟨⟨Nat.le_refl _, by simp only; omega⟩, h, .refl _⟩ (((((((EnvLe.nil _).cons rfl).cons rfl).cons rfl).cons rfl).cons rfl).cons rfl) (HLe.refl _) ?_
    rintro ⟨i, z, ys, T1⟩ ⟨⟨hi1, hi2⟩, hO1, hR1⟩
    simp only at hi1 hi2 hO1 hR1 ⊢
    have hlen := hR1.length
    refine .seq ?_
    refine .seq ?_
    refine .region ?_
    refine TriOps.q .move ?_
    refine TriOps.q .move ?_
    refine TriOps.q .move ?_
    refine TriOps.q (.i64 ((q : Nat) : Int) .quo ⟨by rw [hq, Int.tdiv_eq_ediv_of_nonneg (by omega)]; omega, by omega, by omega⟩) ?_
    refine TriOps.q (.i64 ((q * 2 : Nat) : Int) .mul ⟨by omega, by omega, by omega⟩) ?_
    refine TriOps.q (.i64 ((a + q * 2 : Nat) : Int) .add ⟨by omega, by omega, by omega⟩) ?_
    refine TriOps.q (.i64 ((a + q * 2 + 1 : Nat) : Int) .add ⟨by omega, by omega, by omega⟩) ?_
    refine TriOps.q .leq ?_
    refine .nil ?_
    refine seqQ_n ?_
    refine .cond rfl (fun h2 => ?_) (fun h2 => ?_)
    · skip
      have hi3 : i ≤ a + q * 2 + 1 := by have := of_decide_eq_true h2; omega
      refine .skip ?_
      refine seqQ_n ?_
      refine .seq ?_
      refine .block ?_
      refine .seq ?_
      refine .region ?_
      refine TriOps.callM (rnd_spec b9 z _) (fun u T2 hu => ?_)
      obtain ⟨z', rfl, rfl⟩ := hu
      refine TriOps.q .move ?_
      refine TriOps.q (Quiet.cast (v' := .int .u64 ((md - 1 : Nat) : Int)) .sub (by rw [wrap_u64_in (by omega) (by omega)]; congr 1; omega)) ?_
      have hal := and_le (z := z') (q := ((md - 1 : Nat) : Int)) (by omega) (by omega)
      obtain ⟨o, ho⟩ : ∃ o : Nat, IntKind.u64.wrap (BitVec.ofInt IntKind.u64.bits z' &&& BitVec.ofInt IntKind.u64.bits ((md - 1 : Nat) : Int)).toNat = (o : Int) := ⟨_, (Int.toNat_of_nonneg hal.1).symm⟩
      refine TriOps.q (Quiet.cast (v' := .int .u64 ((o : Nat) : Int)) .andI (by rw [ho])) ?_
      rw [ho] at hal
      refine TriOps.q (Quiet.cast (v' := .int .i64 ((o : Nat) : Int)) .convI (by rw [wrap_i64_in (by omega) (by omega)])) ?_
      refine TriOps.q .assign ?_
      refine .nil ?_
      refine seqQ_n ?_
      refine .seq ?_
      refine Tri.cut (X := Nat) (fun p => p < n) (fun p => [(0, v), (1, .int .i64 (a : Nat)), (8, .int .i64 (n : Nat)), (9, .pointer (some ⟨b9, 0, none⟩)), (10, .int .u64 (md : Nat)), (11, .int .i64 (i : Nat)), (12, .int .i64 (p : Nat))]) (fun _ => [[(b9, .cells [.int .u64 z'].toArray 193 (0, 0))], T1]) ?_ ?_
      · refine .seq ?_
        refine .region ?_
        refine TriOps.q .move ?_
        refine TriOps.q .move ?_
        refine TriOps.q .geq ?_
        refine .nil ?_
        refine seqQ_n ?_
        refine .cond rfl (fun h3 => ?_) (fun h3 => ?_)
        · skip
          have ho1 : n ≤ o := by have := of_decide_eq_true h3; omega
          refine .region ?_
          refine TriOps.q .move ?_
          refine TriOps.q .move ?_
          refine TriOps.q (.i64 ((o - n : Nat) : Int) .sub ⟨by omega, by omega, by omega⟩) ?_
          refine TriOps.q .assign ?_
          refine .nil ?_
          first
            | exact joinQ_n (o - n) (by omega) ((((((((EnvLe.nil _).cons rfl).cons rfl).cons rfl).cons rfl).cons rfl).cons rfl).cons rfl) (HLe.refl _)
            | exact joinQ_n o (by omega) ((((((((EnvLe.nil _).cons rfl).cons rfl).cons rfl).cons rfl).cons rfl).cons rfl).cons rfl) (HLe.refl _)
        · skip
          have ho1 : o < n := by have := of_decide_eq_false h3; omega
          refine .skip ?_
          first
            | exact joinQ_n (o - n) (by omega) ((((((((EnvLe.nil _).cons rfl).cons rfl).cons rfl).cons rfl).cons rfl).cons rfl).cons rfl) (HLe.refl _)
            | exact joinQ_n o (by omega) ((((((((EnvLe.nil _).cons rfl).cons rfl).cons rfl).cons rfl).cons rfl).cons rfl).cons rfl) (HLe.refl _)
      · intro y hy
        have hpn : y < n := hy
        obtain ⟨p, rfl⟩ : ∃ p, p = y := ⟨_, rfl⟩
        obtain ⟨x, hx⟩ : ∃ x, ys[i]? = some x := ⟨_, List.getElem?_eq_getElem (by omega)⟩
        obtain ⟨w, hw⟩ : ∃ x, ys[a + p]? = some x := ⟨_, List.getElem?_eq_getElem (by omega)⟩
        refine seqQ_n ?_
        refine .region_all [17, 19] mixed ?_
        refine RA.takeO 0 rfl .move (by kernel_rfl) ?_
        refine RA.takeO 1 rfl .move (by kernel_rfl) ?_
        refine RA.take 2 rfl .move (by kernel_rfl) ?_
        refine RA.take 3 rfl .move (by kernel_rfl) ?_
        refine RA.take 4 rfl .move (by kernel_rfl) ?_
        refine RA.take 5 rfl (.i64 ((a + p : Nat) : Int) .add ⟨by omega, by omega, by omega⟩) (by kernel_rfl) ?_
        refine RA.takeO 6 rfl .move (by kernel_rfl) ?_
        refine RA.takeO 7 rfl .move (by kernel_rfl) ?_
        refine RA.takeO 8 rfl .move (by kernel_rfl) ?_
        refine RA.takeO 9 rfl (.i64 ((a + p : Nat) : Int) .add ⟨by omega, by omega, by omega⟩) (by kernel_rfl) ?_
        refine RA.indexO 10 rfl (a + p) hO1 hw rfl rfl rfl (by kernel_rfl) (fun p59 => ?_)
        refine RA.takeO 11 rfl (.loadA rfl) (by kernel_rfl) ?_
        refine RA.takeO 12 rfl .move (by kernel_rfl) ?_
        refine RA.takeO 13 rfl .move (by kernel_rfl) ?_
        refine RA.indexO 14 rfl (i) hO1 hx rfl rfl rfl (by kernel_rfl) (fun p63 => ?_)
        refine RA.takeO 15 rfl (.loadA rfl) (by kernel_rfl) ?_
        refine RA.indexO 16 rfl (i) hO1 hx rfl rfl rfl (by kernel_rfl) (fun p65 => ?_)
        refine RA.step 17 rfl (by kernel_rfl) rfl ?_
        refine TriOps.storeO (i) hO1 hx w (fun Tsa hsa => ?_) (hO1.one _ (List.mem_of_getElem? hw))
        refine .nil (Next.mod rfl ?_)
        refine RA.indexO 18 rfl (a + p) hO1 hw rfl rfl rfl (by kernel_rfl) (fun p66 => ?_)
        refine RA.step 19 rfl (by kernel_rfl) rfl ?_
        obtain ⟨zz, hzz⟩ : ∃ u, (ys.set (i) w)[a + p]? = some u := ⟨_, List.getElem?_eq_getElem (by rw [List.length_set]; exact (List.getElem?_eq_some_iff.1 hw).1)⟩
        refine TriOps.storeO (a + p) hsa hzz x (fun Tsw hsw => ?_) (hO1.one _ (List.mem_of_getElem? hx))
        rw [← swp_eq hx hw] at hsw
        refine .nil (Next.mod rfl ?_)
        refine RA.nil (by kernel_rfl) ?_
        refine blkQ_n (seqQ_n ?_)
        refine .region ?_
        refine TriOps.q .move ?_
        refine TriOps.q (.i64 ((i + 1 : Nat) : Int) .add ⟨by omega, by omega, by omega⟩) ?_
        refine TriOps.q .assign ?_
        refine .nil ?_
        exact loopQ_i (i + 1, z', swp ys i (a + p), Tsw) ⟨⟨by simp only; omega, by simp only; omega⟩, hsw, hR1.step (by omega) (by omega) (by omega) (by omega) (by omega)⟩ (by simp only; omega) (((((((EnvLe.nil _).cons rfl).cons rfl).cons rfl).cons rfl).cons rfl).cons rfl) (HLe.refl _)
    · skip
      refine .exit (seqQ_x (loopQ_x (blkQ_x ?_)))
      refine retQ_n _ .none (HLe.pick [1] _) ?_
      exact ⟨_, rfl, rfl, ys, hO1, hR1⟩
  · skip
    refine .skip ?_
    refine retQ_n _ .none (HLe.refl _) ?_
    exact ⟨_, rfl, rfl, xs, h, .refl _⟩
end
end SCL
end Go.Proofs.Ytlmdgdehjpahiaa
