/- Sorting by a function, at one kind of elements: by insertion, by a heap. No condition. -/
import Derived.Test.YtlmdgdehjpahiaaMot5
import Derived.Test.YtlmdgdehjpahiaaFacts
import Derived.Test.YtlmdgdehjpahiaaCliI
set_option linter.unusedVariables false
set_option maxRecDepth 4000
namespace Go.Proofs.Ytlmdgdehjpahiaa
namespace SCL
section
variable {c : CP → CP → Int} {ok : CP → Prop} {f : FuncId} {caps : List Value} [e : Ent Try.prog f]

theorem ins_spec (v : Value) (xs : List CP) (T : Seg) (a b : Nat) (R : Rds) (h : OS 35 4 encC v xs T) (hab : a ≤ b) (hb : b ≤ xs.length) (hl : xs.length ≤ 1000000000) (hf : FnC Try.prog f caps R (fun p : CP => Value.agg (encC p).toArray) c ok) (hok : ∀ x ∈ xs, ok x) (so : SO (ltc c)) :
    Spec Try.prog 139 [v, .int .i64 a, .int .i64 b, .func (.func f) #[] caps.toArray] R [T] fun u H' => ∃ T', H' = [T'] ∧ u = .tuple #[] ∧ ∃ ys, OS 35 4 encC v ys T' ∧ RP a b xs ys ∧ SR (ltc c) ys a b := by
  have iv := h.oneCell
  refine Spec.body Try.func139 rfl Try.results139 Try.ntmps139 rfl ?_
  refine .seq ?_
  refine .region ?_
  refine TriOps.q .move ?_
  refine TriOps.q (.i64 ((a + 1 : Nat) : Int) .add ⟨by omega, by omega, by omega⟩) ?_
  refine TriOps.q .assign ?_
  refine .nil ?_
  refine seqQ_n ?_
  refine .block ?_
  refine .loop (X := Nat × List CP × Seg) (fun y => (a + 1 ≤ y.1 ∧ (y.1 ≤ b ∨ y.1 = a + 1)) ∧ OS 35 4 encC v y.2.1 y.2.2 ∧ RP a b xs y.2.1 ∧ SR (ltc c) y.2.1 a y.1) (fun y => [(0, v), (1, .int .i64 (a : Nat)), (2, .int .i64 (b : Nat)), (3, .func (.func f) #[] caps.toArray), (8, .int .i64 (y.1 : Nat))]) (fun y => [y.2.2]) (fun y => b - y.1) (a + 1, xs, T) ⟨⟨by simp only; omega, .inr rfl⟩, h, .refl _, fun i j h1 h2 h3 => by simp only at h3; omega⟩ ((((((EnvLe.nil _).cons rfl).cons rfl).cons rfl).cons rfl).cons rfl) (HLe.refl _) ?_
  rintro ⟨i, ys, T1⟩ ⟨⟨hi1, hi2⟩, hO1, hR1, hS1⟩
  simp only at hi1 hi2 hO1 hR1 hS1 ⊢
  have hlen := hR1.length
  refine .seq ?_
  refine .seq ?_
  refine .region ?_
  refine TriOps.q .move ?_
  refine TriOps.q .move ?_
  refine TriOps.q .lss ?_
  refine .nil ?_
  refine seqQ_n ?_
  refine .cond rfl (fun h1 => ?_) (fun h1 => ?_)
  · skip
    have hib : i < b := by simp at h1; omega
    refine .skip ?_
    refine seqQ_n ?_
    refine .seq ?_
    refine .block ?_
    refine .seq ?_
    refine .region ?_
    refine TriOps.q .move ?_
    refine TriOps.q .assign ?_
    refine .nil ?_
    refine seqQ_n ?_
    refine .block ?_
    refine .loop (X := Nat × List CP × Seg) (fun y => (a ≤ y.1 ∧ y.1 ≤ i) ∧ OS 35 4 encC v y.2.1 y.2.2 ∧ RP a b xs y.2.1 ∧ Ins (ltc c) y.2.1 a y.1 (i + 1)) (fun y => [(0, v), (1, .int .i64 (a : Nat)), (2, .int .i64 (b : Nat)), (3, .func (.func f) #[] caps.toArray), (8, .int .i64 (i : Nat)), (9, .int .i64 (y.1 : Nat))]) (fun y => [y.2.2]) (fun y => y.1) (i, ys, T1) ⟨⟨by simp only; omega, Nat.le_refl _⟩, hO1, hR1, hS1.ins⟩ (((((((EnvLe.nil _).cons rfl).cons rfl).cons rfl).cons rfl).cons rfl).cons rfl) (HLe.refl _) ?_
    rintro ⟨j, zs, T2⟩ ⟨⟨hj1, hj2⟩, hO2, hR2, hI2⟩
    simp only at hj1 hj2 hO2 hR2 hI2 ⊢
    have hlen2 := hR2.length
    refine .seq ?_
    refine .seq ?_
    refine .region_tail 14 mixed (by kernel_rfl) ?_
    conv => arg 6; dsimp only [List.take]
    refine TriOps.q .move ?_
    refine TriOps.q .move ?_
    refine TriOps.q .gtr ?_
    refine TriOps.q .move ?_
    refine TriOps.split (t := 21) rfl (fun g4_3 => ?_) (fun g4_3 => ?_)
    · skip
      have haj : a < j := by have := of_decide_eq_true g4_3; omega
      obtain ⟨x, hx⟩ : ∃ x, zs[j]? = some x := ⟨_, List.getElem?_eq_getElem (by omega)⟩
      obtain ⟨y, hy⟩ : ∃ x, zs[j - 1]? = some x := ⟨_, List.getElem?_eq_getElem (by omega)⟩
      have okx := hok x (hR2.perm.mem_iff.1 (List.mem_of_getElem? hx))
      have oky := hok y (hR2.perm.mem_iff.1 (List.mem_of_getElem? hy))
      refine TriOps.gT g4_3 ?_
      refine TriOps.q .move ?_
      refine TriOps.gT g4_3 ?_
      refine TriOps.q .move ?_
      refine TriOps.gT g4_3 ?_
      refine TriOps.q .move ?_
      refine TriOps.gT g4_3 ?_
      refine TriOps.indexO j hO2 hx (fun p25 => ?_)
      refine TriOps.gT g4_3 ?_
      refine TriOps.q (.loadA rfl) ?_
      refine TriOps.gT g4_3 ?_
      refine TriOps.q .move ?_
      refine TriOps.gT g4_3 ?_
      refine TriOps.q .move ?_
      refine TriOps.gT g4_3 ?_
      refine TriOps.q (.i64 ((j - 1 : Nat) : Int) .sub ⟨by omega, by omega, by omega⟩) ?_
      refine TriOps.gT g4_3 ?_
      refine TriOps.indexO (j - 1) hO2 hy (fun p30 => ?_)
      refine TriOps.gT g4_3 ?_
      refine TriOps.q (.loadA rfl) ?_
      refine .nil ?_
      refine TriOps.gT g4_3 ?_
      refine TriOps.callRV (first := []) (captured := caps) (vs := [(fun p : CP => Value.agg (encC p).toArray) x, (fun p : CP => Value.agg (encC p).toArray) y]) (hf x y okx oky _ (fun b o hb => .inl hb)) (fun u hu => ?_)
      subst hu
      refine TriOps.gT g4_3 ?_
      refine TriOps.q .lss ?_
      refine TriOps.q (.pickTh g4_3) ?_
      refine .nil ?_
      refine seqQ_n ?_
      refine .cond rfl (fun h2 => ?_) (fun h2 => ?_)
      · skip
        refine .skip ?_
        refine seqQ_n ?_
        refine .seq ?_
        refine .block ?_
        refine .region_all [15, 17] mixed ?_
        refine RA.takeO 0 rfl .move (by kernel_rfl) ?_
        refine RA.takeO 1 rfl .move (by kernel_rfl) ?_
        refine RA.take 2 rfl .move (by kernel_rfl) ?_
        refine RA.take 3 rfl .move (by kernel_rfl) ?_
        refine RA.take 4 rfl (.i64 ((j - 1 : Nat) : Int) .sub ⟨by omega, by omega, by omega⟩) (by kernel_rfl) ?_
        refine RA.takeO 5 rfl .move (by kernel_rfl) ?_
        refine RA.takeO 6 rfl .move (by kernel_rfl) ?_
        refine RA.takeO 7 rfl (.i64 ((j - 1 : Nat) : Int) .sub ⟨by omega, by omega, by omega⟩) (by kernel_rfl) ?_
        refine RA.indexO 8 rfl (j - 1) hO2 hy rfl rfl rfl (by kernel_rfl) (fun p45 => ?_)
        refine RA.takeO 9 rfl (.loadA rfl) (by kernel_rfl) ?_
        refine RA.takeO 10 rfl .move (by kernel_rfl) ?_
        refine RA.takeO 11 rfl .move (by kernel_rfl) ?_
        refine RA.indexO 12 rfl (j) hO2 hx rfl rfl rfl (by kernel_rfl) (fun p49 => ?_)
        refine RA.takeO 13 rfl (.loadA rfl) (by kernel_rfl) ?_
        refine RA.indexO 14 rfl (j) hO2 hx rfl rfl rfl (by kernel_rfl) (fun p51 => ?_)
        refine RA.step 15 rfl (by kernel_rfl) rfl ?_
        refine TriOps.storeO (j) hO2 hx y (fun Tsa hsa => ?_) (hO2.one _ (List.mem_of_getElem? hy))
        refine .nil (Next.mod rfl ?_)
        refine RA.indexO 16 rfl (j - 1) hO2 hy rfl rfl rfl (by kernel_rfl) (fun p52 => ?_)
        refine RA.step 17 rfl (by kernel_rfl) rfl ?_
        obtain ⟨zz, hzz⟩ : ∃ u, (zs.set (j) y)[j - 1]? = some u := ⟨_, List.getElem?_eq_getElem (by rw [List.length_set]; exact (List.getElem?_eq_some_iff.1 hy).1)⟩
        refine TriOps.storeO (j - 1) hsa hzz x (fun Tsw hsw => ?_) (hO2.one _ (List.mem_of_getElem? hx))
        rw [← swp_eq hx hy] at hsw
        refine .nil (Next.mod rfl ?_)
        refine RA.nil (by kernel_rfl) ?_
        refine blkQ_n (seqQ_n ?_)
        refine .region ?_
        refine TriOps.q .move ?_
        refine TriOps.q (.i64 ((j - 1 : Nat) : Int) .sub ⟨by omega, by omega, by omega⟩) ?_
        refine TriOps.q .assign ?_
        refine .nil ?_
        have hlt : ltc c x y = true := h2
        exact loopQ_i (j - 1, swp zs j (j - 1), Tsw) ⟨⟨by simp only; omega, by simp only; omega⟩, hsw, hR2.step (by omega) (by omega) (by omega) (by omega) (by omega), hI2.step so (by omega) (by omega) haj hx hy hlt⟩ (by simp only; omega) (((((((EnvLe.nil _).cons rfl).cons rfl).cons rfl).cons rfl).cons rfl).cons rfl) (HLe.refl _)
      · skip
        refine .exit (seqQ_x (loopQ_x (blkQ_x ?_)))
        refine blkQ_n (seqQ_n ?_)
        refine .region ?_
        refine TriOps.q .move ?_
        refine TriOps.q (.i64 ((i + 1 : Nat) : Int) .add ⟨by omega, by omega, by omega⟩) ?_
        refine TriOps.q .assign ?_
        refine .nil ?_
        refine loopQ_i (i + 1, zs, T2) ⟨⟨by simp only; omega, .inl (by simp only; omega)⟩, hO2, hR2, hI2.done so (by omega) (by omega) ?_⟩ (by simp only; omega) ((((((EnvLe.nil _).cons rfl).cons rfl).cons rfl).cons rfl).cons rfl) (HLe.refl _)
        first
          | exact .inr ⟨haj, fun u w hu hw => by
              rw [hy] at hu; rw [hx] at hw; cases hu; cases hw; exact h2⟩
          | exact .inl (by have := of_decide_eq_false g4_3; omega)
    · skip
      refine TriOps.gF g4_3 ?_
      refine TriOps.gF g4_3 ?_
      refine TriOps.gF g4_3 ?_
      refine TriOps.gF g4_3 ?_
      refine TriOps.gF g4_3 ?_
      refine TriOps.gF g4_3 ?_
      refine TriOps.gF g4_3 ?_
      refine TriOps.gF g4_3 ?_
      refine TriOps.gF g4_3 ?_
      refine TriOps.gF g4_3 ?_
      refine .nil ?_
      refine TriOps.gF g4_3 ?_
      refine TriOps.gF g4_3 ?_
      refine TriOps.q (.pickFh g4_3) ?_
      refine .nil ?_
      refine seqQ_n ?_
      refine .condF ?_
      refine .exit (seqQ_x (loopQ_x (blkQ_x ?_)))
      refine blkQ_n (seqQ_n ?_)
      refine .region ?_
      refine TriOps.q .move ?_
      refine TriOps.q (.i64 ((i + 1 : Nat) : Int) .add ⟨by omega, by omega, by omega⟩) ?_
      refine TriOps.q .assign ?_
      refine .nil ?_
      refine loopQ_i (i + 1, zs, T2) ⟨⟨by simp only; omega, .inl (by simp only; omega)⟩, hO2, hR2, hI2.done so (by omega) (by omega) ?_⟩ (by simp only; omega) ((((((EnvLe.nil _).cons rfl).cons rfl).cons rfl).cons rfl).cons rfl) (HLe.refl _)
      first
        | exact .inr ⟨haj, fun u w hu hw => by
            rw [hy] at hu; rw [hx] at hw; cases hu; cases hw; exact h2⟩
        | exact .inl (by have := of_decide_eq_false g4_3; omega)
  · skip
    refine .exit (seqQ_x (loopQ_x (blkQ_x ?_)))
    refine retQ_n _ .none (HLe.refl _) ?_
    have hge : b ≤ i := by simp at h1; omega
    exact ⟨_, rfl, rfl, ys, hO1, hR1, fun j k h1 h2 h3 => hS1 j k h1 h2 (by omega)⟩

theorem sift_spec (v : Value) (xs : List CP) (T : Seg) (lo hi fi : Nat) (R : Rds) (h : OS 35 4 encC v xs T) (hlo : lo ≤ hi) (hb : fi + hi ≤ xs.length) (hl : xs.length ≤ 1000000000) (hf : FnC Try.prog f caps R (fun p : CP => Value.agg (encC p).toArray) c ok) (hok : ∀ x ∈ xs, ok x) (so : SO (ltc c)) :
    Spec Try.prog 162 [v, .int .i64 lo, .int .i64 hi, .int .i64 fi, .func (.func f) #[] caps.toArray] R [T] fun u H' => ∃ T', H' = [T'] ∧ u = .tuple #[] ∧ ∃ ys, OS 35 4 encC v ys T' ∧ RP fi (fi + hi) xs ys ∧
      (HoleF (fun x y => ltc c y x) (xs.drop fi) hi lo lo → HeapF (fun x y => ltc c y x) (ys.drop fi) hi lo) := by
  have iv := h.oneCell
  have so' := so.rev
  refine Spec.body Try.func162 rfl Try.results162 Try.ntmps162 rfl ?_
  refine .seq ?_
  refine .region ?_
  refine TriOps.q .move ?_
  refine TriOps.q .assign ?_
  refine .nil ?_
  refine seqQ_n ?_
  refine .block ?_
  refine .loop (X := Nat × List CP × Seg) (fun y => (lo ≤ y.1 ∧ y.1 ≤ hi) ∧ OS 35 4 encC v y.2.1 y.2.2 ∧ RP fi (fi + hi) xs y.2.1 ∧ (HoleF (fun x y => ltc c y x) (xs.drop fi) hi lo lo → HoleF (fun x y => ltc c y x) (y.2.1.drop fi) hi lo y.1)) (fun y => [(0, v), (2, .int .i64 (hi : Nat)), (3, .int .i64 (fi : Nat)), (4, .func (.func f) #[] caps.toArray), (10, .int .i64 (y.1 : Nat))]) (fun y => [y.2.2]) (fun y => hi - y.1) (lo, xs, T) ⟨⟨Nat.le_refl _, hlo⟩, h, .refl _, fun h => h⟩ ((((((EnvLe.nil _).cons rfl).cons rfl).cons rfl).cons rfl).cons rfl) (HLe.refl _) ?_
  rintro ⟨r, ys, T1⟩ ⟨⟨hr1, hr2⟩, hO1, hR1, hH1⟩
  simp only at hr1 hr2 hO1 hR1 hH1 ⊢
  have hlen := hR1.length
  have hld : (ys.drop fi).length = ys.length - fi := List.length_drop
  refine .block ?_
  refine .seq ?_
  refine .region ?_
  refine TriOps.q .move ?_
  refine TriOps.q (.i64 ((2 * r : Nat) : Int) .mul ⟨by omega, by omega, by omega⟩) ?_
  refine TriOps.q (.i64 ((2 * r + 1 : Nat) : Int) .add ⟨by omega, by omega, by omega⟩) ?_
  refine TriOps.q .assign ?_
  refine .nil ?_
  refine seqQ_n ?_
  refine .seq ?_
  refine .seq ?_
  refine .region ?_
  refine TriOps.q .move ?_
  refine TriOps.q .move ?_
  refine TriOps.q .geq ?_
  refine .nil ?_
  refine seqQ_n ?_
  refine .cond rfl (fun h1 => ?_) (fun h1 => ?_)
  · skip
    have hge : hi ≤ 2 * r + 1 := by have := of_decide_eq_true h1; omega
    refine .exit (seqQ_x (blkQ_y (loopQ_x (blkQ_x ?_))))
    refine retQ_n _ .none (HLe.refl _) ?_
    refine ⟨_, rfl, rfl, ys, hO1, hR1, fun hh => (hH1 hh).stop fun c' h0 hc hp u w hu hw => ?_⟩
    first
      | (simp only [par] at hp; omega)
      | (rw [drop_get] at hu hw
         rw [hy0] at hu; cases hu
         have h3' : (!ltc c y0 x) = true := h3
         exact so'.ntr _ _ _ (hmin c' w h0 hc hp hw) (by simpa using h3'))
  · skip
    have hlt : 2 * r + 1 < hi := by have := of_decide_eq_false h1; omega
    obtain ⟨y0, hy0⟩ : ∃ y, ys[fi + r]? = some y := ⟨_, List.getElem?_eq_getElem (by omega)⟩
    obtain ⟨x1, hx1⟩ : ∃ y, ys[fi + (2 * r + 1)]? = some y := ⟨_, List.getElem?_eq_getElem (by omega)⟩
    have ok0 := hok y0 (hR1.perm.mem_iff.1 (List.mem_of_getElem? hy0))
    have ok1 := hok x1 (hR1.perm.mem_iff.1 (List.mem_of_getElem? hx1))
    refine .skip ?_
    refine seqQ_n ?_
    refine .seq ?_
    refine Tri.cut (X := Nat × CP) (fun z => 0 < z.1 ∧ z.1 < hi ∧ par z.1 = r ∧ ys[fi + z.1]? = some z.2 ∧ ok z.2 ∧ ∀ c' u, 0 < c' → c' < hi → par c' = r → ys[fi + c']? = some u → ltc c z.2 u = false) (fun z => [(0, v), (2, .int .i64 (hi : Nat)), (3, .int .i64 (fi : Nat)), (4, .func (.func f) #[] caps.toArray), (10, .int .i64 (r : Nat)), (11, .int .i64 (z.1 : Nat))]) (fun z => [T1]) ?_ ?_
    · refine .seq ?_
      refine .region_tail 19 mixed (by kernel_rfl) ?_
      conv => arg 6; dsimp only [List.take]
      refine TriOps.q .move ?_
      refine TriOps.q (.i64 ((2 * r + 2 : Nat) : Int) .add ⟨by omega, by omega, by omega⟩) ?_
      refine TriOps.q .move ?_
      refine TriOps.q .lss ?_
      refine TriOps.q .move ?_
      refine TriOps.split (t := 23) rfl (fun g3_4 => ?_) (fun g3_4 => ?_)
      · skip
        have hlt2 : 2 * r + 2 < hi := by have := of_decide_eq_true g3_4; omega
        obtain ⟨x2, hx2⟩ : ∃ y, ys[fi + (2 * r + 2)]? = some y := ⟨_, List.getElem?_eq_getElem (by omega)⟩
        have ok2 := hok x2 (hR1.perm.mem_iff.1 (List.mem_of_getElem? hx2))
        refine TriOps.gT g3_4 ?_
        refine TriOps.q .move ?_
        refine TriOps.gT g3_4 ?_
        refine TriOps.q .move ?_
        refine TriOps.gT g3_4 ?_
        refine TriOps.q .move ?_
        refine TriOps.gT g3_4 ?_
        refine TriOps.q .move ?_
        refine TriOps.gT g3_4 ?_
        refine TriOps.q (.i64 ((fi + (2 * r + 1) : Nat) : Int) .add ⟨by omega, by omega, by omega⟩) ?_
        refine TriOps.gT g3_4 ?_
        refine TriOps.indexO (fi + (2 * r + 1)) hO1 hx1 (fun p29 => ?_)
        refine TriOps.gT g3_4 ?_
        refine TriOps.q (.loadA rfl) ?_
        refine TriOps.gT g3_4 ?_
        refine TriOps.q .move ?_
        refine TriOps.gT g3_4 ?_
        refine TriOps.q .move ?_
        refine TriOps.gT g3_4 ?_
        refine TriOps.q .move ?_
        refine TriOps.gT g3_4 ?_
        refine TriOps.q (.i64 ((fi + (2 * r + 1) : Nat) : Int) .add ⟨by omega, by omega, by omega⟩) ?_
        refine TriOps.gT g3_4 ?_
        refine TriOps.q (.i64 ((fi + (2 * r + 2) : Nat) : Int) .add ⟨by omega, by omega, by omega⟩) ?_
        refine TriOps.gT g3_4 ?_
        refine TriOps.indexO (fi + (2 * r + 2)) hO1 hx2 (fun p36 => ?_)
        refine TriOps.gT g3_4 ?_
        refine TriOps.q (.loadA rfl) ?_
        refine .nil ?_
        refine TriOps.gT g3_4 ?_
        refine TriOps.callRV (first := []) (captured := caps) (vs := [(fun p : CP => Value.agg (encC p).toArray) x1, (fun p : CP => Value.agg (encC p).toArray) x2]) (hf x1 x2 ok1 ok2 _ (fun b o hb => .inl hb)) (fun u hu => ?_)
        subst hu
        refine TriOps.gT g3_4 ?_
        refine TriOps.q .lss ?_
        refine TriOps.q (.pickTh g3_4) ?_
        refine .nil ?_
        refine seqQ_n ?_
        refine .cond rfl (fun h2 => ?_) (fun h2 => ?_)
        · skip
          have hminA : ∀ c' u, 0 < c' → c' < hi → par c' = r → ys[fi + c']? = some u → ltc c x2 u = false := fun c' u h0 hc hp hu => by
            have : c' = 2 * r + 1 ∨ c' = 2 * r + 2 := by simp only [par] at hp; omega
            rcases this with rfl | rfl
            · rw [hx1] at hu; cases hu; exact so.asym h2
            · rw [hx2] at hu; cases hu; exact so.irr _
          refine .region ?_
          refine TriOps.q .move ?_
          refine TriOps.q (.i64 ((2 * r + 2 : Nat) : Int) .add ⟨by omega, by omega, by omega⟩) ?_
          refine TriOps.q .assign ?_
          refine .nil ?_
          first
            | exact joinQ_n (2 * r + 2, x2) ⟨by simp only; omega, hlt2, by simp only [par]; omega, hx2, ok2, hminA⟩ (((((((EnvLe.nil _).cons rfl).cons rfl).cons rfl).cons rfl).cons rfl).cons rfl) (HLe.refl _)
            | exact joinQ_n (2 * r + 1, x1) ⟨by simp only; omega, hlt, by simp only [par]; omega, hx1, ok1, hminB⟩ (((((((EnvLe.nil _).cons rfl).cons rfl).cons rfl).cons rfl).cons rfl).cons rfl) (HLe.refl _)
            | (have hminB : ∀ c' u, 0 < c' → c' < hi → par c' = r → ys[fi + c']? = some u → ltc c x1 u = false := fun c' u h0 hc hp hu => by
                 have : c' = 2 * r + 1 ∨ c' = 2 * r + 2 := by simp only [par] at hp; omega
                 rcases this with rfl | rfl
                 · rw [hx1] at hu; cases hu; exact so.irr _
                 · rw [hx2] at hu; cases hu; exact h2
               exact joinQ_n (2 * r + 1, x1) ⟨by simp only; omega, hlt, by simp only [par]; omega, hx1, ok1, hminB⟩ (((((((EnvLe.nil _).cons rfl).cons rfl).cons rfl).cons rfl).cons rfl).cons rfl) (HLe.refl _))
        · skip
          refine .skip ?_
          first
            | exact joinQ_n (2 * r + 2, x2) ⟨by simp only; omega, hlt2, by simp only [par]; omega, hx2, ok2, hminA⟩ (((((((EnvLe.nil _).cons rfl).cons rfl).cons rfl).cons rfl).cons rfl).cons rfl) (HLe.refl _)
            | exact joinQ_n (2 * r + 1, x1) ⟨by simp only; omega, hlt, by simp only [par]; omega, hx1, ok1, hminB⟩ (((((((EnvLe.nil _).cons rfl).cons rfl).cons rfl).cons rfl).cons rfl).cons rfl) (HLe.refl _)
            | (have hminB : ∀ c' u, 0 < c' → c' < hi → par c' = r → ys[fi + c']? = some u → ltc c x1 u = false := fun c' u h0 hc hp hu => by
                 have : c' = 2 * r + 1 ∨ c' = 2 * r + 2 := by simp only [par] at hp; omega
                 rcases this with rfl | rfl
                 · rw [hx1] at hu; cases hu; exact so.irr _
                 · rw [hx2] at hu; cases hu; exact h2
               exact joinQ_n (2 * r + 1, x1) ⟨by simp only; omega, hlt, by simp only [par]; omega, hx1, ok1, hminB⟩ (((((((EnvLe.nil _).cons rfl).cons rfl).cons rfl).cons rfl).cons rfl).cons rfl) (HLe.refl _))
      · skip
        have hminB : ∀ c' u, 0 < c' → c' < hi → par c' = r → ys[fi + c']? = some u → ltc c x1 u = false := fun c' u h0 hc hp hu => by
          have : c' = 2 * r + 1 := by have := of_decide_eq_false g3_4; simp only [par] at hp; omega
          subst this
          rw [hx1] at hu; cases hu; exact so.irr _
        refine TriOps.gF g3_4 ?_
        refine TriOps.gF g3_4 ?_
        refine TriOps.gF g3_4 ?_
        refine TriOps.gF g3_4 ?_
        refine TriOps.gF g3_4 ?_
        refine TriOps.gF g3_4 ?_
        refine TriOps.gF g3_4 ?_
        refine TriOps.gF g3_4 ?_
        refine TriOps.gF g3_4 ?_
        refine TriOps.gF g3_4 ?_
        refine TriOps.gF g3_4 ?_
        refine TriOps.gF g3_4 ?_
        refine TriOps.gF g3_4 ?_
        refine TriOps.gF g3_4 ?_
        refine .nil ?_
        refine TriOps.gF g3_4 ?_
        refine TriOps.gF g3_4 ?_
        refine TriOps.q (.pickFh g3_4) ?_
        refine .nil ?_
        refine seqQ_n ?_
        refine .condF ?_
        refine .skip ?_
        first
          | exact joinQ_n (2 * r + 2, x2) ⟨by simp only; omega, hlt2, by simp only [par]; omega, hx2, ok2, hminA⟩ (((((((EnvLe.nil _).cons rfl).cons rfl).cons rfl).cons rfl).cons rfl).cons rfl) (HLe.refl _)
          | exact joinQ_n (2 * r + 1, x1) ⟨by simp only; omega, hlt, by simp only [par]; omega, hx1, ok1, hminB⟩ (((((((EnvLe.nil _).cons rfl).cons rfl).cons rfl).cons rfl).cons rfl).cons rfl) (HLe.refl _)
          | (have hminB : ∀ c' u, 0 < c' → c' < hi → par c' = r → ys[fi + c']? = some u → ltc c x1 u = false := fun c' u h0 hc hp hu => by
               have : c' = 2 * r + 1 ∨ c' = 2 * r + 2 := by simp only [par] at hp; omega
               rcases this with rfl | rfl
               · rw [hx1] at hu; cases hu; exact so.irr _
               · rw [hx2] at hu; cases hu; exact h2
             exact joinQ_n (2 * r + 1, x1) ⟨by simp only; omega, hlt, by simp only [par]; omega, hx1, ok1, hminB⟩ (((((((EnvLe.nil _).cons rfl).cons rfl).cons rfl).cons rfl).cons rfl).cons rfl) (HLe.refl _))
    · intro y hy
      obtain ⟨j, x⟩ := y
      obtain ⟨hj0, hjn, hjp, hx, okx, hmin⟩ := hy
      simp only at hj0 hjn hjp hx okx hmin ⊢
      have hij : r < j := hjp ▸ par_lt hj0
      refine seqQ_n ?_
      refine .seq ?_
      refine .seq ?_
      refine .region_tail 13 mixed (by kernel_rfl) ?_
      conv => arg 6; dsimp only [List.take]
      refine TriOps.q .move ?_
      refine TriOps.q .move ?_
      refine TriOps.q .move ?_
      refine TriOps.q .move ?_
      refine TriOps.q (.i64 ((fi + r : Nat) : Int) .add ⟨by omega, by omega, by omega⟩) ?_
      refine TriOps.indexO (fi + r) hO1 hy0 (fun p48 => ?_)
      refine TriOps.q (.loadA rfl) ?_
      refine TriOps.q .move ?_
      refine TriOps.q .move ?_
      refine TriOps.q .move ?_
      refine TriOps.q (.i64 ((fi + j : Nat) : Int) .add ⟨by omega, by omega, by omega⟩) ?_
      refine TriOps.indexO (fi + j) hO1 hx (fun p54 => ?_)
      refine TriOps.q (.loadA rfl) ?_
      refine .nil ?_
      refine TriOps.callRV (first := []) (captured := caps) (vs := [(fun p : CP => Value.agg (encC p).toArray) y0, (fun p : CP => Value.agg (encC p).toArray) x]) (hf y0 x ok0 okx _ (fun b o hb => .inl hb)) (fun u hu => ?_)
      subst hu
      refine TriOps.q .lss ?_
      refine TriOps.q .not ?_
      refine .nil ?_
      refine seqQ_n ?_
      refine .cond rfl (fun h3 => ?_) (fun h3 => ?_)
      · skip
        refine .ret (seqQ_r (blkQ_r (loopQ_r (blkQ_r (retQ_r _ .none (HLe.refl _) ?_)))))
        refine ⟨_, rfl, rfl, ys, hO1, hR1, fun hh => (hH1 hh).stop fun c' h0 hc hp u w hu hw => ?_⟩
        first
          | (simp only [par] at hp; omega)
          | (rw [drop_get] at hu hw
             rw [hy0] at hu; cases hu
             have h3' : (!ltc c y0 x) = true := h3
             exact so'.ntr _ _ _ (hmin c' w h0 hc hp hw) (by simpa using h3'))
      · skip
        refine .skip ?_
        refine seqQ_n ?_
        refine .seq ?_
        refine .region_all [21, 23] mixed ?_
        refine RA.takeO 0 rfl .move (by kernel_rfl) ?_
        refine RA.takeO 1 rfl .move (by kernel_rfl) ?_
        refine RA.takeO 2 rfl .move (by kernel_rfl) ?_
        refine RA.takeO 3 rfl (.i64 ((fi + r : Nat) : Int) .add ⟨by omega, by omega, by omega⟩) (by kernel_rfl) ?_
        refine RA.take 4 rfl .move (by kernel_rfl) ?_
        refine RA.take 5 rfl .move (by kernel_rfl) ?_
        refine RA.take 6 rfl .move (by kernel_rfl) ?_
        refine RA.take 7 rfl (.i64 ((fi + j : Nat) : Int) .add ⟨by omega, by omega, by omega⟩) (by kernel_rfl) ?_
        refine RA.takeO 8 rfl .move (by kernel_rfl) ?_
        refine RA.takeO 9 rfl .move (by kernel_rfl) ?_
        refine RA.takeO 10 rfl .move (by kernel_rfl) ?_
        refine RA.takeO 11 rfl (.i64 ((fi + j : Nat) : Int) .add ⟨by omega, by omega, by omega⟩) (by kernel_rfl) ?_
        refine RA.indexO 12 rfl (fi + j) hO1 hx rfl rfl rfl (by kernel_rfl) (fun p71 => ?_)
        refine RA.takeO 13 rfl (.loadA rfl) (by kernel_rfl) ?_
        refine RA.takeO 14 rfl .move (by kernel_rfl) ?_
        refine RA.takeO 15 rfl .move (by kernel_rfl) ?_
        refine RA.takeO 16 rfl .move (by kernel_rfl) ?_
        refine RA.takeO 17 rfl (.i64 ((fi + r : Nat) : Int) .add ⟨by omega, by omega, by omega⟩) (by kernel_rfl) ?_
        refine RA.indexO 18 rfl (fi + r) hO1 hy0 rfl rfl rfl (by kernel_rfl) (fun p77 => ?_)
        refine RA.takeO 19 rfl (.loadA rfl) (by kernel_rfl) ?_
        refine RA.indexO 20 rfl (fi + r) hO1 hy0 rfl rfl rfl (by kernel_rfl) (fun p79 => ?_)
        refine RA.step 21 rfl (by kernel_rfl) rfl ?_
        refine TriOps.storeO (fi + r) hO1 hy0 x (fun Tsa hsa => ?_) (hO1.one _ (List.mem_of_getElem? hx))
        refine .nil (Next.mod rfl ?_)
        refine RA.indexO 22 rfl (fi + j) hO1 hx rfl rfl rfl (by kernel_rfl) (fun p80 => ?_)
        refine RA.step 23 rfl (by kernel_rfl) rfl ?_
        obtain ⟨zz, hzz⟩ : ∃ u, (ys.set (fi + r) x)[fi + j]? = some u := ⟨_, List.getElem?_eq_getElem (by rw [List.length_set]; exact (List.getElem?_eq_some_iff.1 hx).1)⟩
        refine TriOps.storeO (fi + j) hsa hzz y0 (fun Tsw hsw => ?_) (hO1.one _ (List.mem_of_getElem? hy0))
        rw [← swp_eq hy0 hx] at hsw
        refine .nil (Next.mod rfl ?_)
        refine RA.nil (by kernel_rfl) ?_
        refine seqQ_n ?_
        refine .region ?_
        refine TriOps.q .move ?_
        refine TriOps.q .assign ?_
        refine .nil ?_
        refine blkQ_n ?_
        have hlt3 : ltc c y0 x = true := by
          have h3' : (!ltc c y0 x) = false := h3
          simpa using h3'
        have hds := drop_swp (xs := ys) (f := fi) (i := r) (j := j) (by omega) (by omega)
        exact loopQ_i (j, swp ys (fi + r) (fi + j), Tsw) ⟨⟨by simp only; omega, by simp only; omega⟩, hsw, hR1.step (by omega) (by omega) (by omega) (by omega) (by omega), fun hh => by
          simp only
          rw [hds]
          exact (hH1 hh).step so' hr1 hj0 hjn (by omega) hjp (by rw [drop_get]; exact hx) (by rw [drop_get]; exact hy0) hlt3 fun c' z h1 h2 h3 h4 => hmin c' z h1 h2 h3 (by rw [← drop_get]; exact h4)⟩ (by simp only; omega) ((((((EnvLe.nil _).cons rfl).cons rfl).cons rfl).cons rfl).cons rfl) (HLe.refl _)
end
end SCL
end Go.Proofs.Ytlmdgdehjpahiaa
