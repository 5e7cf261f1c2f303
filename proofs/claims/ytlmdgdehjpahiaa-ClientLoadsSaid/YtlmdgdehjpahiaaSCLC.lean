/- Sorting by a function, at one kind of elements: the sort of what is nearly in order; the choice of a pivot. No condition. -/
import Derived.Test.YtlmdgdehjpahiaaSCLB
import Derived.Test.YtlmdgdehjpahiaaMot5
set_option linter.unusedVariables false
set_option maxRecDepth 4000
namespace Go.Proofs.Ytlmdgdehjpahiaa
namespace SCL
section
variable {c : CP → CP → Int} {ok : CP → Prop} {f : FuncId} {caps : List Value} [e : Ent Try.prog f]

theorem part_spec (v : Value) (xs : List CP) (T : Seg) (a b : Nat) (R : Rds) (h : OS 35 4 encC v xs T) (hab : a < b) (hb : b ≤ xs.length) (hl : xs.length ≤ 1000000000) (hf : FnC Try.prog f caps R (fun p : CP => Value.agg (encC p).toArray) c ok) (hok : ∀ x ∈ xs, ok x) (so : SO (ltc c)) (hlb : LB (ltc c) xs a b) :
    Spec Try.prog 144 [v, .int .i64 a, .int .i64 b, .func (.func f) #[] caps.toArray] R [T] fun u H' => ∃ T', H' = [T'] ∧ ∃ ys m, u = .bool m ∧ OS 35 4 encC v ys T' ∧ RP a b xs ys ∧ (m = true → SR (ltc c) ys a b) := by
  have iv := h.oneCell
  refine Spec.body Try.func144 rfl Try.results144 Try.ntmps144 rfl ?_
  refine .seq ?_
  refine .region ?_
  refine TriOps.q .assign ?_
  refine .nil ?_
  refine seqQ_n ?_
  refine .seq ?_
  refine .region ?_
  refine TriOps.q .move ?_
  refine TriOps.q (.i64 ((a + 1 : Nat) : Int) .add ⟨by omega, by omega, by omega⟩) ?_
  refine TriOps.q .assign ?_
  refine .nil ?_
  refine seqQ_n ?_
  refine .seq ?_
  refine .seq ?_
  refine .region ?_
  refine TriOps.q .assign ?_
  refine .nil ?_
  refine seqQ_n ?_
  refine .block ?_
  refine .loop (X := Nat × Nat × List CP × Seg) (fun y => (y.1 ≤ 5 ∧ a + 1 ≤ y.2.1 ∧ y.2.1 ≤ b) ∧ OS 35 4 encC v y.2.2.1 y.2.2.2 ∧ RP a b xs y.2.2.1 ∧ SR (ltc c) y.2.2.1 a y.2.1) (fun y => [(0, v), (1, .int .i64 (a : Nat)), (2, .int .i64 (b : Nat)), (3, .func (.func f) #[] caps.toArray), (9, .int .i64 (y.2.1 : Nat)), (10, .int .i64 (y.1 : Nat))]) (fun y => [y.2.2.2]) (fun y => 5 - y.1) (0, a + 1, xs, T) ⟨⟨by omega, Nat.le_refl _, hab⟩, h, .refl _, fun i j h1 h2 h3 => by simp only at h3; omega⟩ (((((((EnvLe.nil _).cons rfl).cons rfl).cons rfl).cons rfl).cons rfl).cons rfl) (HLe.refl _) ?_
  rintro ⟨n, i, ys, T1⟩ ⟨⟨hn, hi1, hi2⟩, hO1, hR1, hS1⟩
  simp only at hn hi1 hi2 hO1 hR1 hS1 ⊢
  have hlen := hR1.length
  refine .seq ?_
  refine .seq ?_
  refine .region ?_
  refine TriOps.q .move ?_
  refine TriOps.q .lss ?_
  refine .nil ?_
  refine seqQ_n ?_
  refine .cond rfl (fun h1 => ?_) (fun h1 => ?_)
  · skip
    have hn5 : n < 5 := by have := of_decide_eq_true h1; omega
    refine .skip ?_
    refine seqQ_n ?_
    refine .seq ?_
    refine .block ?_
    refine .seq ?_
    refine Tri.cut (X := Nat) (fun i => (a + 1 ≤ i ∧ i ≤ b) ∧ SR (ltc c) ys a i) (fun i => [(0, v), (1, .int .i64 (a : Nat)), (2, .int .i64 (b : Nat)), (3, .func (.func f) #[] caps.toArray), (9, .int .i64 (i : Nat)), (10, .int .i64 (n : Nat))]) (fun _ => [T1]) ?_ ?_
    · refine .block ?_
      refine .loop (X := Nat) (fun i => (a + 1 ≤ i ∧ i ≤ b) ∧ SR (ltc c) ys a i) (fun i => [(0, v), (1, .int .i64 (a : Nat)), (2, .int .i64 (b : Nat)), (3, .func (.func f) #[] caps.toArray), (9, .int .i64 (i : Nat)), (10, .int .i64 (n : Nat))]) (fun _ => [T1]) (fun i => b - i) i ⟨⟨hi1, hi2⟩, hS1⟩ (((((((EnvLe.nil _).cons rfl).cons rfl).cons rfl).cons rfl).cons rfl).cons rfl) (HLe.refl _) ?_
      clear hi1 hi2 hS1
      rintro i ⟨⟨hi1, hi2⟩, hS1⟩
      refine .seq ?_
      refine .seq ?_
      refine .region_tail 14 mixed (by kernel_rfl) ?_
      conv => arg 6; dsimp only [List.take]
      refine TriOps.q .move ?_
      refine TriOps.q .move ?_
      refine TriOps.q .lss ?_
      refine TriOps.q .move ?_
      refine TriOps.split (t := 22) rfl (fun g5_3 => ?_) (fun g5_3 => ?_)
      · skip
        have hib : i < b := by have := of_decide_eq_true g5_3; omega
        obtain ⟨x, hx⟩ : ∃ x, ys[i]? = some x := ⟨_, List.getElem?_eq_getElem (by omega)⟩
        obtain ⟨y, hy⟩ : ∃ x, ys[i - 1]? = some x := ⟨_, List.getElem?_eq_getElem (by omega)⟩
        have okx := hok x (hR1.perm.mem_iff.1 (List.mem_of_getElem? hx))
        have oky := hok y (hR1.perm.mem_iff.1 (List.mem_of_getElem? hy))
        refine TriOps.gT g5_3 ?_
        refine TriOps.q .move ?_
        refine TriOps.gT g5_3 ?_
        refine TriOps.q .move ?_
        refine TriOps.gT g5_3 ?_
        refine TriOps.q .move ?_
        refine TriOps.gT g5_3 ?_
        refine TriOps.indexO i hO1 hx (fun p26 => ?_)
        refine TriOps.gT g5_3 ?_
        refine TriOps.q (.loadA rfl) ?_
        refine TriOps.gT g5_3 ?_
        refine TriOps.q .move ?_
        refine TriOps.gT g5_3 ?_
        refine TriOps.q .move ?_
        refine TriOps.gT g5_3 ?_
        refine TriOps.q (.i64 ((i - 1 : Nat) : Int) .sub ⟨by omega, by omega, by omega⟩) ?_
        refine TriOps.gT g5_3 ?_
        refine TriOps.indexO (i - 1) hO1 hy (fun p31 => ?_)
        refine TriOps.gT g5_3 ?_
        refine TriOps.q (.loadA rfl) ?_
        refine .nil ?_
        refine TriOps.gT g5_3 ?_
        refine TriOps.callRV (first := []) (captured := caps) (vs := [(fun p : CP => Value.agg (encC p).toArray) x, (fun p : CP => Value.agg (encC p).toArray) y]) (hf x y okx oky _ (fun b o hb => .inl hb)) (fun u hu => ?_)
        subst hu
        refine TriOps.gT g5_3 ?_
        refine TriOps.q .lss ?_
        refine TriOps.gT g5_3 ?_
        refine TriOps.q .not ?_
        refine TriOps.q (.pickTh g5_3) ?_
        refine .nil ?_
        refine seqQ_n ?_
        refine .cond rfl (fun h2 => ?_) (fun h2 => ?_)
        · skip
          refine .skip ?_
          refine seqQ_n ?_
          refine .block ?_
          refine .region ?_
          refine TriOps.q .move ?_
          refine TriOps.q (.i64 ((i + 1 : Nat) : Int) .add ⟨by omega, by omega, by omega⟩) ?_
          refine TriOps.q .assign ?_
          refine .nil ?_
          refine blkQ_n ?_
          have hnl : ltc c x y = false := by
            have h2' : (!ltc c x y) = true := h2
            simpa using h2'
          exact loopQ_i (i + 1) ⟨⟨by omega, by omega⟩, hS1.snoc so (by omega) (by omega) fun u w hu hw => by
            rw [hy] at hu; rw [hx] at hw; cases hu; cases hw; exact hnl⟩ (by omega) (((((((EnvLe.nil _).cons rfl).cons rfl).cons rfl).cons rfl).cons rfl).cons rfl) (HLe.refl _)
        · skip
          refine .exit (seqQ_x (loopQ_x (blkQ_x ?_)))
          exact joinQ_n i ⟨⟨hi1, hi2⟩, hS1⟩ (((((((EnvLe.nil _).cons rfl).cons rfl).cons rfl).cons rfl).cons rfl).cons rfl) (HLe.refl _)
      · skip
        refine TriOps.gF g5_3 ?_
        refine TriOps.gF g5_3 ?_
        refine TriOps.gF g5_3 ?_
        refine TriOps.gF g5_3 ?_
        refine TriOps.gF g5_3 ?_
        refine TriOps.gF g5_3 ?_
        refine TriOps.gF g5_3 ?_
        refine TriOps.gF g5_3 ?_
        refine TriOps.gF g5_3 ?_
        refine TriOps.gF g5_3 ?_
        refine .nil ?_
        refine TriOps.gF g5_3 ?_
        refine TriOps.gF g5_3 ?_
        refine TriOps.gF g5_3 ?_
        refine TriOps.q (.pickFh g5_3) ?_
        refine .nil ?_
        refine seqQ_n ?_
        refine .condF ?_
        refine .exit (seqQ_x (loopQ_x (blkQ_x ?_)))
        exact joinQ_n i ⟨⟨hi1, hi2⟩, hS1⟩ (((((((EnvLe.nil _).cons rfl).cons rfl).cons rfl).cons rfl).cons rfl).cons rfl) (HLe.refl _)
    · intro x hx
      obtain ⟨i2, hi2e⟩ : ∃ i2, i2 = x := ⟨_, rfl⟩
      rw [← hi2e] at hx ⊢
      clear hi2e x hi1 hi2 hS1
      obtain ⟨⟨hi1, hi2⟩, hS1⟩ := hx
      refine seqQ_n ?_
      refine .seq ?_
      refine .seq ?_
      refine .region ?_
      refine TriOps.q .move ?_
      refine TriOps.q .move ?_
      refine TriOps.q .eqI ?_
      refine .nil ?_
      refine seqQ_n ?_
      refine .cond rfl (fun h3 => ?_) (fun h3 => ?_)
      · skip
        refine .seq ?_
        refine .region ?_
        refine TriOps.q .assign ?_
        refine .nil ?_
        refine seqQ_n ?_
        refine .ret (seqQ_r (blkQ_r (seqQ_r (loopQ_r (blkQ_r (seqQ_r (retQ_r _ (.one (.tmp rfl)) (HLe.refl _) ?_)))))))
        have heq : i2 = b := by
          have h3' : ((i2 : Int) = b) := by simpa using h3
          omega
        exact ⟨_, rfl, ys, true, rfl, hO1, hR1, fun _ => heq ▸ hS1⟩
      · skip
        have hib : i2 < b := by
          have h3' : ¬ ((i2 : Int) = b) := by simpa using h3
          omega
        obtain ⟨x, hx⟩ : ∃ x, ys[i2]? = some x := ⟨_, List.getElem?_eq_getElem (by omega)⟩
        obtain ⟨y, hy⟩ : ∃ x, ys[i2 - 1]? = some x := ⟨_, List.getElem?_eq_getElem (by omega)⟩
        refine .skip ?_
        refine seqQ_n ?_
        refine .seq ?_
        refine .seq ?_
        refine .region ?_
        refine TriOps.q .move ?_
        refine TriOps.q .move ?_
        refine TriOps.q (.i64 ((b - a : Nat) : Int) .sub ⟨by omega, by omega, by omega⟩) ?_
        refine TriOps.q .lss ?_
        refine .nil ?_
        refine seqQ_n ?_
        refine .cond rfl (fun h4 => ?_) (fun h4 => ?_)
        · skip
          refine .seq ?_
          refine .region ?_
          refine TriOps.q .assign ?_
          refine .nil ?_
          refine seqQ_n ?_
          refine .ret (seqQ_r (blkQ_r (seqQ_r (loopQ_r (blkQ_r (seqQ_r (retQ_r _ (.one (.tmp rfl)) (HLe.refl _) ?_)))))))
          exact ⟨_, rfl, ys, false, rfl, hO1, hR1, fun h => by cases h⟩
        · skip
          refine .skip ?_
          refine seqQ_n ?_
          refine .seq ?_
          refine .region_all [15, 17] mixed ?_
          refine RA.takeO 0 rfl .move (by kernel_rfl) ?_
          refine RA.takeO 1 rfl .move (by kernel_rfl) ?_
          refine RA.take 2 rfl .move (by kernel_rfl) ?_
          refine RA.take 3 rfl .move (by kernel_rfl) ?_
          refine RA.take 4 rfl (.i64 ((i2 - 1 : Nat) : Int) .sub ⟨by omega, by omega, by omega⟩) (by kernel_rfl) ?_
          refine RA.takeO 5 rfl .move (by kernel_rfl) ?_
          refine RA.takeO 6 rfl .move (by kernel_rfl) ?_
          refine RA.takeO 7 rfl (.i64 ((i2 - 1 : Nat) : Int) .sub ⟨by omega, by omega, by omega⟩) (by kernel_rfl) ?_
          refine RA.indexO 8 rfl (i2 - 1) hO1 hy rfl rfl rfl (by kernel_rfl) (fun p54 => ?_)
          refine RA.takeO 9 rfl (.loadA rfl) (by kernel_rfl) ?_
          refine RA.takeO 10 rfl .move (by kernel_rfl) ?_
          refine RA.takeO 11 rfl .move (by kernel_rfl) ?_
          refine RA.indexO 12 rfl (i2) hO1 hx rfl rfl rfl (by kernel_rfl) (fun p58 => ?_)
          refine RA.takeO 13 rfl (.loadA rfl) (by kernel_rfl) ?_
          refine RA.indexO 14 rfl (i2) hO1 hx rfl rfl rfl (by kernel_rfl) (fun p60 => ?_)
          refine RA.step 15 rfl (by kernel_rfl) rfl ?_
          refine TriOps.storeO (i2) hO1 hx y (fun Tsa hsa => ?_) (hO1.one _ (List.mem_of_getElem? hy))
          refine .nil (Next.mod rfl ?_)
          refine RA.indexO 16 rfl (i2 - 1) hO1 hy rfl rfl rfl (by kernel_rfl) (fun p61 => ?_)
          refine RA.step 17 rfl (by kernel_rfl) rfl ?_
          obtain ⟨zz, hzz⟩ : ∃ u, (ys.set (i2) y)[i2 - 1]? = some u := ⟨_, List.getElem?_eq_getElem (by rw [List.length_set]; exact (List.getElem?_eq_some_iff.1 hy).1)⟩
          refine TriOps.storeO (i2 - 1) hsa hzz x (fun Tsw hsw => ?_) (hO1.one _ (List.mem_of_getElem? hx))
          rw [← swp_eq hx hy] at hsw
          refine .nil (Next.mod rfl ?_)
          refine RA.nil (by kernel_rfl) ?_
          have hR2 := hR1.step (i := i2) (j := i2 - 1) (by omega) (by omega) (by omega) (by omega) (by omega)
          have hI2 := hS1.swp_last (by omega)
          clear hS1
          refine seqQ_n ?_
          refine .seq ?_
          refine Tri.cut (X := List CP × Seg) (fun z => OS 35 4 encC v z.1 z.2 ∧ RP a b xs z.1 ∧ SR (ltc c) z.1 a i2) (fun _ => [(0, v), (1, .int .i64 (a : Nat)), (2, .int .i64 (b : Nat)), (3, .func (.func f) #[] caps.toArray), (9, .int .i64 (i2 : Nat)), (10, .int .i64 (n : Nat))]) (fun z => [z.2]) ?_ ?_
          · refine .seq ?_
            refine .region ?_
            refine TriOps.q .move ?_
            refine TriOps.q .move ?_
            refine TriOps.q (.i64 ((i2 - a : Nat) : Int) .sub ⟨by omega, by omega, by omega⟩) ?_
            refine TriOps.q .geq ?_
            refine .nil ?_
            refine seqQ_n ?_
            refine .cond rfl (fun h5 => ?_) (fun h5 => ?_)
            · skip
              refine .seq ?_
              refine .region ?_
              refine TriOps.q .move ?_
              refine TriOps.q (.i64 ((i2 - 1 : Nat) : Int) .sub ⟨by omega, by omega, by omega⟩) ?_
              refine TriOps.q .assign ?_
              refine .nil ?_
              refine seqQ_n ?_
              refine .block ?_
              refine .loop (X := Nat × List CP × Seg) (fun z => (a ≤ z.1 ∧ z.1 ≤ i2 - 1) ∧ OS 35 4 encC v z.2.1 z.2.2 ∧ RP a b xs z.2.1 ∧ Ins (ltc c) z.2.1 a z.1 i2) (fun z => [(0, v), (1, .int .i64 (a : Nat)), (2, .int .i64 (b : Nat)), (3, .func (.func f) #[] caps.toArray), (9, .int .i64 (i2 : Nat)), (10, .int .i64 (n : Nat)), (11, .int .i64 (z.1 : Nat))]) (fun z => [z.2.2]) (fun z => z.1) (i2 - 1, swp ys i2 (i2 - 1), Tsw) ⟨⟨by simp only; omega, Nat.le_refl _⟩, hsw, hR2, hI2⟩ ((((((((EnvLe.nil _).cons rfl).cons rfl).cons rfl).cons rfl).cons rfl).cons rfl).cons rfl) (HLe.refl _) ?_
              rintro ⟨q, zs, T3⟩ ⟨⟨hq1, hq2⟩, hO3, hR3, hI3⟩
              simp only at hq1 hq2 hO3 hR3 hI3 ⊢
              have hlen3 := hR3.length
              refine .seq ?_
              refine .seq ?_
              refine .region ?_
              refine TriOps.q .move ?_
              refine TriOps.q .geq ?_
              refine .nil ?_
              refine seqQ_n ?_
              refine .cond rfl (fun h6 => ?_) (fun h6 => ?_)
              · skip
                have hq0 : 1 ≤ q := by have := of_decide_eq_true h6; omega
                obtain ⟨s, hs⟩ : ∃ x, zs[q]? = some x := ⟨_, List.getElem?_eq_getElem (by omega)⟩
                obtain ⟨t, ht⟩ : ∃ x, zs[q - 1]? = some x := ⟨_, List.getElem?_eq_getElem (by omega)⟩
                have oks := hok s (hR3.perm.mem_iff.1 (List.mem_of_getElem? hs))
                have okt := hok t (hR3.perm.mem_iff.1 (List.mem_of_getElem? ht))
                refine .skip ?_
                refine seqQ_n ?_
                refine .seq ?_
                refine .block ?_
                refine .seq ?_
                refine .seq ?_
                refine .region_tail 10 mixed (by kernel_rfl) ?_
                conv => arg 6; dsimp only [List.take]
                refine TriOps.q .move ?_
                refine TriOps.q .move ?_
                refine TriOps.q .move ?_
                refine TriOps.indexO q hO3 hs (fun p75 => ?_)
                refine TriOps.q (.loadA rfl) ?_
                refine TriOps.q .move ?_
                refine TriOps.q .move ?_
                refine TriOps.q (.i64 ((q - 1 : Nat) : Int) .sub ⟨by omega, by omega, by omega⟩) ?_
                refine TriOps.indexO (q - 1) hO3 ht (fun p80 => ?_)
                refine TriOps.q (.loadA rfl) ?_
                refine .nil ?_
                refine TriOps.callRV (first := []) (captured := caps) (vs := [(fun p : CP => Value.agg (encC p).toArray) s, (fun p : CP => Value.agg (encC p).toArray) t]) (hf s t oks okt _ (fun b o hb => .inl hb)) (fun u hu => ?_)
                subst hu
                refine TriOps.q .lss ?_
                refine TriOps.q .not ?_
                refine .nil ?_
                refine seqQ_n ?_
                refine .cond rfl (fun h7 => ?_) (fun h7 => ?_)
                · skip
                  have hdone : SR (ltc c) zs a i2 := hI3.done so (by omega) (by omega) (by
                    have h7' : (!ltc c s t) = true := h7
                    rcases Nat.lt_or_ge a q with hh | hh
                    · exact .inr ⟨hh, fun u w hu hw => by rw [ht] at hu; rw [hs] at hw; cases hu; cases hw; simpa using h7'⟩
                    · exact .inl (by omega))
                  refine .exit (seqQ_x (blkQ_y (seqQ_x (loopQ_x (blkQ_x ?_)))))
                  first
                    | exact joinQ_n (zs, T3) ⟨hO3, hR3, hdone⟩ (((((((EnvLe.nil _).cons rfl).cons rfl).cons rfl).cons rfl).cons rfl).cons rfl) (HLe.refl _)
                    | exact joinQ_n (swp ys i2 (i2 - 1), Tsw) ⟨hsw, hR2, fun p q h1 h2 h3 => by have := of_decide_eq_false h5; omega⟩ (((((((EnvLe.nil _).cons rfl).cons rfl).cons rfl).cons rfl).cons rfl).cons rfl) (HLe.refl _)
                · skip
                  have hls : ltc c s t = true := by
                    have h7' : (!ltc c s t) = false := h7
                    simpa using h7'
                  have haq : a < q := by
                    rcases Nat.lt_or_ge a q with hh | hh
                    · exact hh
                    · have ea : q = a := by omega
                      subst ea
                      have := (hlb.rp hR3) (by omega) q (Nat.le_refl _) hab t s ht hs
                      rw [this] at hls; cases hls
                  refine .skip ?_
                  refine seqQ_n ?_
                  refine .region_all [15, 17] mixed ?_
                  refine RA.takeO 0 rfl .move (by kernel_rfl) ?_
                  refine RA.takeO 1 rfl .move (by kernel_rfl) ?_
                  refine RA.take 2 rfl .move (by kernel_rfl) ?_
                  refine RA.take 3 rfl .move (by kernel_rfl) ?_
                  refine RA.take 4 rfl (.i64 ((q - 1 : Nat) : Int) .sub ⟨by omega, by omega, by omega⟩) (by kernel_rfl) ?_
                  refine RA.takeO 5 rfl .move (by kernel_rfl) ?_
                  refine RA.takeO 6 rfl .move (by kernel_rfl) ?_
                  refine RA.takeO 7 rfl (.i64 ((q - 1 : Nat) : Int) .sub ⟨by omega, by omega, by omega⟩) (by kernel_rfl) ?_
                  refine RA.indexO 8 rfl (q - 1) hO3 ht rfl rfl rfl (by kernel_rfl) (fun p93 => ?_)
                  refine RA.takeO 9 rfl (.loadA rfl) (by kernel_rfl) ?_
                  refine RA.takeO 10 rfl .move (by kernel_rfl) ?_
                  refine RA.takeO 11 rfl .move (by kernel_rfl) ?_
                  refine RA.indexO 12 rfl (q) hO3 hs rfl rfl rfl (by kernel_rfl) (fun p97 => ?_)
                  refine RA.takeO 13 rfl (.loadA rfl) (by kernel_rfl) ?_
                  refine RA.indexO 14 rfl (q) hO3 hs rfl rfl rfl (by kernel_rfl) (fun p99 => ?_)
                  refine RA.step 15 rfl (by kernel_rfl) rfl ?_
                  refine TriOps.storeO (q) hO3 hs t (fun Tsa hsa => ?_) (hO3.one _ (List.mem_of_getElem? ht))
                  refine .nil (Next.mod rfl ?_)
                  refine RA.indexO 16 rfl (q - 1) hO3 ht rfl rfl rfl (by kernel_rfl) (fun p100 => ?_)
                  refine RA.step 17 rfl (by kernel_rfl) rfl ?_
                  obtain ⟨zz, hzz⟩ : ∃ u, (zs.set (q) t)[q - 1]? = some u := ⟨_, List.getElem?_eq_getElem (by rw [List.length_set]; exact (List.getElem?_eq_some_iff.1 ht).1)⟩
                  refine TriOps.storeO (q - 1) hsa hzz s (fun Tsw hsw => ?_) (hO3.one _ (List.mem_of_getElem? hs))
                  rw [← swp_eq hs ht] at hsw
                  refine .nil (Next.mod rfl ?_)
                  refine RA.nil (by kernel_rfl) ?_
                  refine blkQ_n (seqQ_n ?_)
                  refine .region ?_
                  refine TriOps.q .move ?_
                  refine TriOps.q (.i64 ((q - 1 : Nat) : Int) .sub ⟨by omega, by omega, by omega⟩) ?_
                  refine TriOps.q .assign ?_
                  refine .nil ?_
                  exact loopQ_i (q - 1, swp zs q (q - 1), Tsw) ⟨⟨by simp only; omega, by simp only; omega⟩, hsw, hR3.step (by omega) (by omega) (by omega) (by omega) (by omega), hI3.step so (by omega) (by omega) haq hs ht hls⟩ (by simp only; omega) ((((((((EnvLe.nil _).cons rfl).cons rfl).cons rfl).cons rfl).cons rfl).cons rfl).cons rfl) (HLe.refl _)
              · skip
                have hdone : SR (ltc c) zs a i2 := hI3.done so (by omega) (by omega) (.inl (by have := of_decide_eq_false h6; omega))
                refine .exit (seqQ_x (loopQ_x (blkQ_x ?_)))
                first
                  | exact joinQ_n (zs, T3) ⟨hO3, hR3, hdone⟩ (((((((EnvLe.nil _).cons rfl).cons rfl).cons rfl).cons rfl).cons rfl).cons rfl) (HLe.refl _)
                  | exact joinQ_n (swp ys i2 (i2 - 1), Tsw) ⟨hsw, hR2, fun p q h1 h2 h3 => by have := of_decide_eq_false h5; omega⟩ (((((((EnvLe.nil _).cons rfl).cons rfl).cons rfl).cons rfl).cons rfl).cons rfl) (HLe.refl _)
            · skip
              refine .skip ?_
              first
                | exact joinQ_n (zs, T3) ⟨hO3, hR3, hdone⟩ (((((((EnvLe.nil _).cons rfl).cons rfl).cons rfl).cons rfl).cons rfl).cons rfl) (HLe.refl _)
                | exact joinQ_n (swp ys i2 (i2 - 1), Tsw) ⟨hsw, hR2, fun p q h1 h2 h3 => by have := of_decide_eq_false h5; omega⟩ (((((((EnvLe.nil _).cons rfl).cons rfl).cons rfl).cons rfl).cons rfl).cons rfl) (HLe.refl _)
          · intro y hy
            obtain ⟨zs, T3⟩ := y
            obtain ⟨hO3, hR3, hS3⟩ := hy
            simp only at hO3 hR3 hS3 ⊢
            refine seqQ_n ?_
            refine Tri.cut (X := List CP × Seg) (fun z => OS 35 4 encC v z.1 z.2 ∧ RP a b xs z.1 ∧ SR (ltc c) z.1 a i2) (fun _ => [(0, v), (1, .int .i64 (a : Nat)), (2, .int .i64 (b : Nat)), (3, .func (.func f) #[] caps.toArray), (9, .int .i64 (i2 : Nat)), (10, .int .i64 (n : Nat))]) (fun z => [z.2]) ?_ ?_
            · refine .seq ?_
              refine .region ?_
              refine TriOps.q .move ?_
              refine TriOps.q .move ?_
              refine TriOps.q (.i64 ((b - i2 : Nat) : Int) .sub ⟨by omega, by omega, by omega⟩) ?_
              refine TriOps.q .geq ?_
              refine .nil ?_
              refine seqQ_n ?_
              refine .cond rfl (fun h8 => ?_) (fun h8 => ?_)
              · skip
                refine .seq ?_
                refine .region ?_
                refine TriOps.q .move ?_
                refine TriOps.q (.i64 ((i2 + 1 : Nat) : Int) .add ⟨by omega, by omega, by omega⟩) ?_
                refine TriOps.q .assign ?_
                refine .nil ?_
                refine seqQ_n ?_
                refine .block ?_
                refine .loop (X := Nat × List CP × Seg) (fun z => (i2 + 1 ≤ z.1 ∧ z.1 ≤ b) ∧ OS 35 4 encC v z.2.1 z.2.2 ∧ RP a b xs z.2.1 ∧ SR (ltc c) z.2.1 a i2) (fun z => [(0, v), (1, .int .i64 (a : Nat)), (2, .int .i64 (b : Nat)), (3, .func (.func f) #[] caps.toArray), (9, .int .i64 (i2 : Nat)), (10, .int .i64 (n : Nat)), (12, .int .i64 (z.1 : Nat))]) (fun z => [z.2.2]) (fun z => b - z.1) (i2 + 1, zs, T3) ⟨⟨Nat.le_refl _, by simp only; omega⟩, hO3, hR3, hS3⟩ ((((((((EnvLe.nil _).cons rfl).cons rfl).cons rfl).cons rfl).cons rfl).cons rfl).cons rfl) (HLe.refl _) ?_
                rintro ⟨q, ws, T4⟩ ⟨⟨hq1, hq2⟩, hO4, hR4, hS4⟩
                simp only at hq1 hq2 hO4 hR4 hS4 ⊢
                have hlen4 := hR4.length
                refine .seq ?_
                refine .seq ?_
                refine .region ?_
                refine TriOps.q .move ?_
                refine TriOps.q .move ?_
                refine TriOps.q .lss ?_
                refine .nil ?_
                refine seqQ_n ?_
                refine .cond rfl (fun h9 => ?_) (fun h9 => ?_)
                · skip
                  have hqb : q < b := by have := of_decide_eq_true h9; omega
                  obtain ⟨s, hs⟩ : ∃ x, ws[q]? = some x := ⟨_, List.getElem?_eq_getElem (by omega)⟩
                  obtain ⟨t, ht⟩ : ∃ x, ws[q - 1]? = some x := ⟨_, List.getElem?_eq_getElem (by omega)⟩
                  have oks := hok s (hR4.perm.mem_iff.1 (List.mem_of_getElem? hs))
                  have okt := hok t (hR4.perm.mem_iff.1 (List.mem_of_getElem? ht))
                  refine .skip ?_
                  refine seqQ_n ?_
                  refine .seq ?_
                  refine .block ?_
                  refine .seq ?_
                  refine .seq ?_
                  refine .region_tail 10 mixed (by kernel_rfl) ?_
                  conv => arg 6; dsimp only [List.take]
                  refine TriOps.q .move ?_
                  refine TriOps.q .move ?_
                  refine TriOps.q .move ?_
                  refine TriOps.indexO q hO4 hs (fun p115 => ?_)
                  refine TriOps.q (.loadA rfl) ?_
                  refine TriOps.q .move ?_
                  refine TriOps.q .move ?_
                  refine TriOps.q (.i64 ((q - 1 : Nat) : Int) .sub ⟨by omega, by omega, by omega⟩) ?_
                  refine TriOps.indexO (q - 1) hO4 ht (fun p120 => ?_)
                  refine TriOps.q (.loadA rfl) ?_
                  refine .nil ?_
                  refine TriOps.callRV (first := []) (captured := caps) (vs := [(fun p : CP => Value.agg (encC p).toArray) s, (fun p : CP => Value.agg (encC p).toArray) t]) (hf s t oks okt _ (fun b o hb => .inl hb)) (fun u hu => ?_)
                  subst hu
                  refine TriOps.q .lss ?_
                  refine TriOps.q .not ?_
                  refine .nil ?_
                  refine seqQ_n ?_
                  refine .cond rfl (fun h10 => ?_) (fun h10 => ?_)
                  · skip
                    refine .exit (seqQ_x (blkQ_y (seqQ_x (loopQ_x (blkQ_x ?_)))))
                    first
                      | exact joinQ_n (ws, T4) ⟨hO4, hR4, hS4⟩ (((((((EnvLe.nil _).cons rfl).cons rfl).cons rfl).cons rfl).cons rfl).cons rfl) (HLe.refl _)
                      | exact joinQ_n (zs, T3) ⟨hO3, hR3, hS3⟩ (((((((EnvLe.nil _).cons rfl).cons rfl).cons rfl).cons rfl).cons rfl).cons rfl) (HLe.refl _)
                  · skip
                    refine .skip ?_
                    refine seqQ_n ?_
                    refine .region_all [15, 17] mixed ?_
                    refine RA.takeO 0 rfl .move (by kernel_rfl) ?_
                    refine RA.takeO 1 rfl .move (by kernel_rfl) ?_
                    refine RA.take 2 rfl .move (by kernel_rfl) ?_
                    refine RA.take 3 rfl .move (by kernel_rfl) ?_
                    refine RA.take 4 rfl (.i64 ((q - 1 : Nat) : Int) .sub ⟨by omega, by omega, by omega⟩) (by kernel_rfl) ?_
                    refine RA.takeO 5 rfl .move (by kernel_rfl) ?_
                    refine RA.takeO 6 rfl .move (by kernel_rfl) ?_
                    refine RA.takeO 7 rfl (.i64 ((q - 1 : Nat) : Int) .sub ⟨by omega, by omega, by omega⟩) (by kernel_rfl) ?_
                    refine RA.indexO 8 rfl (q - 1) hO4 ht rfl rfl rfl (by kernel_rfl) (fun p133 => ?_)
                    refine RA.takeO 9 rfl (.loadA rfl) (by kernel_rfl) ?_
                    refine RA.takeO 10 rfl .move (by kernel_rfl) ?_
                    refine RA.takeO 11 rfl .move (by kernel_rfl) ?_
                    refine RA.indexO 12 rfl (q) hO4 hs rfl rfl rfl (by kernel_rfl) (fun p137 => ?_)
                    refine RA.takeO 13 rfl (.loadA rfl) (by kernel_rfl) ?_
                    refine RA.indexO 14 rfl (q) hO4 hs rfl rfl rfl (by kernel_rfl) (fun p139 => ?_)
                    refine RA.step 15 rfl (by kernel_rfl) rfl ?_
                    refine TriOps.storeO (q) hO4 hs t (fun Tsa hsa => ?_) (hO4.one _ (List.mem_of_getElem? ht))
                    refine .nil (Next.mod rfl ?_)
                    refine RA.indexO 16 rfl (q - 1) hO4 ht rfl rfl rfl (by kernel_rfl) (fun p140 => ?_)
                    refine RA.step 17 rfl (by kernel_rfl) rfl ?_
                    obtain ⟨zz, hzz⟩ : ∃ u, (ws.set (q) t)[q - 1]? = some u := ⟨_, List.getElem?_eq_getElem (by rw [List.length_set]; exact (List.getElem?_eq_some_iff.1 ht).1)⟩
                    refine TriOps.storeO (q - 1) hsa hzz s (fun Tsw hsw => ?_) (hO4.one _ (List.mem_of_getElem? hs))
                    rw [← swp_eq hs ht] at hsw
                    refine .nil (Next.mod rfl ?_)
                    refine RA.nil (by kernel_rfl) ?_
                    refine blkQ_n (seqQ_n ?_)
                    refine .region ?_
                    refine TriOps.q .move ?_
                    refine TriOps.q (.i64 ((q + 1 : Nat) : Int) .add ⟨by omega, by omega, by omega⟩) ?_
                    refine TriOps.q .assign ?_
                    refine .nil ?_
                    exact loopQ_i (q + 1, swp ws q (q - 1), Tsw) ⟨⟨by simp only; omega, by simp only; omega⟩, hsw, hR4.step (by omega) (by omega) (by omega) (by omega) (by omega), hS4.swp_out (by omega) (by omega) (by omega) (by omega)⟩ (by simp only; omega) ((((((((EnvLe.nil _).cons rfl).cons rfl).cons rfl).cons rfl).cons rfl).cons rfl).cons rfl) (HLe.refl _)
                · skip
                  refine .exit (seqQ_x (loopQ_x (blkQ_x ?_)))
                  first
                    | exact joinQ_n (ws, T4) ⟨hO4, hR4, hS4⟩ (((((((EnvLe.nil _).cons rfl).cons rfl).cons rfl).cons rfl).cons rfl).cons rfl) (HLe.refl _)
                    | exact joinQ_n (zs, T3) ⟨hO3, hR3, hS3⟩ (((((((EnvLe.nil _).cons rfl).cons rfl).cons rfl).cons rfl).cons rfl).cons rfl) (HLe.refl _)
              · skip
                refine .skip ?_
                first
                  | exact joinQ_n (ws, T4) ⟨hO4, hR4, hS4⟩ (((((((EnvLe.nil _).cons rfl).cons rfl).cons rfl).cons rfl).cons rfl).cons rfl) (HLe.refl _)
                  | exact joinQ_n (zs, T3) ⟨hO3, hR3, hS3⟩ (((((((EnvLe.nil _).cons rfl).cons rfl).cons rfl).cons rfl).cons rfl).cons rfl) (HLe.refl _)
            · intro y hy
              obtain ⟨us, T5⟩ := y
              obtain ⟨hO5, hR5, hS5⟩ := hy
              simp only at hO5 hR5 hS5 ⊢
              refine blkQ_n (seqQ_n ?_)
              refine .region ?_
              refine TriOps.q .move ?_
              refine TriOps.q (.i64 ((n + 1 : Nat) : Int) .add ⟨by omega, by omega, by omega⟩) ?_
              refine TriOps.q .assign ?_
              refine .nil ?_
              exact loopQ_i (n + 1, i2, us, T5) ⟨⟨by simp only; omega, hi1, hi2⟩, hO5, hR5, hS5⟩ (by simp only; omega) (((((((EnvLe.nil _).cons rfl).cons rfl).cons rfl).cons rfl).cons rfl).cons rfl) (HLe.refl _)
  · skip
    refine .exit (seqQ_x (loopQ_x (blkQ_x ?_)))
    refine seqQ_n ?_
    refine .seq ?_
    refine .region ?_
    refine TriOps.q .assign ?_
    refine .nil ?_
    refine seqQ_n ?_
    refine .ret (retQ_r _ (.one (.tmp rfl)) (HLe.refl _) ?_)
    exact ⟨_, rfl, ys, false, rfl, hO1, hR1, fun h => by cases h⟩
end
end SCL
end Go.Proofs.Ytlmdgdehjpahiaa
