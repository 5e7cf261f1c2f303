/- Sorting by a function, at one kind of elements: parting at a pivot. No condition. -/
import Derived.Test.YtlmdgdehjpahiaaSCLD
import Derived.Test.YtlmdgdehjpahiaaMot5
set_option linter.unusedVariables false
set_option maxRecDepth 4000
namespace Go.Proofs.Ytlmdgdehjpahiaa
namespace SCL
section
variable {c : CP → CP → Int} {ok : CP → Prop} {f : FuncId} {caps : List Value} [e : Ent Try.prog f]

theorem partE_spec (v : Value) (xs : List CP) (T : Seg) (a b m : Nat) (p : CP) (R : Rds) (h : OS 35 4 encC v xs T) (hab : a < b) (hm : a ≤ m ∧ m < b) (hp : xs[m]? = some p) (hb : b ≤ xs.length) (hl : xs.length ≤ 1000000000) (hf : FnC Try.prog f caps R (fun p : CP => Value.agg (encC p).toArray) c ok) (hok : ∀ x ∈ xs, ok x) (so : SO (ltc c))
    (hlo : ∀ (k : Nat) (x : CP), a ≤ k → k < b → xs[k]? = some x → ltc c x p = false) :
    Spec Try.prog 145 [v, .int .i64 a, .int .i64 b, .int .i64 m, .func (.func f) #[] caps.toArray] R [T] fun u H' => ∃ T', H' = [T'] ∧ ∃ ys mid, u = .int .i64 (mid : Nat) ∧ OS 35 4 encC v ys T' ∧ RP a b xs ys ∧ PartE (ltc c) ys a mid b p := by
  have iv := h.oneCell
  obtain ⟨x0, hx0⟩ : ∃ x, xs[a]? = some x := ⟨_, List.getElem?_eq_getElem (by omega)⟩
  have okp := hok p (List.mem_of_getElem? hp)
  refine Spec.body Try.func145 rfl Try.results145 Try.ntmps145 rfl ?_
  refine .seq ?_
  refine .region ?_
  refine TriOps.q .assign ?_
  refine .nil ?_
  refine seqQ_n ?_
  refine .seq ?_
  refine .region_all [13, 15] mixed ?_
  refine RA.takeO 0 rfl .move (by kernel_rfl) ?_
  refine RA.takeO 1 rfl .move (by kernel_rfl) ?_
  refine RA.take 2 rfl .move (by kernel_rfl) ?_
  refine RA.take 3 rfl .move (by kernel_rfl) ?_
  refine RA.takeO 4 rfl .move (by kernel_rfl) ?_
  refine RA.takeO 5 rfl .move (by kernel_rfl) ?_
  refine RA.indexO 6 rfl (m) h hp rfl rfl rfl (by kernel_rfl) (fun p19 => ?_)
  refine RA.takeO 7 rfl (.loadA rfl) (by kernel_rfl) ?_
  refine RA.takeO 8 rfl .move (by kernel_rfl) ?_
  refine RA.takeO 9 rfl .move (by kernel_rfl) ?_
  refine RA.indexO 10 rfl (a) h hx0 rfl rfl rfl (by kernel_rfl) (fun p23 => ?_)
  refine RA.takeO 11 rfl (.loadA rfl) (by kernel_rfl) ?_
  refine RA.indexO 12 rfl (a) h hx0 rfl rfl rfl (by kernel_rfl) (fun p25 => ?_)
  refine RA.step 13 rfl (by kernel_rfl) rfl ?_
  refine TriOps.storeO (a) h hx0 p (fun Tsa hsa => ?_) (h.one _ (List.mem_of_getElem? hp))
  refine .nil (Next.mod rfl ?_)
  refine RA.indexO 14 rfl (m) h hp rfl rfl rfl (by kernel_rfl) (fun p26 => ?_)
  refine RA.step 15 rfl (by kernel_rfl) rfl ?_
  obtain ⟨zz, hzz⟩ : ∃ u, (xs.set (a) p)[m]? = some u := ⟨_, List.getElem?_eq_getElem (by rw [List.length_set]; exact (List.getElem?_eq_some_iff.1 hp).1)⟩
  refine TriOps.storeO (m) hsa hzz x0 (fun Tsw hsw => ?_) (h.one _ (List.mem_of_getElem? hx0))
  rw [← swp_eq hx0 hp] at hsw
  refine .nil (Next.mod rfl ?_)
  refine RA.nil (by kernel_rfl) ?_
  have hR0 : RP a b xs (swp xs a m) := (RP.refl xs).step (by omega) (by omega) (by omega) (by omega) (by omega)
  have hat : (swp xs a m)[a]? = some p := by
    rw [swp_get (by omega) (by omega)]
    by_cases hk : a = m
    · rw [if_pos hk, hx0, ← hp, ← hk, hx0]
    · rw [if_neg hk, if_pos rfl, hp]
  refine seqQ_n ?_
  refine .seq ?_
  refine .region ?_
  refine TriOps.q .move ?_
  refine TriOps.q (.i64 ((a + 1 : Nat) : Int) .add ⟨by omega, by omega, by omega⟩) ?_
  refine TriOps.q .move ?_
  refine TriOps.q (.i64 ((b - 1 : Nat) : Int) .sub ⟨by omega, by omega, by omega⟩) ?_
  refine TriOps.q .assign ?_
  refine TriOps.q .assign ?_
  refine .nil ?_
  refine seqQ_n ?_
  refine .seq ?_
  refine .block ?_
  refine .loop (X := Nat × Nat × List CP × Seg) (fun y => OS 35 4 encC v y.2.2.1 y.2.2.2 ∧ RP a b xs y.2.2.1 ∧ PQ (fun x => !ltc c p x) y.2.2.1 a y.1 y.2.1 b p) (fun y => [(0, v), (1, .int .i64 (a : Nat)), (4, .func (.func f) #[] caps.toArray), (11, .int .i64 (y.1 : Nat)), (12, .int .i64 (y.2.1 : Nat))]) (fun y => [y.2.2.2]) (fun y => y.2.1 + 1 - y.1) (a + 1, b - 1, swp xs a m, Tsw) ⟨hsw, hR0, .start hab hat⟩ ((((((EnvLe.nil _).cons rfl).cons rfl).cons rfl).cons rfl).cons rfl) (HLe.refl _) ?_
  rintro ⟨i, j, ys, T1⟩ ⟨hO1, hR1, hQ1⟩
  simp only at hO1 hR1 hQ1 ⊢
  have hlen := hR1.length
  have hi0 := hQ1.i0
  have hij := hQ1.ij
  have hjb := hQ1.jb
  have hpa := hQ1.at_
  refine .block ?_
  refine .seq ?_
  refine Tri.cut (X := Nat) (fun i' => i ≤ i' ∧ PQ (fun x => !ltc c p x) ys a i' j b p ∧ ∀ x, i' ≤ j → ys[i']? = some x → (!ltc c p x) = false) (fun i' => [(0, v), (1, .int .i64 (a : Nat)), (4, .func (.func f) #[] caps.toArray), (11, .int .i64 (i' : Nat)), (12, .int .i64 (j : Nat))]) (fun _ => [T1]) ?_ ?_
  · refine .block ?_
    refine .loop (X := Nat) (fun i' => i ≤ i' ∧ PQ (fun x => !ltc c p x) ys a i' j b p) (fun i' => [(0, v), (1, .int .i64 (a : Nat)), (4, .func (.func f) #[] caps.toArray), (11, .int .i64 (i' : Nat)), (12, .int .i64 (j : Nat))]) (fun _ => [T1]) (fun i' => j + 1 - i') i ⟨Nat.le_refl _, hQ1⟩ ((((((EnvLe.nil _).cons rfl).cons rfl).cons rfl).cons rfl).cons rfl) (HLe.refl _) ?_
    rintro i2 ⟨hi2, hQ2⟩
    refine .seq ?_
    refine .seq ?_
    refine .region_tail 13 mixed (by kernel_rfl) ?_
    conv => arg 6; dsimp only [List.take]
    refine TriOps.q .move ?_
    refine TriOps.q .move ?_
    refine TriOps.q .leq ?_
    refine TriOps.q .move ?_
    refine TriOps.split (t := 34) rfl (fun g3_3 => ?_) (fun g3_3 => ?_)
    · skip
      have hle2 : i2 ≤ j := by have := of_decide_eq_true g3_3; omega
      obtain ⟨x2, hx2⟩ : ∃ x, ys[i2]? = some x := ⟨_, List.getElem?_eq_getElem (by omega)⟩
      have okx2 := hok x2 (hR1.perm.mem_iff.1 (List.mem_of_getElem? hx2))
      refine TriOps.gT g3_3 ?_
      refine TriOps.q .move ?_
      refine TriOps.gT g3_3 ?_
      refine TriOps.q .move ?_
      refine TriOps.gT g3_3 ?_
      refine TriOps.q .move ?_
      refine TriOps.gT g3_3 ?_
      refine TriOps.indexO a hO1 hpa (fun p38 => ?_)
      refine TriOps.gT g3_3 ?_
      refine TriOps.q (.loadA rfl) ?_
      refine TriOps.gT g3_3 ?_
      refine TriOps.q .move ?_
      refine TriOps.gT g3_3 ?_
      refine TriOps.q .move ?_
      refine TriOps.gT g3_3 ?_
      refine TriOps.indexO i2 hO1 hx2 (fun p42 => ?_)
      refine TriOps.gT g3_3 ?_
      refine TriOps.q (.loadA rfl) ?_
      refine .nil ?_
      refine TriOps.gT g3_3 ?_
      refine TriOps.callRV (first := []) (captured := caps) (vs := [(fun p : CP => Value.agg (encC p).toArray) p, (fun p : CP => Value.agg (encC p).toArray) x2]) (hf p x2 okp okx2 _ (fun b o hb => .inl hb)) (fun u hu => ?_)
      subst hu
      refine TriOps.gT g3_3 ?_
      refine TriOps.q .lss ?_
      refine TriOps.gT g3_3 ?_
      refine TriOps.q .not ?_
      refine TriOps.q (.pickTh g3_3) ?_
      refine .nil ?_
      refine seqQ_n ?_
      refine .cond rfl (fun h1 => ?_) (fun h1 => ?_)
      · skip
        refine .skip ?_
        refine seqQ_n ?_
        refine .block ?_
        refine .region ?_
        refine TriOps.q .move ?_
        refine TriOps.q (.i64 ((i2 + 1 : Nat) : Int) .add ⟨by omega, by omega, by omega⟩) ?_
        refine TriOps.q .assign ?_
        refine .nil ?_
        refine blkQ_n ?_
        exact loopQ_i (i2 + 1) ⟨by omega, hQ2.inc hle2 hx2 h1⟩ (by omega) ((((((EnvLe.nil _).cons rfl).cons rfl).cons rfl).cons rfl).cons rfl) (HLe.refl _)
      · skip
        refine .exit (seqQ_x (loopQ_x (blkQ_x ?_)))
        first
          | exact joinQ_n i2 ⟨hi2, hQ2, fun x hx hxx => by rw [hx2] at hxx; cases hxx; exact h1⟩ ((((((EnvLe.nil _).cons rfl).cons rfl).cons rfl).cons rfl).cons rfl) (HLe.refl _)
          | exact joinQ_n i2 ⟨hi2, hQ2, fun x hx hxx => by have := of_decide_eq_false g3_3; omega⟩ ((((((EnvLe.nil _).cons rfl).cons rfl).cons rfl).cons rfl).cons rfl) (HLe.refl _)
    · skip
      refine TriOps.gF g3_3 ?_
      refine TriOps.gF g3_3 ?_
      refine TriOps.gF g3_3 ?_
      refine TriOps.gF g3_3 ?_
      refine TriOps.gF g3_3 ?_
      refine TriOps.gF g3_3 ?_
      refine TriOps.gF g3_3 ?_
      refine TriOps.gF g3_3 ?_
      refine TriOps.gF g3_3 ?_
      refine .nil ?_
      refine TriOps.gF g3_3 ?_
      refine TriOps.gF g3_3 ?_
      refine TriOps.gF g3_3 ?_
      refine TriOps.q (.pickFh g3_3) ?_
      refine .nil ?_
      refine seqQ_n ?_
      refine .condF ?_
      refine .exit (seqQ_x (loopQ_x (blkQ_x ?_)))
      first
        | exact joinQ_n i2 ⟨hi2, hQ2, fun x hx hxx => by rw [hx2] at hxx; cases hxx; exact h1⟩ ((((((EnvLe.nil _).cons rfl).cons rfl).cons rfl).cons rfl).cons rfl) (HLe.refl _)
        | exact joinQ_n i2 ⟨hi2, hQ2, fun x hx hxx => by have := of_decide_eq_false g3_3; omega⟩ ((((((EnvLe.nil _).cons rfl).cons rfl).cons rfl).cons rfl).cons rfl) (HLe.refl _)
  · intro x hx
    obtain ⟨i3, hi3⟩ : ∃ i3, i3 = x := ⟨_, rfl⟩
    rw [← hi3] at hx ⊢
    clear hi3 x
    obtain ⟨hii3, hQ3, hst3⟩ := hx
    refine seqQ_n ?_
    refine .seq ?_
    refine Tri.cut (X := Nat) (fun j' => j' ≤ j ∧ PQ (fun x => !ltc c p x) ys a i3 j' b p ∧ ∀ x, i3 ≤ j' → ys[j']? = some x → (!ltc c p x) = true) (fun j' => [(0, v), (1, .int .i64 (a : Nat)), (4, .func (.func f) #[] caps.toArray), (11, .int .i64 (i3 : Nat)), (12, .int .i64 (j' : Nat))]) (fun _ => [T1]) ?_ ?_
    · refine .block ?_
      refine .loop (X := Nat) (fun j' => j' ≤ j ∧ PQ (fun x => !ltc c p x) ys a i3 j' b p) (fun j' => [(0, v), (1, .int .i64 (a : Nat)), (4, .func (.func f) #[] caps.toArray), (11, .int .i64 (i3 : Nat)), (12, .int .i64 (j' : Nat))]) (fun _ => [T1]) (fun j' => j') j ⟨Nat.le_refl _, hQ3⟩ ((((((EnvLe.nil _).cons rfl).cons rfl).cons rfl).cons rfl).cons rfl) (HLe.refl _) ?_
      rintro j2 ⟨hj2, hQ4⟩
      have hi30 := hQ3.i0
      refine .seq ?_
      refine .seq ?_
      refine .region_tail 13 mixed (by kernel_rfl) ?_
      conv => arg 6; dsimp only [List.take]
      refine TriOps.q .move ?_
      refine TriOps.q .move ?_
      refine TriOps.q .leq ?_
      refine TriOps.q .move ?_
      refine TriOps.split (t := 53) rfl (fun g5_3 => ?_) (fun g5_3 => ?_)
      · skip
        have hle4 : i3 ≤ j2 := by have := of_decide_eq_true g5_3; omega
        obtain ⟨x4, hx4⟩ : ∃ x, ys[j2]? = some x := ⟨_, List.getElem?_eq_getElem (by omega)⟩
        have okx4 := hok x4 (hR1.perm.mem_iff.1 (List.mem_of_getElem? hx4))
        refine TriOps.gT g5_3 ?_
        refine TriOps.q .move ?_
        refine TriOps.gT g5_3 ?_
        refine TriOps.q .move ?_
        refine TriOps.gT g5_3 ?_
        refine TriOps.q .move ?_
        refine TriOps.gT g5_3 ?_
        refine TriOps.indexO a hO1 hpa (fun p57 => ?_)
        refine TriOps.gT g5_3 ?_
        refine TriOps.q (.loadA rfl) ?_
        refine TriOps.gT g5_3 ?_
        refine TriOps.q .move ?_
        refine TriOps.gT g5_3 ?_
        refine TriOps.q .move ?_
        refine TriOps.gT g5_3 ?_
        refine TriOps.indexO j2 hO1 hx4 (fun p61 => ?_)
        refine TriOps.gT g5_3 ?_
        refine TriOps.q (.loadA rfl) ?_
        refine .nil ?_
        refine TriOps.gT g5_3 ?_
        refine TriOps.callRV (first := []) (captured := caps) (vs := [(fun p : CP => Value.agg (encC p).toArray) p, (fun p : CP => Value.agg (encC p).toArray) x4]) (hf p x4 okp okx4 _ (fun b o hb => .inl hb)) (fun u hu => ?_)
        subst hu
        refine TriOps.gT g5_3 ?_
        refine TriOps.q .lss ?_
        refine TriOps.q (.pickTh g5_3) ?_
        refine .nil ?_
        refine seqQ_n ?_
        refine .cond rfl (fun h2 => ?_) (fun h2 => ?_)
        · skip
          refine .skip ?_
          refine seqQ_n ?_
          refine .block ?_
          refine .region ?_
          refine TriOps.q .move ?_
          refine TriOps.q (.i64 ((j2 - 1 : Nat) : Int) .sub ⟨by omega, by omega, by omega⟩) ?_
          refine TriOps.q .assign ?_
          refine .nil ?_
          refine blkQ_n ?_
          have hlt4 : ltc c p x4 = true := h2
          exact loopQ_i (j2 - 1) ⟨by omega, hQ4.dec hle4 hx4 (by rw [hlt4]; rfl)⟩ (by omega) ((((((EnvLe.nil _).cons rfl).cons rfl).cons rfl).cons rfl).cons rfl) (HLe.refl _)
        · skip
          refine .exit (seqQ_x (loopQ_x (blkQ_x ?_)))
          first
            | exact joinQ_n j2 ⟨hj2, hQ4, fun x hx hxx => by have hh : ltc c p x4 = false := h2; rw [hx4] at hxx; cases hxx; rw [hh]; rfl⟩ ((((((EnvLe.nil _).cons rfl).cons rfl).cons rfl).cons rfl).cons rfl) (HLe.refl _)
            | exact joinQ_n j2 ⟨hj2, hQ4, fun x hx hxx => by have := of_decide_eq_false g5_3; omega⟩ ((((((EnvLe.nil _).cons rfl).cons rfl).cons rfl).cons rfl).cons rfl) (HLe.refl _)
      · skip
        refine TriOps.gF g5_3 ?_
        refine TriOps.gF g5_3 ?_
        refine TriOps.gF g5_3 ?_
        refine TriOps.gF g5_3 ?_
        refine TriOps.gF g5_3 ?_
        refine TriOps.gF g5_3 ?_
        refine TriOps.gF g5_3 ?_
        refine TriOps.gF g5_3 ?_
        refine TriOps.gF g5_3 ?_
        refine .nil ?_
        refine TriOps.gF g5_3 ?_
        refine TriOps.gF g5_3 ?_
        refine TriOps.q (.pickFh g5_3) ?_
        refine .nil ?_
        refine seqQ_n ?_
        refine .condF ?_
        refine .exit (seqQ_x (loopQ_x (blkQ_x ?_)))
        first
          | exact joinQ_n j2 ⟨hj2, hQ4, fun x hx hxx => by have hh : ltc c p x4 = false := h2; rw [hx4] at hxx; cases hxx; rw [hh]; rfl⟩ ((((((EnvLe.nil _).cons rfl).cons rfl).cons rfl).cons rfl).cons rfl) (HLe.refl _)
          | exact joinQ_n j2 ⟨hj2, hQ4, fun x hx hxx => by have := of_decide_eq_false g5_3; omega⟩ ((((((EnvLe.nil _).cons rfl).cons rfl).cons rfl).cons rfl).cons rfl) (HLe.refl _)
    · intro x hx
      obtain ⟨j3, hj3⟩ : ∃ j3, j3 = x := ⟨_, rfl⟩
      rw [← hj3] at hx ⊢
      clear hj3 x
      obtain ⟨hjj3, hQ5, hst5⟩ := hx
      have hi30 := hQ5.i0
      have hij5 := hQ5.ij
      refine seqQ_n ?_
      refine .seq ?_
      refine .seq ?_
      refine .region ?_
      refine TriOps.q .move ?_
      refine TriOps.q .move ?_
      refine TriOps.q .gtr ?_
      refine .nil ?_
      refine seqQ_n ?_
      refine .cond rfl (fun h3 => ?_) (fun h3 => ?_)
      · skip
        refine .exit (seqQ_x (blkQ_y (loopQ_x (blkQ_x ?_))))
        refine seqQ_n ?_
        refine .seq ?_
        refine .region ?_
        refine TriOps.q .move ?_
        refine TriOps.q .assign ?_
        refine .nil ?_
        refine seqQ_n ?_
        refine .ret (retQ_r _ (.one (.tmp rfl)) (HLe.refl _) ?_)
        have hgt5 : j3 < i3 := by have := of_decide_eq_true h3; omega
        exact ⟨_, rfl, ys, i3, rfl, hO1, hR1, hQ5.finE so hgt5 (hR1.all (p := fun x => ltc c x p = false) hlo)⟩
      · skip
        have hle5 : i3 ≤ j3 := by have := of_decide_eq_false h3; omega
        obtain ⟨x, hx⟩ : ∃ x, ys[i3]? = some x := ⟨_, List.getElem?_eq_getElem (by omega)⟩
        obtain ⟨y, hy⟩ : ∃ x, ys[j3]? = some x := ⟨_, List.getElem?_eq_getElem (by omega)⟩
        have hq6 := hQ5.sw hle5 (by omega) hx hy (hst3 x (by omega) hx) (hst5 y hle5 hy)
        refine .skip ?_
        refine seqQ_n ?_
        refine .seq ?_
        refine .region_all [13, 15] mixed ?_
        refine RA.takeO 0 rfl .move (by kernel_rfl) ?_
        refine RA.takeO 1 rfl .move (by kernel_rfl) ?_
        refine RA.take 2 rfl .move (by kernel_rfl) ?_
        refine RA.take 3 rfl .move (by kernel_rfl) ?_
        refine RA.takeO 4 rfl .move (by kernel_rfl) ?_
        refine RA.takeO 5 rfl .move (by kernel_rfl) ?_
        refine RA.indexO 6 rfl (j3) hO1 hy rfl rfl rfl (by kernel_rfl) (fun p77 => ?_)
        refine RA.takeO 7 rfl (.loadA rfl) (by kernel_rfl) ?_
        refine RA.takeO 8 rfl .move (by kernel_rfl) ?_
        refine RA.takeO 9 rfl .move (by kernel_rfl) ?_
        refine RA.indexO 10 rfl (i3) hO1 hx rfl rfl rfl (by kernel_rfl) (fun p81 => ?_)
        refine RA.takeO 11 rfl (.loadA rfl) (by kernel_rfl) ?_
        refine RA.indexO 12 rfl (i3) hO1 hx rfl rfl rfl (by kernel_rfl) (fun p83 => ?_)
        refine RA.step 13 rfl (by kernel_rfl) rfl ?_
        refine TriOps.storeO (i3) hO1 hx y (fun Tsa hsa => ?_) (hO1.one _ (List.mem_of_getElem? hy))
        refine .nil (Next.mod rfl ?_)
        refine RA.indexO 14 rfl (j3) hO1 hy rfl rfl rfl (by kernel_rfl) (fun p84 => ?_)
        refine RA.step 15 rfl (by kernel_rfl) rfl ?_
        obtain ⟨zz, hzz⟩ : ∃ u, (ys.set (i3) y)[j3]? = some u := ⟨_, List.getElem?_eq_getElem (by rw [List.length_set]; exact (List.getElem?_eq_some_iff.1 hy).1)⟩
        refine TriOps.storeO (j3) hsa hzz x (fun Tsw hsw => ?_) (hO1.one _ (List.mem_of_getElem? hx))
        rw [← swp_eq hx hy] at hsw
        refine .nil (Next.mod rfl ?_)
        refine RA.nil (by kernel_rfl) ?_
        refine seqQ_n ?_
        refine .seq ?_
        refine .region ?_
        refine TriOps.q .move ?_
        refine TriOps.q (.i64 ((i3 + 1 : Nat) : Int) .add ⟨by omega, by omega, by omega⟩) ?_
        refine TriOps.q .assign ?_
        refine .nil ?_
        refine seqQ_n ?_
        refine .region ?_
        refine TriOps.q .move ?_
        refine TriOps.q (.i64 ((j3 - 1 : Nat) : Int) .sub ⟨by omega, by omega, by omega⟩) ?_
        refine TriOps.q .assign ?_
        refine .nil ?_
        refine blkQ_n ?_
        exact loopQ_i (i3 + 1, j3 - 1, swp ys i3 j3, Tsw) ⟨hsw, hR1.step (by omega) (by omega) (by omega) (by omega) (by omega), hq6.2⟩ (by simp only; omega) ((((((EnvLe.nil _).cons rfl).cons rfl).cons rfl).cons rfl).cons rfl) (HLe.refl _)
theorem parti_spec (v : Value) (xs : List CP) (T : Seg) (a b m : Nat) (p : CP) (R : Rds) (h : OS 35 4 encC v xs T) (hab : a < b) (hm : a ≤ m ∧ m < b) (hp : xs[m]? = some p) (hb : b ≤ xs.length) (hl : xs.length ≤ 1000000000) (hf : FnC Try.prog f caps R (fun p : CP => Value.agg (encC p).toArray) c ok) (hok : ∀ x ∈ xs, ok x) (so : SO (ltc c)) :
    Spec Try.prog 146 [v, .int .i64 a, .int .i64 b, .int .i64 m, .func (.func f) #[] caps.toArray] R [T] fun u H' => ∃ T', H' = [T'] ∧ ∃ ys mid z, u = .tuple [.int .i64 (mid : Nat), .bool z].toArray ∧ OS 35 4 encC v ys T' ∧ RP a b xs ys ∧ Part (ltc c) ys a mid b p := by
  have iv := h.oneCell
  obtain ⟨x0, hx0⟩ : ∃ x, xs[a]? = some x := ⟨_, List.getElem?_eq_getElem (by omega)⟩
  have okp := hok p (List.mem_of_getElem? hp)
  refine Spec.body Try.func146 rfl Try.results146 Try.ntmps146 rfl ?_
  refine .seq ?_
  refine .region ?_
  refine TriOps.q .assign ?_
  refine TriOps.q .assign ?_
  refine .nil ?_
  refine seqQ_n ?_
  refine .seq ?_
  refine .region_all [13, 15] mixed ?_
  refine RA.takeO 0 rfl .move (by kernel_rfl) ?_
  refine RA.takeO 1 rfl .move (by kernel_rfl) ?_
  refine RA.take 2 rfl .move (by kernel_rfl) ?_
  refine RA.take 3 rfl .move (by kernel_rfl) ?_
  refine RA.takeO 4 rfl .move (by kernel_rfl) ?_
  refine RA.takeO 5 rfl .move (by kernel_rfl) ?_
  refine RA.indexO 6 rfl (m) h hp rfl rfl rfl (by kernel_rfl) (fun p20 => ?_)
  refine RA.takeO 7 rfl (.loadA rfl) (by kernel_rfl) ?_
  refine RA.takeO 8 rfl .move (by kernel_rfl) ?_
  refine RA.takeO 9 rfl .move (by kernel_rfl) ?_
  refine RA.indexO 10 rfl (a) h hx0 rfl rfl rfl (by kernel_rfl) (fun p24 => ?_)
  refine RA.takeO 11 rfl (.loadA rfl) (by kernel_rfl) ?_
  refine RA.indexO 12 rfl (a) h hx0 rfl rfl rfl (by kernel_rfl) (fun p26 => ?_)
  refine RA.step 13 rfl (by kernel_rfl) rfl ?_
  refine TriOps.storeO (a) h hx0 p (fun Tsa hsa => ?_) (h.one _ (List.mem_of_getElem? hp))
  refine .nil (Next.mod rfl ?_)
  refine RA.indexO 14 rfl (m) h hp rfl rfl rfl (by kernel_rfl) (fun p27 => ?_)
  refine RA.step 15 rfl (by kernel_rfl) rfl ?_
  obtain ⟨zz, hzz⟩ : ∃ u, (xs.set (a) p)[m]? = some u := ⟨_, List.getElem?_eq_getElem (by rw [List.length_set]; exact (List.getElem?_eq_some_iff.1 hp).1)⟩
  refine TriOps.storeO (m) hsa hzz x0 (fun Tsw hsw => ?_) (h.one _ (List.mem_of_getElem? hx0))
  rw [← swp_eq hx0 hp] at hsw
  refine .nil (Next.mod rfl ?_)
  refine RA.nil (by kernel_rfl) ?_
  have hR0 : RP a b xs (swp xs a m) := (RP.refl xs).step (by omega) (by omega) (by omega) (by omega) (by omega)
  have hat : (swp xs a m)[a]? = some p := by
    rw [swp_get (by omega) (by omega)]
    by_cases hk : a = m
    · rw [if_pos hk, hx0, ← hp, ← hk, hx0]
    · rw [if_neg hk, if_pos rfl, hp]
  obtain ⟨ws, hws⟩ : ∃ ws, ws = swp xs a m := ⟨_, rfl⟩
  rw [← hws] at hsw hR0 hat
  obtain ⟨T0, hT0⟩ : ∃ T0, T0 = Tsw := ⟨_, rfl⟩
  rw [← hT0] at hsw ⊢
  have hlen0 := hR0.length
  have hO0 := hsw
  clear hsw
  have hQ0 : PQ (fun x => ltc c x p) ws a (a + 1) (b - 1) b p := .start hab hat
  clear hws
  refine seqQ_n ?_
  refine .seq ?_
  refine .region ?_
  refine TriOps.q .move ?_
  refine TriOps.q (.i64 ((a + 1 : Nat) : Int) .add ⟨by omega, by omega, by omega⟩) ?_
  refine TriOps.q .move ?_
  refine TriOps.q (.i64 ((b - 1 : Nat) : Int) .sub ⟨by omega, by omega, by omega⟩) ?_
  refine TriOps.q .assign ?_
  refine TriOps.q .assign ?_
  refine .nil ?_
  refine seqQ_n ?_
  refine .seq ?_
  refine Tri.cut (X := Nat) (fun i' => PQ (fun x => ltc c x p) ws a i' (b - 1) b p ∧ ∀ x, i' ≤ b - 1 → ws[i']? = some x → ltc c x p = false) (fun i' => [(0, v), (1, .int .i64 (a : Nat)), (4, .func (.func f) #[] caps.toArray), (12, .int .i64 (i' : Nat)), (13, .int .i64 ((b - 1 : Nat) : Int))]) (fun _ => [T0]) ?_ ?_
  · refine .block ?_
    refine .loop (X := Nat) (fun i' => PQ (fun x => ltc c x p) ws a i' (b - 1) b p) (fun i' => [(0, v), (1, .int .i64 (a : Nat)), (4, .func (.func f) #[] caps.toArray), (12, .int .i64 (i' : Nat)), (13, .int .i64 ((b - 1 : Nat) : Int))]) (fun _ => [T0]) (fun i' => b - i') (a + 1) hQ0 ((((((EnvLe.nil _).cons rfl).cons rfl).cons rfl).cons rfl).cons rfl) (HLe.refl _) ?_
    rintro i2 hQ2
    refine .seq ?_
    refine .seq ?_
    refine .region_tail 13 mixed (by kernel_rfl) ?_
    conv => arg 6; dsimp only [List.take]
    refine TriOps.q .move ?_
    refine TriOps.q .move ?_
    refine TriOps.q .leq ?_
    refine TriOps.q .move ?_
    refine TriOps.split (t := 35) rfl (fun g3_3 => ?_) (fun g3_3 => ?_)
    · skip
      have hle2 : i2 ≤ b - 1 := by have := of_decide_eq_true g3_3; omega
      obtain ⟨x2, hx2⟩ : ∃ x, ws[i2]? = some x := ⟨_, List.getElem?_eq_getElem (by omega)⟩
      have okx2 := hok x2 (hR0.perm.mem_iff.1 (List.mem_of_getElem? hx2))
      refine TriOps.gT g3_3 ?_
      refine TriOps.q .move ?_
      refine TriOps.gT g3_3 ?_
      refine TriOps.q .move ?_
      refine TriOps.gT g3_3 ?_
      refine TriOps.q .move ?_
      refine TriOps.gT g3_3 ?_
      refine TriOps.indexO i2 hO0 hx2 (fun p39 => ?_)
      refine TriOps.gT g3_3 ?_
      refine TriOps.q (.loadA rfl) ?_
      refine TriOps.gT g3_3 ?_
      refine TriOps.q .move ?_
      refine TriOps.gT g3_3 ?_
      refine TriOps.q .move ?_
      refine TriOps.gT g3_3 ?_
      refine TriOps.indexO a hO0 hat (fun p43 => ?_)
      refine TriOps.gT g3_3 ?_
      refine TriOps.q (.loadA rfl) ?_
      refine .nil ?_
      refine TriOps.gT g3_3 ?_
      refine TriOps.callRV (first := []) (captured := caps) (vs := [(fun p : CP => Value.agg (encC p).toArray) x2, (fun p : CP => Value.agg (encC p).toArray) p]) (hf x2 p okx2 okp _ (fun b o hb => .inl hb)) (fun u hu => ?_)
      subst hu
      refine TriOps.gT g3_3 ?_
      refine TriOps.q .lss ?_
      refine TriOps.q (.pickTh g3_3) ?_
      refine .nil ?_
      refine seqQ_n ?_
      refine .cond rfl (fun h1 => ?_) (fun h1 => ?_)
      · skip
        refine .skip ?_
        refine seqQ_n ?_
        refine .block ?_
        refine .region ?_
        refine TriOps.q .move ?_
        refine TriOps.q (.i64 ((i2 + 1 : Nat) : Int) .add ⟨by omega, by omega, by omega⟩) ?_
        refine TriOps.q .assign ?_
        refine .nil ?_
        refine blkQ_n ?_
        exact loopQ_i (i2 + 1) (hQ2.inc hle2 hx2 h1) (by omega) ((((((EnvLe.nil _).cons rfl).cons rfl).cons rfl).cons rfl).cons rfl) (HLe.refl _)
      · skip
        refine .exit (seqQ_x (loopQ_x (blkQ_x ?_)))
        first
          | exact joinQ_n i2 ⟨hQ2, fun x hx hxx => by rw [hx2] at hxx; cases hxx; exact h1⟩ ((((((EnvLe.nil _).cons rfl).cons rfl).cons rfl).cons rfl).cons rfl) (HLe.refl _)
          | exact joinQ_n i2 ⟨hQ2, fun x hx hxx => by have := of_decide_eq_false g3_3; omega⟩ ((((((EnvLe.nil _).cons rfl).cons rfl).cons rfl).cons rfl).cons rfl) (HLe.refl _)
    · skip
      refine TriOps.gF g3_3 ?_
      refine TriOps.gF g3_3 ?_
      refine TriOps.gF g3_3 ?_
      refine TriOps.gF g3_3 ?_
      refine TriOps.gF g3_3 ?_
      refine TriOps.gF g3_3 ?_
      refine TriOps.gF g3_3 ?_
      refine TriOps.gF g3_3 ?_
      refine TriOps.gF g3_3 ?_
      refine .nil ?_
      refine TriOps.gF g3_3 ?_
      refine TriOps.gF g3_3 ?_
      refine TriOps.q (.pickFh g3_3) ?_
      refine .nil ?_
      refine seqQ_n ?_
      refine .condF ?_
      refine .exit (seqQ_x (loopQ_x (blkQ_x ?_)))
      first
        | exact joinQ_n i2 ⟨hQ2, fun x hx hxx => by rw [hx2] at hxx; cases hxx; exact h1⟩ ((((((EnvLe.nil _).cons rfl).cons rfl).cons rfl).cons rfl).cons rfl) (HLe.refl _)
        | exact joinQ_n i2 ⟨hQ2, fun x hx hxx => by have := of_decide_eq_false g3_3; omega⟩ ((((((EnvLe.nil _).cons rfl).cons rfl).cons rfl).cons rfl).cons rfl) (HLe.refl _)
  · intro x hx
    obtain ⟨i3, hi3⟩ : ∃ i3, i3 = x := ⟨_, rfl⟩
    rw [← hi3] at hx ⊢
    clear hi3 x
    obtain ⟨hQ3, hst3⟩ := hx
    refine seqQ_n ?_
    refine .seq ?_
    refine Tri.cut (X := Nat) (fun j' => j' ≤ b - 1 ∧ PQ (fun x => ltc c x p) ws a i3 j' b p ∧ ∀ x, i3 ≤ j' → ws[j']? = some x → ltc c x p = true) (fun j' => [(0, v), (1, .int .i64 (a : Nat)), (4, .func (.func f) #[] caps.toArray), (12, .int .i64 (i3 : Nat)), (13, .int .i64 (j' : Nat))]) (fun _ => [T0]) ?_ ?_
    · refine .block ?_
      refine .loop (X := Nat) (fun j' => j' ≤ b - 1 ∧ PQ (fun x => ltc c x p) ws a i3 j' b p) (fun j' => [(0, v), (1, .int .i64 (a : Nat)), (4, .func (.func f) #[] caps.toArray), (12, .int .i64 (i3 : Nat)), (13, .int .i64 (j' : Nat))]) (fun _ => [T0]) (fun j' => j') (b - 1) ⟨Nat.le_refl _, hQ3⟩ ((((((EnvLe.nil _).cons rfl).cons rfl).cons rfl).cons rfl).cons rfl) (HLe.refl _) ?_
      rintro j2 ⟨hj2, hQ4⟩
      have hi30 := hQ3.i0
      refine .seq ?_
      refine .seq ?_
      refine .region_tail 13 mixed (by kernel_rfl) ?_
      conv => arg 6; dsimp only [List.take]
      refine TriOps.q .move ?_
      refine TriOps.q .move ?_
      refine TriOps.q .leq ?_
      refine TriOps.q .move ?_
      refine TriOps.split (t := 53) rfl (fun g5_3 => ?_) (fun g5_3 => ?_)
      · skip
        have hle4 : i3 ≤ j2 := by have := of_decide_eq_true g5_3; omega
        obtain ⟨x4, hx4⟩ : ∃ x, ws[j2]? = some x := ⟨_, List.getElem?_eq_getElem (by omega)⟩
        have okx4 := hok x4 (hR0.perm.mem_iff.1 (List.mem_of_getElem? hx4))
        refine TriOps.gT g5_3 ?_
        refine TriOps.q .move ?_
        refine TriOps.gT g5_3 ?_
        refine TriOps.q .move ?_
        refine TriOps.gT g5_3 ?_
        refine TriOps.q .move ?_
        refine TriOps.gT g5_3 ?_
        refine TriOps.indexO j2 hO0 hx4 (fun p57 => ?_)
        refine TriOps.gT g5_3 ?_
        refine TriOps.q (.loadA rfl) ?_
        refine TriOps.gT g5_3 ?_
        refine TriOps.q .move ?_
        refine TriOps.gT g5_3 ?_
        refine TriOps.q .move ?_
        refine TriOps.gT g5_3 ?_
        refine TriOps.indexO a hO0 hat (fun p61 => ?_)
        refine TriOps.gT g5_3 ?_
        refine TriOps.q (.loadA rfl) ?_
        refine .nil ?_
        refine TriOps.gT g5_3 ?_
        refine TriOps.callRV (first := []) (captured := caps) (vs := [(fun p : CP => Value.agg (encC p).toArray) x4, (fun p : CP => Value.agg (encC p).toArray) p]) (hf x4 p okx4 okp _ (fun b o hb => .inl hb)) (fun u hu => ?_)
        subst hu
        refine TriOps.gT g5_3 ?_
        refine TriOps.q .lss ?_
        refine TriOps.gT g5_3 ?_
        refine TriOps.q .not ?_
        refine TriOps.q (.pickTh g5_3) ?_
        refine .nil ?_
        refine seqQ_n ?_
        refine .cond rfl (fun h2 => ?_) (fun h2 => ?_)
        · skip
          refine .skip ?_
          refine seqQ_n ?_
          refine .block ?_
          refine .region ?_
          refine TriOps.q .move ?_
          refine TriOps.q (.i64 ((j2 - 1 : Nat) : Int) .sub ⟨by omega, by omega, by omega⟩) ?_
          refine TriOps.q .assign ?_
          refine .nil ?_
          refine blkQ_n ?_
          have hlt4 : ltc c x4 p = false := by
            have h2' : (!ltc c x4 p) = true := h2
            simpa using h2'
          exact loopQ_i (j2 - 1) ⟨by omega, hQ4.dec hle4 hx4 hlt4⟩ (by omega) ((((((EnvLe.nil _).cons rfl).cons rfl).cons rfl).cons rfl).cons rfl) (HLe.refl _)
        · skip
          refine .exit (seqQ_x (loopQ_x (blkQ_x ?_)))
          first
            | exact joinQ_n j2 ⟨hj2, hQ4, fun x hx hxx => by
                have hh : (!ltc c x4 p) = false := h2
                rw [hx4] at hxx; cases hxx
                simpa using hh⟩ ((((((EnvLe.nil _).cons rfl).cons rfl).cons rfl).cons rfl).cons rfl) (HLe.refl _)
            | exact joinQ_n j2 ⟨hj2, hQ4, fun x hx hxx => by have := of_decide_eq_false g5_3; omega⟩ ((((((EnvLe.nil _).cons rfl).cons rfl).cons rfl).cons rfl).cons rfl) (HLe.refl _)
      · skip
        refine TriOps.gF g5_3 ?_
        refine TriOps.gF g5_3 ?_
        refine TriOps.gF g5_3 ?_
        refine TriOps.gF g5_3 ?_
        refine TriOps.gF g5_3 ?_
        refine TriOps.gF g5_3 ?_
        refine TriOps.gF g5_3 ?_
        refine TriOps.gF g5_3 ?_
        refine TriOps.gF g5_3 ?_
        refine .nil ?_
        refine TriOps.gF g5_3 ?_
        refine TriOps.gF g5_3 ?_
        refine TriOps.gF g5_3 ?_
        refine TriOps.q (.pickFh g5_3) ?_
        refine .nil ?_
        refine seqQ_n ?_
        refine .condF ?_
        refine .exit (seqQ_x (loopQ_x (blkQ_x ?_)))
        first
          | exact joinQ_n j2 ⟨hj2, hQ4, fun x hx hxx => by
              have hh : (!ltc c x4 p) = false := h2
              rw [hx4] at hxx; cases hxx
              simpa using hh⟩ ((((((EnvLe.nil _).cons rfl).cons rfl).cons rfl).cons rfl).cons rfl) (HLe.refl _)
          | exact joinQ_n j2 ⟨hj2, hQ4, fun x hx hxx => by have := of_decide_eq_false g5_3; omega⟩ ((((((EnvLe.nil _).cons rfl).cons rfl).cons rfl).cons rfl).cons rfl) (HLe.refl _)
    · intro x hx
      obtain ⟨j3, hj3⟩ : ∃ j3, j3 = x := ⟨_, rfl⟩
      rw [← hj3] at hx ⊢
      clear hj3 x
      obtain ⟨hjj3, hQ5, hst5⟩ := hx
      have hi30 := hQ5.i0
      have hij5 := hQ5.ij
      refine seqQ_n ?_
      refine .seq ?_
      refine .seq ?_
      refine .region ?_
      refine TriOps.q .move ?_
      refine TriOps.q .move ?_
      refine TriOps.q .gtr ?_
      refine .nil ?_
      refine seqQ_n ?_
      refine .cond rfl (fun h3 => ?_) (fun h3 => ?_)
      · skip
        have hgt5 : j3 < i3 := by have := of_decide_eq_true h3; omega
        obtain ⟨y, hy⟩ : ∃ x, ws[j3]? = some x := ⟨_, List.getElem?_eq_getElem (by omega)⟩
        refine .seq ?_
        refine .region_all [13, 15] mixed ?_
        refine RA.takeO 0 rfl .move (by kernel_rfl) ?_
        refine RA.takeO 1 rfl .move (by kernel_rfl) ?_
        refine RA.take 2 rfl .move (by kernel_rfl) ?_
        refine RA.take 3 rfl .move (by kernel_rfl) ?_
        refine RA.takeO 4 rfl .move (by kernel_rfl) ?_
        refine RA.takeO 5 rfl .move (by kernel_rfl) ?_
        refine RA.indexO 6 rfl (a) hO0 hat rfl rfl rfl (by kernel_rfl) (fun p78 => ?_)
        refine RA.takeO 7 rfl (.loadA rfl) (by kernel_rfl) ?_
        refine RA.takeO 8 rfl .move (by kernel_rfl) ?_
        refine RA.takeO 9 rfl .move (by kernel_rfl) ?_
        refine RA.indexO 10 rfl (j3) hO0 hy rfl rfl rfl (by kernel_rfl) (fun p82 => ?_)
        refine RA.takeO 11 rfl (.loadA rfl) (by kernel_rfl) ?_
        refine RA.indexO 12 rfl (j3) hO0 hy rfl rfl rfl (by kernel_rfl) (fun p84 => ?_)
        refine RA.step 13 rfl (by kernel_rfl) rfl ?_
        refine TriOps.storeO (j3) hO0 hy p (fun Tsa hsa => ?_) (hO0.one _ (List.mem_of_getElem? hat))
        refine .nil (Next.mod rfl ?_)
        refine RA.indexO 14 rfl (a) hO0 hat rfl rfl rfl (by kernel_rfl) (fun p85 => ?_)
        refine RA.step 15 rfl (by kernel_rfl) rfl ?_
        obtain ⟨zz, hzz⟩ : ∃ u, (ws.set (j3) p)[a]? = some u := ⟨_, List.getElem?_eq_getElem (by rw [List.length_set]; exact (List.getElem?_eq_some_iff.1 hat).1)⟩
        refine TriOps.storeO (a) hsa hzz y (fun Tsw hsw => ?_) (hO0.one _ (List.mem_of_getElem? hy))
        rw [← swp_eq hy hat] at hsw
        refine .nil (Next.mod rfl ?_)
        refine RA.nil (by kernel_rfl) ?_
        refine seqQ_n ?_
        refine .seq ?_
        refine .region ?_
        refine TriOps.q .move ?_
        refine TriOps.q .assign ?_
        refine TriOps.q .assign ?_
        refine .nil ?_
        refine seqQ_n ?_
        refine .ret (seqQ_r (retQ_r _ (.two (.tmp rfl) (.tmp rfl)) (HLe.refl _) ?_))
        exact ⟨_, rfl, swp ws j3 a, j3, true, rfl, hsw, hR0.step (by omega) (by omega) (by omega) (by omega) (by omega), hQ5.fin hgt5 (by omega)⟩
      · skip
        have hle5 : i3 ≤ j3 := by have := of_decide_eq_false h3; omega
        obtain ⟨x, hx⟩ : ∃ x, ws[i3]? = some x := ⟨_, List.getElem?_eq_getElem (by omega)⟩
        obtain ⟨y, hy⟩ : ∃ x, ws[j3]? = some x := ⟨_, List.getElem?_eq_getElem (by omega)⟩
        have hq6 := hQ5.sw hle5 (by omega) hx hy (hst3 x (by omega) hx) (hst5 y hle5 hy)
        refine .skip ?_
        refine seqQ_n ?_
        refine .seq ?_
        refine .region_all [13, 15] mixed ?_
        refine RA.takeO 0 rfl .move (by kernel_rfl) ?_
        refine RA.takeO 1 rfl .move (by kernel_rfl) ?_
        refine RA.take 2 rfl .move (by kernel_rfl) ?_
        refine RA.take 3 rfl .move (by kernel_rfl) ?_
        refine RA.takeO 4 rfl .move (by kernel_rfl) ?_
        refine RA.takeO 5 rfl .move (by kernel_rfl) ?_
        refine RA.indexO 6 rfl (j3) hO0 hy rfl rfl rfl (by kernel_rfl) (fun p93 => ?_)
        refine RA.takeO 7 rfl (.loadA rfl) (by kernel_rfl) ?_
        refine RA.takeO 8 rfl .move (by kernel_rfl) ?_
        refine RA.takeO 9 rfl .move (by kernel_rfl) ?_
        refine RA.indexO 10 rfl (i3) hO0 hx rfl rfl rfl (by kernel_rfl) (fun p97 => ?_)
        refine RA.takeO 11 rfl (.loadA rfl) (by kernel_rfl) ?_
        refine RA.indexO 12 rfl (i3) hO0 hx rfl rfl rfl (by kernel_rfl) (fun p99 => ?_)
        refine RA.step 13 rfl (by kernel_rfl) rfl ?_
        refine TriOps.storeO (i3) hO0 hx y (fun Tsa hsa => ?_) (hO0.one _ (List.mem_of_getElem? hy))
        refine .nil (Next.mod rfl ?_)
        refine RA.indexO 14 rfl (j3) hO0 hy rfl rfl rfl (by kernel_rfl) (fun p100 => ?_)
        refine RA.step 15 rfl (by kernel_rfl) rfl ?_
        obtain ⟨zz, hzz⟩ : ∃ u, (ws.set (i3) y)[j3]? = some u := ⟨_, List.getElem?_eq_getElem (by rw [List.length_set]; exact (List.getElem?_eq_some_iff.1 hy).1)⟩
        refine TriOps.storeO (j3) hsa hzz x (fun Tsw hsw => ?_) (hO0.one _ (List.mem_of_getElem? hx))
        rw [← swp_eq hx hy] at hsw
        refine .nil (Next.mod rfl ?_)
        refine RA.nil (by kernel_rfl) ?_
        refine seqQ_n ?_
        refine .seq ?_
        refine .region ?_
        refine TriOps.q .move ?_
        refine TriOps.q (.i64 ((i3 + 1 : Nat) : Int) .add ⟨by omega, by omega, by omega⟩) ?_
        refine TriOps.q .assign ?_
        refine .nil ?_
        refine seqQ_n ?_
        refine .seq ?_
        refine .region ?_
        refine TriOps.q .move ?_
        refine TriOps.q (.i64 ((j3 - 1 : Nat) : Int) .sub ⟨by omega, by omega, by omega⟩) ?_
        refine TriOps.q .assign ?_
        refine .nil ?_
        refine seqQ_n ?_
        refine .seq ?_
        refine Tri.cut (X := Nat × Nat × List CP × Seg) (fun y => OS 35 4 encC v y.2.2.1 y.2.2.2 ∧ RP a b xs y.2.2.1 ∧ PQ (fun x => ltc c x p) y.2.2.1 a y.1 y.2.1 b p ∧ y.2.1 < y.1) (fun y => [(0, v), (1, .int .i64 (a : Nat)), (4, .func (.func f) #[] caps.toArray), (12, .int .i64 (y.1 : Nat)), (13, .int .i64 (y.2.1 : Nat))]) (fun y => [y.2.2.2]) ?_ ?_
        · refine .block ?_
          refine .loop (X := Nat × Nat × List CP × Seg) (fun y => OS 35 4 encC v y.2.2.1 y.2.2.2 ∧ RP a b xs y.2.2.1 ∧ PQ (fun x => ltc c x p) y.2.2.1 a y.1 y.2.1 b p) (fun y => [(0, v), (1, .int .i64 (a : Nat)), (4, .func (.func f) #[] caps.toArray), (12, .int .i64 (y.1 : Nat)), (13, .int .i64 (y.2.1 : Nat))]) (fun y => [y.2.2.2]) (fun y => y.2.1 + 1 - y.1) (i3 + 1, j3 - 1, swp ws i3 j3, Tsw) ⟨hsw, hR0.step (by omega) (by omega) (by omega) (by omega) (by omega), hq6.2⟩ ((((((EnvLe.nil _).cons rfl).cons rfl).cons rfl).cons rfl).cons rfl) (HLe.refl _) ?_
          rintro ⟨i, j, ys, T1⟩ ⟨hO1, hR1, hQ1⟩
          simp only at hO1 hR1 hQ1 ⊢
          have hlen := hR1.length
          have hi0 := hQ1.i0
          have hij := hQ1.ij
          have hjb := hQ1.jb
          have hpa := hQ1.at_
          refine .block ?_
          refine .seq ?_
          refine Tri.cut (X := Nat) (fun i' => i ≤ i' ∧ PQ (fun x => ltc c x p) ys a i' j b p ∧ ∀ x, i' ≤ j → ys[i']? = some x → ltc c x p = false) (fun i' => [(0, v), (1, .int .i64 (a : Nat)), (4, .func (.func f) #[] caps.toArray), (12, .int .i64 (i' : Nat)), (13, .int .i64 (j : Nat))]) (fun _ => [T1]) ?_ ?_
          · refine .block ?_
            refine .loop (X := Nat) (fun i' => i ≤ i' ∧ PQ (fun x => ltc c x p) ys a i' j b p) (fun i' => [(0, v), (1, .int .i64 (a : Nat)), (4, .func (.func f) #[] caps.toArray), (12, .int .i64 (i' : Nat)), (13, .int .i64 (j : Nat))]) (fun _ => [T1]) (fun i' => j + 1 - i') i ⟨Nat.le_refl _, hQ1⟩ ((((((EnvLe.nil _).cons rfl).cons rfl).cons rfl).cons rfl).cons rfl) (HLe.refl _) ?_
            rintro k2 ⟨hk2, hW2⟩
            refine .seq ?_
            refine .seq ?_
            refine .region_tail 13 mixed (by kernel_rfl) ?_
            conv => arg 6; dsimp only [List.take]
            refine TriOps.q .move ?_
            refine TriOps.q .move ?_
            refine TriOps.q .leq ?_
            refine TriOps.q .move ?_
            refine TriOps.split (t := 108) rfl (fun g13_3 => ?_) (fun g13_3 => ?_)
            · skip
              have hle6 : k2 ≤ j := by have := of_decide_eq_true g13_3; omega
              obtain ⟨x6, hx6⟩ : ∃ x, ys[k2]? = some x := ⟨_, List.getElem?_eq_getElem (by omega)⟩
              have okx6 := hok x6 (hR1.perm.mem_iff.1 (List.mem_of_getElem? hx6))
              refine TriOps.gT g13_3 ?_
              refine TriOps.q .move ?_
              refine TriOps.gT g13_3 ?_
              refine TriOps.q .move ?_
              refine TriOps.gT g13_3 ?_
              refine TriOps.q .move ?_
              refine TriOps.gT g13_3 ?_
              refine TriOps.indexO k2 hO1 hx6 (fun p112 => ?_)
              refine TriOps.gT g13_3 ?_
              refine TriOps.q (.loadA rfl) ?_
              refine TriOps.gT g13_3 ?_
              refine TriOps.q .move ?_
              refine TriOps.gT g13_3 ?_
              refine TriOps.q .move ?_
              refine TriOps.gT g13_3 ?_
              refine TriOps.indexO a hO1 hpa (fun p116 => ?_)
              refine TriOps.gT g13_3 ?_
              refine TriOps.q (.loadA rfl) ?_
              refine .nil ?_
              refine TriOps.gT g13_3 ?_
              refine TriOps.callRV (first := []) (captured := caps) (vs := [(fun p : CP => Value.agg (encC p).toArray) x6, (fun p : CP => Value.agg (encC p).toArray) p]) (hf x6 p okx6 okp _ (fun b o hb => .inl hb)) (fun u hu => ?_)
              subst hu
              refine TriOps.gT g13_3 ?_
              refine TriOps.q .lss ?_
              refine TriOps.q (.pickTh g13_3) ?_
              refine .nil ?_
              refine seqQ_n ?_
              refine .cond rfl (fun h4 => ?_) (fun h4 => ?_)
              · skip
                refine .skip ?_
                refine seqQ_n ?_
                refine .block ?_
                refine .region ?_
                refine TriOps.q .move ?_
                refine TriOps.q (.i64 ((k2 + 1 : Nat) : Int) .add ⟨by omega, by omega, by omega⟩) ?_
                refine TriOps.q .assign ?_
                refine .nil ?_
                refine blkQ_n ?_
                exact loopQ_i (k2 + 1) ⟨by omega, hW2.inc hle6 hx6 h4⟩ (by omega) ((((((EnvLe.nil _).cons rfl).cons rfl).cons rfl).cons rfl).cons rfl) (HLe.refl _)
              · skip
                refine .exit (seqQ_x (loopQ_x (blkQ_x ?_)))
                first
                  | exact joinQ_n k2 ⟨hk2, hW2, fun x hx hxx => by rw [hx6] at hxx; cases hxx; exact h4⟩ ((((((EnvLe.nil _).cons rfl).cons rfl).cons rfl).cons rfl).cons rfl) (HLe.refl _)
                  | exact joinQ_n k2 ⟨hk2, hW2, fun x hx hxx => by have := of_decide_eq_false g13_3; omega⟩ ((((((EnvLe.nil _).cons rfl).cons rfl).cons rfl).cons rfl).cons rfl) (HLe.refl _)
            · skip
              refine TriOps.gF g13_3 ?_
              refine TriOps.gF g13_3 ?_
              refine TriOps.gF g13_3 ?_
              refine TriOps.gF g13_3 ?_
              refine TriOps.gF g13_3 ?_
              refine TriOps.gF g13_3 ?_
              refine TriOps.gF g13_3 ?_
              refine TriOps.gF g13_3 ?_
              refine TriOps.gF g13_3 ?_
              refine .nil ?_
              refine TriOps.gF g13_3 ?_
              refine TriOps.gF g13_3 ?_
              refine TriOps.q (.pickFh g13_3) ?_
              refine .nil ?_
              refine seqQ_n ?_
              refine .condF ?_
              refine .exit (seqQ_x (loopQ_x (blkQ_x ?_)))
              first
                | exact joinQ_n k2 ⟨hk2, hW2, fun x hx hxx => by rw [hx6] at hxx; cases hxx; exact h4⟩ ((((((EnvLe.nil _).cons rfl).cons rfl).cons rfl).cons rfl).cons rfl) (HLe.refl _)
                | exact joinQ_n k2 ⟨hk2, hW2, fun x hx hxx => by have := of_decide_eq_false g13_3; omega⟩ ((((((EnvLe.nil _).cons rfl).cons rfl).cons rfl).cons rfl).cons rfl) (HLe.refl _)
          · intro x hx
            obtain ⟨k3, hk3⟩ : ∃ k3, k3 = x := ⟨_, rfl⟩
            rw [← hk3] at hx ⊢
            clear hk3 x
            obtain ⟨hik3, hW3, hst6⟩ := hx
            refine seqQ_n ?_
            refine .seq ?_
            refine Tri.cut (X := Nat) (fun j' => j' ≤ j ∧ PQ (fun x => ltc c x p) ys a k3 j' b p ∧ ∀ x, k3 ≤ j' → ys[j']? = some x → ltc c x p = true) (fun j' => [(0, v), (1, .int .i64 (a : Nat)), (4, .func (.func f) #[] caps.toArray), (12, .int .i64 (k3 : Nat)), (13, .int .i64 (j' : Nat))]) (fun _ => [T1]) ?_ ?_
            · refine .block ?_
              refine .loop (X := Nat) (fun j' => j' ≤ j ∧ PQ (fun x => ltc c x p) ys a k3 j' b p) (fun j' => [(0, v), (1, .int .i64 (a : Nat)), (4, .func (.func f) #[] caps.toArray), (12, .int .i64 (k3 : Nat)), (13, .int .i64 (j' : Nat))]) (fun _ => [T1]) (fun j' => j') j ⟨Nat.le_refl _, hW3⟩ ((((((EnvLe.nil _).cons rfl).cons rfl).cons rfl).cons rfl).cons rfl) (HLe.refl _) ?_
              rintro m2 ⟨hm2, hW4⟩
              have hk30 := hW3.i0
              refine .seq ?_
              refine .seq ?_
              refine .region_tail 13 mixed (by kernel_rfl) ?_
              conv => arg 6; dsimp only [List.take]
              refine TriOps.q .move ?_
              refine TriOps.q .move ?_
              refine TriOps.q .leq ?_
              refine TriOps.q .move ?_
              refine TriOps.split (t := 126) rfl (fun g15_3 => ?_) (fun g15_3 => ?_)
              · skip
                have hle7 : k3 ≤ m2 := by have := of_decide_eq_true g15_3; omega
                obtain ⟨x7, hx7⟩ : ∃ x, ys[m2]? = some x := ⟨_, List.getElem?_eq_getElem (by omega)⟩
                have okx7 := hok x7 (hR1.perm.mem_iff.1 (List.mem_of_getElem? hx7))
                refine TriOps.gT g15_3 ?_
                refine TriOps.q .move ?_
                refine TriOps.gT g15_3 ?_
                refine TriOps.q .move ?_
                refine TriOps.gT g15_3 ?_
                refine TriOps.q .move ?_
                refine TriOps.gT g15_3 ?_
                refine TriOps.indexO m2 hO1 hx7 (fun p130 => ?_)
                refine TriOps.gT g15_3 ?_
                refine TriOps.q (.loadA rfl) ?_
                refine TriOps.gT g15_3 ?_
                refine TriOps.q .move ?_
                refine TriOps.gT g15_3 ?_
                refine TriOps.q .move ?_
                refine TriOps.gT g15_3 ?_
                refine TriOps.indexO a hO1 hpa (fun p134 => ?_)
                refine TriOps.gT g15_3 ?_
                refine TriOps.q (.loadA rfl) ?_
                refine .nil ?_
                refine TriOps.gT g15_3 ?_
                refine TriOps.callRV (first := []) (captured := caps) (vs := [(fun p : CP => Value.agg (encC p).toArray) x7, (fun p : CP => Value.agg (encC p).toArray) p]) (hf x7 p okx7 okp _ (fun b o hb => .inl hb)) (fun u hu => ?_)
                subst hu
                refine TriOps.gT g15_3 ?_
                refine TriOps.q .lss ?_
                refine TriOps.gT g15_3 ?_
                refine TriOps.q .not ?_
                refine TriOps.q (.pickTh g15_3) ?_
                refine .nil ?_
                refine seqQ_n ?_
                refine .cond rfl (fun h5 => ?_) (fun h5 => ?_)
                · skip
                  refine .skip ?_
                  refine seqQ_n ?_
                  refine .block ?_
                  refine .region ?_
                  refine TriOps.q .move ?_
                  refine TriOps.q (.i64 ((m2 - 1 : Nat) : Int) .sub ⟨by omega, by omega, by omega⟩) ?_
                  refine TriOps.q .assign ?_
                  refine .nil ?_
                  refine blkQ_n ?_
                  have hlt7 : ltc c x7 p = false := by
                    have h5' : (!ltc c x7 p) = true := h5
                    simpa using h5'
                  exact loopQ_i (m2 - 1) ⟨by omega, hW4.dec hle7 hx7 hlt7⟩ (by omega) ((((((EnvLe.nil _).cons rfl).cons rfl).cons rfl).cons rfl).cons rfl) (HLe.refl _)
                · skip
                  refine .exit (seqQ_x (loopQ_x (blkQ_x ?_)))
                  first
                    | exact joinQ_n m2 ⟨hm2, hW4, fun x hx hxx => by
                        have hh : (!ltc c x7 p) = false := h5
                        rw [hx7] at hxx; cases hxx
                        simpa using hh⟩ ((((((EnvLe.nil _).cons rfl).cons rfl).cons rfl).cons rfl).cons rfl) (HLe.refl _)
                    | exact joinQ_n m2 ⟨hm2, hW4, fun x hx hxx => by have := of_decide_eq_false g15_3; omega⟩ ((((((EnvLe.nil _).cons rfl).cons rfl).cons rfl).cons rfl).cons rfl) (HLe.refl _)
              · skip
                refine TriOps.gF g15_3 ?_
                refine TriOps.gF g15_3 ?_
                refine TriOps.gF g15_3 ?_
                refine TriOps.gF g15_3 ?_
                refine TriOps.gF g15_3 ?_
                refine TriOps.gF g15_3 ?_
                refine TriOps.gF g15_3 ?_
                refine TriOps.gF g15_3 ?_
                refine TriOps.gF g15_3 ?_
                refine .nil ?_
                refine TriOps.gF g15_3 ?_
                refine TriOps.gF g15_3 ?_
                refine TriOps.gF g15_3 ?_
                refine TriOps.q (.pickFh g15_3) ?_
                refine .nil ?_
                refine seqQ_n ?_
                refine .condF ?_
                refine .exit (seqQ_x (loopQ_x (blkQ_x ?_)))
                first
                  | exact joinQ_n m2 ⟨hm2, hW4, fun x hx hxx => by
                      have hh : (!ltc c x7 p) = false := h5
                      rw [hx7] at hxx; cases hxx
                      simpa using hh⟩ ((((((EnvLe.nil _).cons rfl).cons rfl).cons rfl).cons rfl).cons rfl) (HLe.refl _)
                  | exact joinQ_n m2 ⟨hm2, hW4, fun x hx hxx => by have := of_decide_eq_false g15_3; omega⟩ ((((((EnvLe.nil _).cons rfl).cons rfl).cons rfl).cons rfl).cons rfl) (HLe.refl _)
            · intro x hx
              obtain ⟨m3, hm3⟩ : ∃ m3, m3 = x := ⟨_, rfl⟩
              rw [← hm3] at hx ⊢
              clear hm3 x
              obtain ⟨hjm3, hW5, hst8⟩ := hx
              have hk30 := hW5.i0
              have hij8 := hW5.ij
              refine seqQ_n ?_
              refine .seq ?_
              refine .seq ?_
              refine .region ?_
              refine TriOps.q .move ?_
              refine TriOps.q .move ?_
              refine TriOps.q .gtr ?_
              refine .nil ?_
              refine seqQ_n ?_
              refine .cond rfl (fun h6 => ?_) (fun h6 => ?_)
              · skip
                refine .exit (seqQ_x (blkQ_y (loopQ_x (blkQ_x ?_))))
                exact joinQ_n (k3, m3, ys, T1) ⟨hO1, hR1, hW5, by have := of_decide_eq_true h6; simp only; omega⟩ ((((((EnvLe.nil _).cons rfl).cons rfl).cons rfl).cons rfl).cons rfl) (HLe.refl _)
              · skip
                have hle8 : k3 ≤ m3 := by have := of_decide_eq_false h6; omega
                obtain ⟨x8, hx8⟩ : ∃ x, ys[k3]? = some x := ⟨_, List.getElem?_eq_getElem (by omega)⟩
                obtain ⟨y8, hy8⟩ : ∃ x, ys[m3]? = some x := ⟨_, List.getElem?_eq_getElem (by omega)⟩
                have hq8 := hW5.sw hle8 (by omega) hx8 hy8 (hst6 x8 (by omega) hx8) (hst8 y8 hle8 hy8)
                refine .skip ?_
                refine seqQ_n ?_
                refine .seq ?_
                refine .region_all [13, 15] mixed ?_
                refine RA.takeO 0 rfl .move (by kernel_rfl) ?_
                refine RA.takeO 1 rfl .move (by kernel_rfl) ?_
                refine RA.take 2 rfl .move (by kernel_rfl) ?_
                refine RA.take 3 rfl .move (by kernel_rfl) ?_
                refine RA.takeO 4 rfl .move (by kernel_rfl) ?_
                refine RA.takeO 5 rfl .move (by kernel_rfl) ?_
                refine RA.indexO 6 rfl (m3) hO1 hy8 rfl rfl rfl (by kernel_rfl) (fun p151 => ?_)
                refine RA.takeO 7 rfl (.loadA rfl) (by kernel_rfl) ?_
                refine RA.takeO 8 rfl .move (by kernel_rfl) ?_
                refine RA.takeO 9 rfl .move (by kernel_rfl) ?_
                refine RA.indexO 10 rfl (k3) hO1 hx8 rfl rfl rfl (by kernel_rfl) (fun p155 => ?_)
                refine RA.takeO 11 rfl (.loadA rfl) (by kernel_rfl) ?_
                refine RA.indexO 12 rfl (k3) hO1 hx8 rfl rfl rfl (by kernel_rfl) (fun p157 => ?_)
                refine RA.step 13 rfl (by kernel_rfl) rfl ?_
                refine TriOps.storeO (k3) hO1 hx8 y8 (fun Tsa hsa => ?_) (hO1.one _ (List.mem_of_getElem? hy8))
                refine .nil (Next.mod rfl ?_)
                refine RA.indexO 14 rfl (m3) hO1 hy8 rfl rfl rfl (by kernel_rfl) (fun p158 => ?_)
                refine RA.step 15 rfl (by kernel_rfl) rfl ?_
                obtain ⟨zz, hzz⟩ : ∃ u, (ys.set (k3) y8)[m3]? = some u := ⟨_, List.getElem?_eq_getElem (by rw [List.length_set]; exact (List.getElem?_eq_some_iff.1 hy8).1)⟩
                refine TriOps.storeO (m3) hsa hzz x8 (fun Tsw hsw => ?_) (hO1.one _ (List.mem_of_getElem? hx8))
                rw [← swp_eq hx8 hy8] at hsw
                refine .nil (Next.mod rfl ?_)
                refine RA.nil (by kernel_rfl) ?_
                refine seqQ_n ?_
                refine .seq ?_
                refine .region ?_
                refine TriOps.q .move ?_
                refine TriOps.q (.i64 ((k3 + 1 : Nat) : Int) .add ⟨by omega, by omega, by omega⟩) ?_
                refine TriOps.q .assign ?_
                refine .nil ?_
                refine seqQ_n ?_
                refine .region ?_
                refine TriOps.q .move ?_
                refine TriOps.q (.i64 ((m3 - 1 : Nat) : Int) .sub ⟨by omega, by omega, by omega⟩) ?_
                refine TriOps.q .assign ?_
                refine .nil ?_
                refine blkQ_n ?_
                exact loopQ_i (k3 + 1, m3 - 1, swp ys k3 m3, Tsw) ⟨hsw, hR1.step (by omega) (by omega) (by omega) (by omega) (by omega), hq8.2⟩ (by simp only; omega) ((((((EnvLe.nil _).cons rfl).cons rfl).cons rfl).cons rfl).cons rfl) (HLe.refl _)
        · intro x hx
          obtain ⟨i9, j9, zs, T9⟩ := x
          obtain ⟨hO9, hR9, hQ9, hji9⟩ := hx
          simp only at hO9 hR9 hQ9 hji9 ⊢
          have hlen9 := hR9.length
          have hij9 := hQ9.ij
          have hi09 := hQ9.i0
          have hjb9 := hQ9.jb
          have hp9 := hQ9.at_
          obtain ⟨y9, hy9⟩ : ∃ x, zs[j9]? = some x := ⟨_, List.getElem?_eq_getElem (by omega)⟩
          refine seqQ_n ?_
          refine .seq ?_
          refine .region_all [13, 15] mixed ?_
          refine RA.takeO 0 rfl .move (by kernel_rfl) ?_
          refine RA.takeO 1 rfl .move (by kernel_rfl) ?_
          refine RA.take 2 rfl .move (by kernel_rfl) ?_
          refine RA.take 3 rfl .move (by kernel_rfl) ?_
          refine RA.takeO 4 rfl .move (by kernel_rfl) ?_
          refine RA.takeO 5 rfl .move (by kernel_rfl) ?_
          refine RA.indexO 6 rfl (a) hO9 hp9 rfl rfl rfl (by kernel_rfl) (fun p169 => ?_)
          refine RA.takeO 7 rfl (.loadA rfl) (by kernel_rfl) ?_
          refine RA.takeO 8 rfl .move (by kernel_rfl) ?_
          refine RA.takeO 9 rfl .move (by kernel_rfl) ?_
          refine RA.indexO 10 rfl (j9) hO9 hy9 rfl rfl rfl (by kernel_rfl) (fun p173 => ?_)
          refine RA.takeO 11 rfl (.loadA rfl) (by kernel_rfl) ?_
          refine RA.indexO 12 rfl (j9) hO9 hy9 rfl rfl rfl (by kernel_rfl) (fun p175 => ?_)
          refine RA.step 13 rfl (by kernel_rfl) rfl ?_
          refine TriOps.storeO (j9) hO9 hy9 p (fun Tsa hsa => ?_) (hO9.one _ (List.mem_of_getElem? hp9))
          refine .nil (Next.mod rfl ?_)
          refine RA.indexO 14 rfl (a) hO9 hp9 rfl rfl rfl (by kernel_rfl) (fun p176 => ?_)
          refine RA.step 15 rfl (by kernel_rfl) rfl ?_
          obtain ⟨zz, hzz⟩ : ∃ u, (zs.set (j9) p)[a]? = some u := ⟨_, List.getElem?_eq_getElem (by rw [List.length_set]; exact (List.getElem?_eq_some_iff.1 hp9).1)⟩
          refine TriOps.storeO (a) hsa hzz y9 (fun Tsw hsw => ?_) (hO9.one _ (List.mem_of_getElem? hy9))
          rw [← swp_eq hy9 hp9] at hsw
          refine .nil (Next.mod rfl ?_)
          refine RA.nil (by kernel_rfl) ?_
          refine seqQ_n ?_
          refine .seq ?_
          refine .region ?_
          refine TriOps.q .move ?_
          refine TriOps.q .assign ?_
          refine TriOps.q .assign ?_
          refine .nil ?_
          refine seqQ_n ?_
          refine .ret (retQ_r _ (.two (.tmp rfl) (.tmp rfl)) (HLe.refl _) ?_)
          exact ⟨_, rfl, swp zs j9 a, j9, false, rfl, hsw, hR9.step (by omega) (by omega) (by omega) (by omega) (by omega), hQ9.fin hji9 (by omega)⟩
end
end SCL
end Go.Proofs.Ytlmdgdehjpahiaa
