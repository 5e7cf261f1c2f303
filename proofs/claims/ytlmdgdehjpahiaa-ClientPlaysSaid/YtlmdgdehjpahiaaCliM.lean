/- Layer 25's law: which clients are a registry's, and that it is the same of its list. No condition. -/
import Derived.Test.YtlmdgdehjpahiaaCliL
set_option linter.unusedVariables false
set_option maxRecDepth 4000
namespace Go.Proofs.Ytlmdgdehjpahiaa

theorem okP_pw {cs : List Cli} (h : okP cs cs.length = true) : cs.Pairwise fun c d => sLt c.id d.id = true := by
  rw [List.pairwise_iff_getElem]
  intro i j hi hj hij
  exact okP_asc (okP_le h (show j + 1 ≤ cs.length by omega)) (List.getElem?_eq_getElem hj) i _ hij (List.getElem?_eq_getElem hi)
theorem okP_uniq {cs ds : List Cli} (h : okP cs cs.length = true) (hp : ds.Perm cs) (hs : ds.Pairwise fun c d => sLt d.id c.id = false) : ds = cs := by
  have hc := okP_pw h
  refine List.Perm.eq_of_pairwise (le := fun c d : Cli => sLt d.id c.id = false) (fun a b ha hb h1 h2 => ?_) hs (hc.imp fun {a b} hab => ?_) hp
  · have he : a.id = b.id := sLt_conn h2 h1
    have ha := hp.mem_iff.1 ha
    obtain ⟨i, hi, rfl⟩ := List.mem_iff_getElem.1 ha
    obtain ⟨j, hj, rfl⟩ := List.mem_iff_getElem.1 hb
    rw [List.pairwise_iff_getElem] at hc
    rcases Nat.lt_trichotomy i j with hij | hij | hij
    · have := hc i j hi hj hij
      rw [he, sLt_irr] at this; cases this
    · subst hij; rfl
    · have := hc j i hj hi hij
      rw [he, sLt_irr] at this; cases this
  · exact sLt_so.asym hab
theorem cloads_spec (v : Value) (ps : List CP) (R : Rds) (h : RS R 4 encC v ps) (hc : CL R ps) :
    Spec Try.prog 10 [v] R [] fun u H' => u = .bool true ∧ H' = [] := by
  have hle := h.le
  refine Spec.segs (H' := [[], []]) (by simp) ?_
  refine Spec.body Try.func10 rfl Try.results10 Try.ntmps10 rfl ?_
  refine .seq ?_
  refine .region ?_
  refine TriOps.q .assign ?_
  refine .nil ?_
  refine seqQ_n ?_
  refine .seq ?_
  refine .region ?_
  refine TriOps.q .assign ?_
  refine .nil ?_
  refine seqQ_n ?_
  refine .seq ?_
  refine .seq ?_
  refine .region ?_
  refine TriOps.q .assign ?_
  refine .nil ?_
  refine seqQ_n ?_
  refine Tri.cut (X := List CP × Value × Seg × Seg) (fun y => y.1.length ≤ 70 ∧ (∀ p ∈ y.1, p.2.fits ∧ p.2.few) ∧ CL (sg y.2.2.2) y.1 ∧ OS 35 4 encC y.2.1 y.1 y.2.2.1) (fun y => [(3, y.2.1)]) (fun y => [y.2.2.1, y.2.2.2]) ?_ ?_
  · refine .block ?_
    refine .loop (X := Nat × List CP × Value × Seg × Seg) (fun y => (y.1 ≤ ps.length ∧ y.1 ≤ 70 ∧ y.2.1.length = y.1) ∧ (∀ p ∈ y.2.1, p.2.fits ∧ p.2.few) ∧ CL (sg y.2.2.2.2) y.2.1 ∧ OS 35 4 encC y.2.2.1 y.2.1 y.2.2.2.1) (fun y => [(0, v), (3, y.2.2.1), (4, .int .i64 (y.1 : Nat))]) (fun y => [y.2.2.2.1, y.2.2.2.2]) (fun y => ps.length - y.1) (0, [], .slice none 0 0, [], []) ⟨⟨by omega, by omega, rfl⟩, by simp, fun p hp => by simp at hp, OS.nil⟩ ((((EnvLe.nil _).cons rfl).cons rfl).cons rfl) (HLe.refl _) ?_
    rintro ⟨i, qs, vi, Ti, Td⟩ ⟨⟨hi, hi70, hql⟩, hqf, hqc, hO⟩
    simp only at hi hi70 hql hqf hqc hO ⊢
    have i1 := hO.oneCell
    refine .seq ?_
    refine .seq ?_
    refine .region ?_
    refine TriOps.q .move ?_
    refine TriOps.q .move ?_
    refine TriOps.q (.lenR h) ?_
    refine TriOps.q .lss ?_
    refine TriOps.q .move ?_
    refine TriOps.split (t := 13) rfl (fun g3_4 => ?_) (fun g3_4 => ?_)
    · skip
      refine TriOps.gT g3_4 ?_
      refine TriOps.q .move ?_
      refine TriOps.gT g3_4 ?_
      refine TriOps.q .lss ?_
      refine TriOps.q (.pickTh g3_4) ?_
      refine .nil ?_
      refine seqQ_n ?_
      refine .cond rfl (fun h1 => ?_) (fun h1 => ?_)
      · skip
        have hlt : i < ps.length ∧ i < 70 := by simp at g3_4 h1; omega
        obtain ⟨z, hz⟩ : ∃ z, ps[i]? = some z := ⟨_, List.getElem?_eq_getElem hlt.1⟩
        have cz := hc z (List.mem_of_getElem? hz)
        have iz : Ones (encC z) := ⟨cz.ones⟩
        refine .skip ?_
        refine seqQ_n ?_
        refine .seq ?_
        refine .block ?_
        refine .region ?_
        refine TriOps.q .move ?_
        refine TriOps.q .move ?_
        refine TriOps.q .move ?_
        refine TriOps.indexR i h hz (fun p22 => ?_)
        refine TriOps.q (.loadA rfl) ?_
        refine TriOps.callN (cshort_spec z.1 z.2 _ (cz.mono fun b o hb => .inl hb)) (fun w T1 hw => ?_)
        obtain ⟨r1, rfl, hc1⟩ := hw
        have iz1 : Ones r1.cells := ⟨hc1.ones⟩
        refine TriOps.buildSlice1A (fun b25 => ?_)
        refine TriOps.append hO (RS.lits (xs := [(r1, z.2.short)]) rfl (by simp [encC, CR.cells]) (by have := hc1.ones; simpa [encC] using this)) (by simp; omega) (fun v5 T5 hO5 => ?_)
        refine TriOps.q .assign ?_
        refine .nil ?_
        refine blkQ_n (seqQ_n ?_)
        refine .region ?_
        refine TriOps.q .move ?_
        refine TriOps.q (.i64 ((i + 1 : Nat) : Int) .add ⟨by omega, by omega, by omega⟩) ?_
        refine TriOps.q .assign ?_
        refine .nil ?_
        refine loopQ_i (i + 1, qs ++ [(r1, z.2.short)], v5, T5, T1 ++ Td) ⟨⟨by simp only; omega, by simp only; omega, by simp [hql]⟩, fun p hp => ?_, fun p hp => ?_, hO5⟩ (by simp only; omega) ((((EnvLe.nil _).cons rfl).cons rfl).cons rfl) ((HLe.pick [2, 1, 1] _).trans (HLe.ofPerm (by simp [take, dropAt])))
        · rcases List.mem_append.1 hp with hp | hp
          · exact hqf p hp
          · simp only [List.mem_singleton] at hp; subst hp
            exact ⟨z.2.short_fits, z.2.short_few⟩
        · rcases List.mem_append.1 hp with hp | hp
          · exact (hqc p hp).mono fun b o hb => sg_right hb
          · simp only [List.mem_singleton] at hp; subst hp
            exact hc1.mono fun b o hb => sg_left hb
      · skip
        refine .exit (seqQ_x (loopQ_x (blkQ_x ?_)))
        exact joinQ_n (qs, vi, Ti, Td) ⟨by simp only; omega, hqf, hqc, hO⟩ ((EnvLe.nil _).cons rfl) (HLe.refl _)
    · skip
      refine TriOps.gF g3_4 ?_
      refine TriOps.gF g3_4 ?_
      refine TriOps.q (.pickFh g3_4) ?_
      refine .nil ?_
      refine seqQ_n ?_
      refine .condF ?_
      refine .exit (seqQ_x (loopQ_x (blkQ_x ?_)))
      exact joinQ_n (qs, vi, Ti, Td) ⟨by simp only; omega, hqf, hqc, hO⟩ ((EnvLe.nil _).cons rfl) (HLe.refl _)
  · intro x hx
    obtain ⟨qs, vi, Ti, Td⟩ := x
    obtain ⟨hq70, hqf, hqc, hO⟩ := hx
    simp only at hq70 hqf hqc hO ⊢
    have i1 := hO.oneCell
    have hs := hO.sg
    have hcl : (clis qs).length = qs.length := by simp [clis]
    refine seqQ_n ?_
    refine .seq ?_
    refine .region ?_
    refine TriOps.q .move ?_
    refine TriOps.q (.lenO hO) ?_
    refine TriOps.q .leq ?_
    refine TriOps.q .assign ?_
    refine .nil ?_
    refine seqQ_n ?_
    refine .seq ?_
    refine .seq ?_
    refine .region ?_
    refine TriOps.q .assign ?_
    refine .nil ?_
    refine seqQ_n ?_
    refine .block ?_
    refine .loop (X := Nat) (fun j => j ≤ qs.length) (fun j => [(3, vi), (5, .bool (decide ((qs.length : Int) ≤ 64) && okP (clis qs) j)), (6, .int .i64 (j : Nat))]) (fun _ => [Ti, Td]) (fun j => qs.length - j) 0 (Nat.zero_le _) (by simp only [okP, List.range_zero, List.all_nil, Bool.and_true]; exact (((EnvLe.nil _).cons rfl).cons rfl).cons rfl) (HLe.refl _) ?_
    rintro j hj
    refine .seq ?_
    refine .seq ?_
    refine .region ?_
    refine TriOps.q .move ?_
    refine TriOps.q .move ?_
    refine TriOps.q (.lenO hO) ?_
    refine TriOps.q .lss ?_
    refine .nil ?_
    refine seqQ_n ?_
    refine .cond rfl (fun h2 => ?_) (fun h2 => ?_)
    · skip
      have hlt : j < qs.length := by have := of_decide_eq_true h2; omega
      obtain ⟨z, hz⟩ : ∃ z, qs[j]? = some z := ⟨_, List.getElem?_eq_getElem hlt⟩
      have cz := hqc z (List.mem_of_getElem? hz)
      have fz := hqf z (List.mem_of_getElem? hz)
      have iz : Ones (encC z) := ⟨cz.ones⟩
      have hzc : (clis qs)[j]? = some z.2 := by simp [clis, hz]
      have pz : PS Ti (baseP vi (j * 4)) (encC z) := ⟨hs.pc hz⟩
      refine .skip ?_
      refine seqQ_n ?_
      refine .seq ?_
      refine .block ?_
      refine .region_all [] mixed ?_
      refine RA.takeO 0 rfl .move (by kernel_rfl) ?_
      refine RA.takeO 1 rfl .move (by kernel_rfl) ?_
      refine RA.split (t := 37) rfl (fun g10_1 => ?_) (fun g10_1 => ?_)
      · skip
        refine RA.takeGhO 2 rfl rfl g10_1 .move (by kernel_rfl) ?_
        refine RA.takeGhO 3 rfl rfl g10_1 .move (by kernel_rfl) ?_
        refine RA.takeGhO 4 rfl rfl g10_1 (.indexR j hs hz rfl rfl rfl) (by kernel_rfl) ?_
        refine RA.takeGhO 5 rfl rfl g10_1 (.loadA rfl) (by kernel_rfl) ?_
        refine RA.step 6 rfl (by kernel_rfl) rfl ?_
        refine TriOps.gT g10_1 ?_
        refine TriOps.callR (rcheck_spec z.1 z.2 _ (cz.mono fun b o hb => .inr (by have hb' : (b, o) ∈ Td := hb; simp [hb'])) fz.1) (fun w hw => ?_)
        subst hw
        refine .nil (Next.sub ?_)
        refine RA.takeGhO 7 rfl rfl g10_1 .eqI (by kernel_rfl) ?_
        refine RA.takeO 8 rfl (.pickTh g10_1) (by kernel_rfl) ?_
        refine RA.takeO 9 rfl .move (by kernel_rfl) ?_
        refine RA.split (t := 45) rfl (fun g10_9 => ?_) (fun g10_9 => ?_)
        · skip
          refine RA.takeGhO 10 rfl rfl g10_9 .move (by kernel_rfl) ?_
          refine RA.takeGhO 11 rfl rfl g10_9 .eqI (by kernel_rfl) ?_
          refine RA.takeGhO 12 rfl rfl g10_9 .move (by kernel_rfl) ?_
          refine RA.split (t := 48) rfl (fun g10_12 => ?_) (fun g10_12 => ?_)
          · skip
            have hv : (decide ((qs.length : Int) ≤ 64) && okP (clis qs) (j + 1)) = true := by
              have hj0 : j = 0 := by simpa using g10_12
              have hst : stepL (clis qs) j = true := stepL_of hzc (by simpa using g10_9) (.inl hj0)
              rw [okP_succ, ← Bool.and_assoc, g10_1, hst]; rfl
            refine RA.takeFh 13 rfl rfl g10_12 rfl (by kernel_rfl) ?_
            refine RA.takeFh 14 rfl rfl g10_12 rfl (by kernel_rfl) ?_
            refine RA.takeFh 15 rfl rfl g10_12 rfl (by kernel_rfl) ?_
            refine RA.takeFh 16 rfl rfl g10_12 rfl (by kernel_rfl) ?_
            refine RA.takeFh 17 rfl rfl g10_12 rfl (by kernel_rfl) ?_
            refine RA.takeFh 18 rfl rfl g10_12 rfl (by kernel_rfl) ?_
            refine RA.takeFh 19 rfl rfl g10_12 rfl (by kernel_rfl) ?_
            refine RA.takeFh 20 rfl rfl g10_12 rfl (by kernel_rfl) ?_
            refine RA.takeFh 21 rfl rfl g10_12 rfl (by kernel_rfl) ?_
            refine RA.takeFh 22 rfl rfl g10_12 rfl (by kernel_rfl) ?_
            refine RA.takeFh 23 rfl rfl g10_12 rfl (by kernel_rfl) ?_
            refine RA.takeFh 24 rfl rfl g10_12 rfl (by kernel_rfl) ?_
            refine RA.takeGhO 25 rfl rfl g10_9 (.pickTh g10_12) (by kernel_rfl) ?_
            refine RA.takeO 26 rfl (.pickTh g10_9) (by kernel_rfl) ?_
            refine RA.takeO 27 rfl .assign (by kernel_rfl) ?_
            refine RA.nil (by kernel_rfl) ?_
            refine blkQ_n (seqQ_n ?_)
            refine .region ?_
            refine TriOps.q .move ?_
            refine TriOps.q (.i64 ((j + 1 : Nat) : Int) .add ⟨by omega, by omega, by omega⟩) ?_
            refine TriOps.q .assign ?_
            refine .nil ?_
            exact loopQ_i (j + 1) (by omega) (by omega) (by simp only [hv]; exact (((EnvLe.nil _).cons rfl).cons rfl).cons rfl) (HLe.refl _)
          · skip
            have hj1 : 0 < j := by
              have : ¬ j = 0 := by simpa using g10_12
              omega
            obtain ⟨w, hw⟩ : ∃ z, qs[j - 1]? = some z := ⟨_, List.getElem?_eq_getElem (by omega)⟩
            have cw := hqc w (List.mem_of_getElem? hw)
            have iw : Ones (encC w) := ⟨cw.ones⟩
            have hwc : (clis qs)[j - 1]? = some w.2 := by simp [clis, hw]
            have pw : PS Ti (baseP vi ((j - 1) * 4)) (encC w) := ⟨hs.pc hw⟩
            have hv : (decide ((qs.length : Int) ≤ 64) && okP (clis qs) (j + 1)) = sLt w.1.id z.1.id := by
              rw [okP_succ, ← Bool.and_assoc, g10_1, Bool.true_and, cw.id, cz.id]
              have hck : z.2.check = 0 := by simpa using g10_9
              cases hsl : sLt w.2.id z.2.id with
              | true => exact stepL_of hzc hck (.inr ⟨w.2, hwc, hsl⟩)
              | false =>
                refine Bool.eq_false_iff.2 fun hh => ?_
                rcases (stepL_some hzc hh).2 with h0 | ⟨d, hd, hs⟩
                · omega
                · rw [hwc] at hd; cases hd
                  rw [hsl] at hs; cases hs
            refine RA.takeGhO 13 rfl rfl g10_12 .move (by kernel_rfl) ?_
            refine RA.takeGhO 14 rfl rfl g10_12 .move (by kernel_rfl) ?_
            refine RA.takeGhO 15 rfl rfl g10_12 (.i64 ((j - 1 : Nat) : Int) .sub ⟨by omega, by omega, by omega⟩) (by kernel_rfl) ?_
            refine RA.takeGhO 16 rfl rfl g10_12 (.indexR (j - 1) hs hw rfl rfl rfl) (by kernel_rfl) ?_
            refine RA.takeGhO 17 rfl rfl g10_12 (.fieldAddr rfl) (by kernel_rfl) ?_
            refine RA.takeGhO 18 rfl rfl g10_12 (.load1 rfl) (by kernel_rfl) ?_
            refine RA.takeGhO 19 rfl rfl g10_12 .move (by kernel_rfl) ?_
            refine RA.takeGhO 20 rfl rfl g10_12 .move (by kernel_rfl) ?_
            refine RA.takeGhO 21 rfl rfl g10_12 (.indexR j hs hz rfl rfl rfl) (by kernel_rfl) ?_
            refine RA.takeGhO 22 rfl rfl g10_12 (.fieldAddr rfl) (by kernel_rfl) ?_
            refine RA.takeGhO 23 rfl rfl g10_12 (.load1 rfl) (by kernel_rfl) ?_
            refine RA.takeGhO 24 rfl rfl g10_12 .ltS (by kernel_rfl) ?_
            refine RA.takeGhO 25 rfl rfl g10_9 (.pickFh g10_12) (by kernel_rfl) ?_
            refine RA.takeO 26 rfl (.pickTh g10_9) (by kernel_rfl) ?_
            refine RA.takeO 27 rfl .assign (by kernel_rfl) ?_
            refine RA.nil (by kernel_rfl) ?_
            refine blkQ_n (seqQ_n ?_)
            refine .region ?_
            refine TriOps.q .move ?_
            refine TriOps.q (.i64 ((j + 1 : Nat) : Int) .add ⟨by omega, by omega, by omega⟩) ?_
            refine TriOps.q .assign ?_
            refine .nil ?_
            exact loopQ_i (j + 1) (by omega) (by omega) (by simp only [hv]; exact (((EnvLe.nil _).cons rfl).cons rfl).cons rfl) (HLe.refl _)
        · skip
          have hv : (decide ((qs.length : Int) ≤ 64) && okP (clis qs) (j + 1)) = false := by
            have hst : stepL (clis qs) j = false := Bool.eq_false_iff.2 fun hh => by
              have := (stepL_some hzc hh).1
              rw [this] at g10_9; cases g10_9
            rw [okP_succ, hst, Bool.and_false, Bool.and_false]
          refine RA.takeFh 10 rfl rfl g10_9 rfl (by kernel_rfl) ?_
          refine RA.takeFh 11 rfl rfl g10_9 rfl (by kernel_rfl) ?_
          refine RA.takeFh 12 rfl rfl g10_9 rfl (by kernel_rfl) ?_
          refine RA.takeU 13 rfl rfl (by kernel_rfl) ?_
          refine RA.takeU 14 rfl rfl (by kernel_rfl) ?_
          refine RA.takeU 15 rfl rfl (by kernel_rfl) ?_
          refine RA.takeU 16 rfl rfl (by kernel_rfl) ?_
          refine RA.takeU 17 rfl rfl (by kernel_rfl) ?_
          refine RA.takeU 18 rfl rfl (by kernel_rfl) ?_
          refine RA.takeU 19 rfl rfl (by kernel_rfl) ?_
          refine RA.takeU 20 rfl rfl (by kernel_rfl) ?_
          refine RA.takeU 21 rfl rfl (by kernel_rfl) ?_
          refine RA.takeU 22 rfl rfl (by kernel_rfl) ?_
          refine RA.takeU 23 rfl rfl (by kernel_rfl) ?_
          refine RA.takeU 24 rfl rfl (by kernel_rfl) ?_
          refine RA.takeFh 25 rfl rfl g10_9 rfl (by kernel_rfl) ?_
          refine RA.takeO 26 rfl (.pickFh g10_9) (by kernel_rfl) ?_
          refine RA.takeO 27 rfl .assign (by kernel_rfl) ?_
          refine RA.nil (by kernel_rfl) ?_
          refine blkQ_n (seqQ_n ?_)
          refine .region ?_
          refine TriOps.q .move ?_
          refine TriOps.q (.i64 ((j + 1 : Nat) : Int) .add ⟨by omega, by omega, by omega⟩) ?_
          refine TriOps.q .assign ?_
          refine .nil ?_
          exact loopQ_i (j + 1) (by omega) (by omega) (by simp only [hv]; exact (((EnvLe.nil _).cons rfl).cons rfl).cons rfl) (HLe.refl _)
      · skip
        have hv : (decide ((qs.length : Int) ≤ 64) && okP (clis qs) (j + 1)) = false := by rw [okP_succ, ← Bool.and_assoc, g10_1, Bool.false_and]
        refine RA.takeFh 2 rfl rfl g10_1 rfl (by kernel_rfl) ?_
        refine RA.takeFh 3 rfl rfl g10_1 rfl (by kernel_rfl) ?_
        refine RA.takeFh 4 rfl rfl g10_1 rfl (by kernel_rfl) ?_
        refine RA.takeFh 5 rfl rfl g10_1 rfl (by kernel_rfl) ?_
        refine RA.step 6 rfl (by kernel_rfl) rfl ?_
        refine TriOps.gF g10_1 ?_
        refine .nil (Next.sub ?_)
        refine RA.takeFh 7 rfl rfl g10_1 rfl (by kernel_rfl) ?_
        refine RA.takeO 8 rfl (.pickFh g10_1) (by kernel_rfl) ?_
        refine RA.takeO 9 rfl .move (by kernel_rfl) ?_
        refine RA.takeF 10 rfl rfl rfl (by kernel_rfl) ?_
        refine RA.takeF 11 rfl rfl rfl (by kernel_rfl) ?_
        refine RA.takeF 12 rfl rfl rfl (by kernel_rfl) ?_
        refine RA.takeU 13 rfl rfl (by kernel_rfl) ?_
        refine RA.takeU 14 rfl rfl (by kernel_rfl) ?_
        refine RA.takeU 15 rfl rfl (by kernel_rfl) ?_
        refine RA.takeU 16 rfl rfl (by kernel_rfl) ?_
        refine RA.takeU 17 rfl rfl (by kernel_rfl) ?_
        refine RA.takeU 18 rfl rfl (by kernel_rfl) ?_
        refine RA.takeU 19 rfl rfl (by kernel_rfl) ?_
        refine RA.takeU 20 rfl rfl (by kernel_rfl) ?_
        refine RA.takeU 21 rfl rfl (by kernel_rfl) ?_
        refine RA.takeU 22 rfl rfl (by kernel_rfl) ?_
        refine RA.takeU 23 rfl rfl (by kernel_rfl) ?_
        refine RA.takeU 24 rfl rfl (by kernel_rfl) ?_
        refine RA.takeF 25 rfl rfl rfl (by kernel_rfl) ?_
        refine RA.takeO 26 rfl .pickF (by kernel_rfl) ?_
        refine RA.takeO 27 rfl .assign (by kernel_rfl) ?_
        refine RA.nil (by kernel_rfl) ?_
        refine blkQ_n (seqQ_n ?_)
        refine .region ?_
        refine TriOps.q .move ?_
        refine TriOps.q (.i64 ((j + 1 : Nat) : Int) .add ⟨by omega, by omega, by omega⟩) ?_
        refine TriOps.q .assign ?_
        refine .nil ?_
        exact loopQ_i (j + 1) (by omega) (by omega) (by simp only [hv]; exact (((EnvLe.nil _).cons rfl).cons rfl).cons rfl) (HLe.refl _)
    · skip
      have hjq : j = qs.length := by have := of_decide_eq_false h2; omega
      have hokl : (decide ((qs.length : Int) ≤ 64) && okP (clis qs) j) = okL (clis qs) := by
        unfold okL
        rw [hcl, hjq]
        congr 1
        rw [Bool.eq_iff_iff, decide_eq_true_eq, decide_eq_true_eq]; omega
      rw [hokl]
      clear hokl hjq
      refine .exit (seqQ_x (loopQ_x (blkQ_x ?_)))
      refine seqQ_n ?_
      refine .seq ?_
      refine .region ?_
      refine TriOps.q .move ?_
      refine TriOps.callN (load_spec vi qs _ hO.rx (hqc.mono fun b o hb => .inr (by have hb' : (b, o) ∈ Td := hb; simp [hb'])) hqf) (fun u T1 hu => ?_)
      obtain ⟨pv, ev, rfl, hpe⟩ : ∃ pv ev, u = .tuple [pv, .int .i64 ev].toArray ∧ ((okL (clis qs) = true ∧ ev = 0 ∧ ∃ g, pv = .pointer (some ⟨g, 0, none⟩) ∧ RI g (clis qs) T1) ∨ (okL (clis qs) = false ∧ ev = 4 ∧ pv = .pointer none)) := by
        rcases hu with ⟨h1, g, rfl, h2⟩ | ⟨h1, rfl⟩
        · exact ⟨_, _, rfl, .inl ⟨h1, rfl, g, rfl, h2⟩⟩
        · exact ⟨_, _, rfl, .inr ⟨h1, rfl, rfl⟩⟩
      have i5 : One pv := by rcases hpe with ⟨_, _, g, rfl, _⟩ | ⟨_, _, rfl⟩ <;> infer_instance
      refine TriOps.q .move ?_
      refine TriOps.q .extract ?_
      refine TriOps.q .extract ?_
      refine TriOps.q .assign ?_
      refine TriOps.q .assign ?_
      refine .nil ?_
      refine seqQ_n ?_
      refine .seq ?_
      refine .seq ?_
      refine .region ?_
      refine TriOps.q .move ?_
      refine TriOps.q .not ?_
      refine .nil ?_
      refine seqQ_n ?_
      refine .cond rfl (fun h3 => ?_) (fun h3 => ?_)
      · skip
        have hno : okL (clis qs) = false := by simpa using h3
        obtain ⟨rfl, rfl⟩ : ev = 4 ∧ pv = .pointer none := by
          rcases hpe with ⟨h1, _⟩ | ⟨_, h1, h2⟩
          · rw [hno] at h1; cases h1
          · exact ⟨h1, h2⟩
        refine .seq ?_
        refine .region ?_
        refine TriOps.q .move ?_
        refine TriOps.q (.eqNilA rfl rfl) ?_
        refine TriOps.q .move ?_
        refine TriOps.gt rfl ?_
        refine TriOps.q .move ?_
        refine TriOps.gt rfl ?_
        refine TriOps.q .eqI ?_
        refine TriOps.q .pickT ?_
        refine TriOps.q .move ?_
        refine TriOps.split (t := 76) rfl (fun g13_6 => ?_) (fun g13_6 => ?_)
        · skip
          refine TriOps.gT g13_6 ?_
          refine TriOps.callR (clives_spec _) (fun w hw => ?_)
          subst hw
          refine TriOps.q (.pickTh g13_6) ?_
          refine TriOps.q .assign ?_
          refine .nil ?_
          refine seqQ_n ?_
          refine .ret (seqQ_r (retQ_r _ (.one (.tmp rfl)) (.none _) ?_))
          exact ⟨rfl, rfl⟩
        · skip
          simp at g13_6
      · skip
        have hyes : okL (clis qs) = true := by simpa using h3
        obtain ⟨rfl, g, rfl, hI⟩ : ev = 0 ∧ ∃ g, pv = .pointer (some ⟨g, 0, none⟩) ∧ RI g (clis qs) T1 := by
          rcases hpe with ⟨_, h1, h2⟩ | ⟨h1, _⟩
          · exact ⟨h1, h2⟩
          · rw [hyes] at h1; cases h1
        have hyes2 := hyes
        simp only [okL, Bool.and_eq_true, decide_eq_true_eq] at hyes2
        refine .skip ?_
        refine seqQ_n ?_
        refine .seq ?_
        refine .region ?_
        refine TriOps.q .move ?_
        refine TriOps.q .eqI ?_
        refine TriOps.q .move ?_
        refine TriOps.split (t := 81) rfl (fun g14_2 => ?_) (fun g14_2 => ?_)
        · skip
          refine TriOps.gT g14_2 ?_
          refine TriOps.q .move ?_
          refine TriOps.gT g14_2 ?_
          refine TriOps.callN (clist_spec g (clis qs) T1 hI (by omega) _ (fun p hp => .inr (by simp [hp]))) (fun w2 T2 hw => ?_)
          obtain ⟨ys, Ty, Td2, rfl, hO2, hyc, hyp, hys⟩ := hw
          have hsame : clis ys = clis qs := okP_uniq hyes2.2 hyp (by
            rw [List.pairwise_map]
            exact hys.imp_of_mem fun {a b} ha hb hab => by rw [ltc_ccmp, (hyc a ha).id, (hyc b hb).id] at hab; exact hab)
          refine TriOps.gT g14_2 ?_
          refine TriOps.q .move ?_
          refine TriOps.gT g14_2 ?_
          refine TriOps.callR (sameAll_spec _ _ ys qs _ (hO2.rs fun p hp => .inr (by simp [hp])) (hO.rs fun p hp => .inr (by simp [hp])) (CL.mono hyc fun b o hb => .inr (by have hb' : (b, o) ∈ Td2 := hb; simp [hb'])) (hqc.mono fun b o hb => .inr (by have hb' : (b, o) ∈ Td := hb; simp [hb']))) (fun w hw => ?_)
          rw [hsame, decide_eq_true rfl] at hw
          subst hw
          refine TriOps.q (.pickTh g14_2) ?_
          refine TriOps.q .move ?_
          refine TriOps.split (t := 87) rfl (fun g14_8 => ?_) (fun g14_8 => ?_)
          · skip
            refine TriOps.gT g14_8 ?_
            refine TriOps.callR (clives_spec _) (fun w hw => ?_)
            subst hw
            refine TriOps.q (.pickTh g14_8) ?_
            refine TriOps.q .assign ?_
            refine .nil ?_
            refine seqQ_n ?_
            refine .ret (retQ_r _ (.one (.tmp rfl)) (.none _) ?_)
            exact ⟨rfl, rfl⟩
          · skip
            simp at g14_8
        · skip
          simp at g14_2
end Go.Proofs.Ytlmdgdehjpahiaa
