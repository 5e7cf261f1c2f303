/- Clients: Load. No condition. -/
import Derived.Test.YtlmdgdehjpahiaaCliK
set_option linter.unusedVariables false
set_option maxRecDepth 4000
namespace Go.Proofs.Ytlmdgdehjpahiaa

theorem bne_zero_absurd {x : Int} (h : (x != 0) = true) (h' : x = 0) : False := by subst h'; cases h
theorem load_spec (v : Value) (ps : List CP) (R : Rds) (h : RS R 4 encC v ps) (hc : CL R ps) (hf : ∀ p ∈ ps, p.2.fits ∧ p.2.few) :
    Spec Try.prog 44 [v] R [] fun u H' => ∃ T, H' = [T] ∧ ((okL (clis ps) = true ∧ ∃ g, u = .tuple [.pointer (some ⟨g, 0, none⟩), .int .i64 0].toArray ∧ RI g (clis ps) T) ∨ (okL (clis ps) = false ∧ u = .tuple [.pointer none, .int .i64 4].toArray)) := by
  have hle := h.le
  have hcl : (clis ps).length = ps.length := by simp [clis]
  refine Spec.body Try.func44 rfl Try.results44 Try.ntmps44 rfl ?_
  refine .seq ?_
  refine .region ?_
  refine TriOps.q .assign ?_
  refine TriOps.q .assign ?_
  refine .nil ?_
  refine seqQ_n ?_
  refine .seq ?_
  refine .region ?_
  refine TriOps.callN (cnew_spec _) (fun u T0 hu => ?_)
  obtain ⟨g, rfl, hg0⟩ := hu
  refine TriOps.q .assign ?_
  refine .nil ?_
  refine seqQ_n ?_
  refine .seq ?_
  refine .seq ?_
  refine .region ?_
  refine TriOps.q .move ?_
  refine TriOps.q (.lenR h) ?_
  refine TriOps.q .move ?_
  refine .nil ?_
  refine seqQ_n ?_
  refine .block ?_
  refine .loop (X := Nat × Seg) (fun y => (y.1 ≤ ps.length ∧ y.1 ≤ 64) ∧ okP (clis ps) y.1 = true ∧ RI g ((clis ps).take y.1) y.2) (fun y => [(0, v), (4, .pointer (some ⟨g, 0, none⟩)), (8, v), (9, .int .i64 (ps.length : Nat)), (10, .int .i64 (y.1 : Nat))]) (fun y => [y.2]) (fun y => ps.length - y.1) (0, T0) ⟨⟨by omega, by omega⟩, rfl, hg0⟩ ((((((EnvLe.nil _).cons rfl).cons rfl).cons rfl).cons rfl).cons rfl) (HLe.refl _) ?_
  rintro ⟨i, T⟩ ⟨⟨hi, hi64⟩, hok, hI⟩
  simp only at hi hi64 hok hI ⊢
  refine .seq ?_
  refine .region ?_
  refine TriOps.q .lss ?_
  refine .nil ?_
  refine seqQ_n ?_
  refine .seq ?_
  refine .cond rfl (fun h1 => ?_) (fun h1 => ?_)
  · skip
    have hlt : i < ps.length := by have := of_decide_eq_true h1; omega
    obtain ⟨z, hz⟩ : ∃ z, ps[i]? = some z := ⟨_, List.getElem?_eq_getElem hlt⟩
    have cz := hc z (List.mem_of_getElem? hz)
    have fz := hf z (List.mem_of_getElem? hz)
    have iz : Ones (encC z) := ⟨cz.ones⟩
    have hzc : (clis ps)[i]? = some z.2 := by simp [clis, hz]
    refine .skip ?_
    refine seqQ_n ?_
    refine .seq ?_
    refine .block ?_
    refine .seq ?_
    refine .region ?_
    refine TriOps.q .move ?_
    refine TriOps.indexR i h hz (fun p13 => ?_)
    refine TriOps.q (.loadA rfl) ?_
    refine TriOps.allocA (fun b6 => ?_)
    refine TriOps.q .assign ?_
    refine TriOps.storeA rfl rfl ?_
    refine .nil ?_
    refine seqQ_n ?_
    refine .seq ?_
    refine .region_tail 16 mixed (by kernel_rfl) ?_
    conv => arg 6; dsimp only [List.take]
    refine TriOps.q .move ?_
    refine TriOps.q .gtr ?_
    refine TriOps.q .move ?_
    refine TriOps.split (t := 17) rfl (fun g5_2 => ?_) (fun g5_2 => ?_)
    · skip
      have hi1 : 0 < i := by have := of_decide_eq_true g5_2; omega
      obtain ⟨w, hw⟩ : ∃ z, ps[i - 1]? = some z := ⟨_, List.getElem?_eq_getElem (by omega)⟩
      have cw := hc w (List.mem_of_getElem? hw)
      have iw : Ones (encC w) := ⟨cw.ones⟩
      have hwc : (clis ps)[i - 1]? = some w.2 := by simp [clis, hw]
      refine TriOps.gT g5_2 ?_
      refine TriOps.q .move ?_
      refine TriOps.gT g5_2 ?_
      refine TriOps.q .move ?_
      refine TriOps.gT g5_2 ?_
      refine TriOps.q (.i64 ((i - 1 : Nat) : Int) .sub ⟨by omega, by omega, by omega⟩) ?_
      refine TriOps.gT g5_2 ?_
      refine TriOps.indexR (i - 1) h hw (fun p21 => ?_)
      refine TriOps.gT g5_2 ?_
      refine TriOps.q (.fieldAddr rfl) ?_
      refine TriOps.gT g5_2 ?_
      refine TriOps.q (.load1 rfl) ?_
      refine TriOps.gT g5_2 ?_
      refine TriOps.q (.fieldAddr rfl) ?_
      refine TriOps.gT g5_2 ?_
      refine TriOps.q (.load1 rfl) ?_
      refine TriOps.gT g5_2 ?_
      refine TriOps.q .geS ?_
      refine TriOps.q (.pickTh g5_2) ?_
      refine TriOps.q .move ?_
      refine TriOps.split (t := 28) rfl (fun g5_13 => ?_) (fun g5_13 => ?_)
      · skip
        have hbad : okL (clis ps) = false := by
          cases hh : okL (clis ps) with
          | false => rfl
          | true =>
            exfalso
            rcases (stepL_some hzc (okL_add hh hzc).1).2 with h0 | ⟨d, hd, hs⟩
            · omega
            · rw [hwc] at hd; cases hd
              rw [cw.id, cz.id, hs] at g5_13
              cases g5_13
        refine TriOps.gF g5_13 ?_
        refine TriOps.gF g5_13 ?_
        refine .nil ?_
        refine TriOps.gF g5_13 ?_
        refine TriOps.gF g5_13 ?_
        refine TriOps.q (.pickTh g5_13) ?_
        refine .nil ?_
        refine seqQ_n ?_
        refine .condT ?_
        first | have hbad : okL (clis ps) = false := Bool.eq_false_iff.2 fun hh => bne_zero_absurd h2 (congrArg Prod.fst (okL_add hh hzc).2) | skip
        refine .seq ?_
        refine .region ?_
        refine TriOps.q .assign ?_
        refine TriOps.q .assign ?_
        refine .nil ?_
        refine seqQ_n ?_
        refine .ret (blkQ_r (seqQ_r (loopQ_r (blkQ_r (seqQ_r (retQ_r _ (.two (.tmp rfl) (.tmp rfl)) (.one [0] _) ?_))))))
        exact ⟨_, rfl, .inr ⟨hbad, rfl⟩⟩
      · skip
        have haS : i = 0 ∨ ∃ d, (clis ps)[i - 1]? = some d ∧ sLt d.id z.2.id = true := .inr ⟨w.2, hwc, by rw [← cw.id, ← cz.id]; simpa using g5_13⟩
        refine TriOps.gT g5_13 ?_
        refine TriOps.q .move ?_
        refine TriOps.gT g5_13 ?_
        refine TriOps.q (.loadA rfl) ?_
        refine .nil ?_
        refine TriOps.gT g5_13 ?_
        refine TriOps.callM (cadd_spec g _ T hI z.1 z.2 _ cz fz.1 fz.2) (fun u T2 hu => ?_)
        obtain ⟨rfl, hI2⟩ := hu
        refine TriOps.gT g5_13 ?_
        refine TriOps.q .neI ?_
        refine TriOps.q (.pickFh g5_13) ?_
        refine .nil ?_
        refine seqQ_n ?_
        refine .cond rfl (fun h2 => ?_) (fun h2 => ?_)
        · skip
          first | have hbad : okL (clis ps) = false := Bool.eq_false_iff.2 fun hh => bne_zero_absurd h2 (congrArg Prod.fst (okL_add hh hzc).2) | skip
          refine .seq ?_
          refine .region ?_
          refine TriOps.q .assign ?_
          refine TriOps.q .assign ?_
          refine .nil ?_
          refine seqQ_n ?_
          refine .ret (blkQ_r (seqQ_r (loopQ_r (blkQ_r (seqQ_r (retQ_r _ (.two (.tmp rfl) (.tmp rfl)) (.one [0] _) ?_))))))
          exact ⟨_, rfl, .inr ⟨hbad, rfl⟩⟩
        · skip
          have hz0 : (cadd ((clis ps).take i) z.2).1 = 0 := by simpa using h2
          obtain ⟨e1, e2, e3⟩ := cadd_zero hz0
          rw [e1] at hI2
          have hs := stepL_of hzc e2 haS
          rw [List.length_take, hcl] at e3
          refine .skip ?_
          refine blkQ_n (seqQ_n ?_)
          refine .region ?_
          refine TriOps.q (.i64 ((i + 1 : Nat) : Int) .add ⟨by omega, by omega, by omega⟩) ?_
          refine TriOps.q .move ?_
          refine .nil ?_
          exact loopQ_i (i + 1, T2) ⟨⟨by simp only; omega, by simp only; omega⟩, by rw [okP_succ, hok, hs]; rfl, by rw [List.take_add_one, hzc]; exact hI2⟩ (by simp only; omega) ((((((EnvLe.nil _).cons rfl).cons rfl).cons rfl).cons rfl).cons rfl) (HLe.pick [1] _)
    · skip
      have haS : i = 0 ∨ ∃ d, (clis ps)[i - 1]? = some d ∧ sLt d.id z.2.id = true := .inl (by have := of_decide_eq_false g5_2; omega)
      refine TriOps.gF g5_2 ?_
      refine TriOps.gF g5_2 ?_
      refine TriOps.gF g5_2 ?_
      refine TriOps.gF g5_2 ?_
      refine TriOps.gF g5_2 ?_
      refine TriOps.gF g5_2 ?_
      refine TriOps.gF g5_2 ?_
      refine TriOps.gF g5_2 ?_
      refine TriOps.gF g5_2 ?_
      refine TriOps.q (.pickFh g5_2) ?_
      refine TriOps.q .move ?_
      refine TriOps.gt rfl ?_
      refine TriOps.q .move ?_
      refine TriOps.gt rfl ?_
      refine TriOps.q (.loadA rfl) ?_
      refine .nil ?_
      refine TriOps.gt rfl ?_
      refine TriOps.callM (cadd_spec g _ T hI z.1 z.2 _ cz fz.1 fz.2) (fun u T2 hu => ?_)
      obtain ⟨rfl, hI2⟩ := hu
      refine TriOps.gt rfl ?_
      refine TriOps.q .neI ?_
      refine TriOps.q .pickF ?_
      refine .nil ?_
      refine seqQ_n ?_
      refine .cond rfl (fun h2 => ?_) (fun h2 => ?_)
      · skip
        first | have hbad : okL (clis ps) = false := Bool.eq_false_iff.2 fun hh => bne_zero_absurd h2 (congrArg Prod.fst (okL_add hh hzc).2) | skip
        refine .seq ?_
        refine .region ?_
        refine TriOps.q .assign ?_
        refine TriOps.q .assign ?_
        refine .nil ?_
        refine seqQ_n ?_
        refine .ret (blkQ_r (seqQ_r (loopQ_r (blkQ_r (seqQ_r (retQ_r _ (.two (.tmp rfl) (.tmp rfl)) (.one [0] _) ?_))))))
        exact ⟨_, rfl, .inr ⟨hbad, rfl⟩⟩
      · skip
        have hz0 : (cadd ((clis ps).take i) z.2).1 = 0 := by simpa using h2
        obtain ⟨e1, e2, e3⟩ := cadd_zero hz0
        rw [e1] at hI2
        have hs := stepL_of hzc e2 haS
        rw [List.length_take, hcl] at e3
        refine .skip ?_
        refine blkQ_n (seqQ_n ?_)
        refine .region ?_
        refine TriOps.q (.i64 ((i + 1 : Nat) : Int) .add ⟨by omega, by omega, by omega⟩) ?_
        refine TriOps.q .move ?_
        refine .nil ?_
        exact loopQ_i (i + 1, T2) ⟨⟨by simp only; omega, by simp only; omega⟩, by rw [okP_succ, hok, hs]; rfl, by rw [List.take_add_one, hzc]; exact hI2⟩ (by simp only; omega) ((((((EnvLe.nil _).cons rfl).cons rfl).cons rfl).cons rfl).cons rfl) (HLe.pick [1] _)
  · skip
    refine .exit (seqQ_x (loopQ_x (blkQ_x ?_)))
    refine seqQ_n ?_
    refine .seq ?_
    refine .region ?_
    refine TriOps.q .move ?_
    refine TriOps.q .assign ?_
    refine TriOps.q .assign ?_
    refine .nil ?_
    refine seqQ_n ?_
    refine .ret (retQ_r _ (.two (.tmp rfl) (.tmp rfl)) (.one [0] _) ?_)
    have he : i = ps.length := by have := of_decide_eq_false h1; omega
    subst he
    refine ⟨T, by simp [take], .inl ⟨?_, g, rfl, ?_⟩⟩
    · unfold okL
      rw [hcl, hok, decide_eq_true hi64]; rfl
    · rw [List.take_of_length_le (by omega)] at hI
      exact hI
end Go.Proofs.Ytlmdgdehjpahiaa
