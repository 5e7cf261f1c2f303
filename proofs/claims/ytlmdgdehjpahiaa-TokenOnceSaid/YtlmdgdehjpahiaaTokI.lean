/- Tokens: the document's Right; whether a vault has what the document's has. No condition. -/
import Derived.Test.YtlmdgdehjpahiaaTokH
set_option linter.unusedVariables false
set_option maxRecDepth 4000
namespace Go.Proofs.Ytlmdgdehjpahiaa
theorem rright_spec (v : Value) (ps : List TP) (last : Int) (R : Rds) (h : RS R 9 encT v ps) (hc : ∀ p ∈ ps, TokR R p) :
    Spec Try.prog 41 [v, .int .i64 last] R [] fun u H' => u = .bool (rightL (toks ps) last) ∧ H' = [] := by
  have hle := h.le
  have htl : (toks ps).length = ps.length := by simp
  obtain ⟨pv, kv_, rfl⟩ := h.val
  refine Spec.body Try.func41 rfl Try.results41 Try.ntmps41 rfl ?_
  refine .seq ?_
  refine .region ?_
  refine TriOps.q .assign ?_
  refine .nil ?_
  refine seqQ_n ?_
  refine .seq ?_
  refine .seq ?_
  refine .region ?_
  refine TriOps.q .move ?_
  refine TriOps.q (.lenR h) ?_
  refine TriOps.q .gtr ?_
  refine TriOps.q .move ?_
  refine TriOps.split (t := 10) rfl (fun g1_3 => ?_) (fun g1_3 => ?_)
  · skip
    refine TriOps.gF g1_3 ?_
    refine TriOps.gF g1_3 ?_
    refine TriOps.q (.pickTh g1_3) ?_
    refine TriOps.q .move ?_
    refine TriOps.gf rfl rfl ?_
    refine TriOps.gf rfl rfl ?_
    refine TriOps.q .pickT ?_
    refine .nil ?_
    refine seqQ_n ?_
    refine .condT ?_
    have hbad : rightL (toks ps) last = false := by
      unfold rightL
      first
        | (rw [decide_eq_false (p := (toks ps).length ≤ 4096) (by have h9 := of_decide_eq_true g1_3; omega), Bool.false_and, Bool.false_and, Bool.false_and]; done)
        | (rw [decide_eq_false (p := 0 ≤ last) (by have h9 := of_decide_eq_true g1_7; omega), Bool.and_false, Bool.false_and, Bool.false_and]; done)
        | (rw [decide_eq_false (p := last ≤ 1099511627776) (by have h9 := of_decide_eq_true h1; omega), Bool.and_false, Bool.false_and])
    refine .seq ?_
    refine .region ?_
    refine TriOps.q .assign ?_
    refine .nil ?_
    refine seqQ_n ?_
    refine .ret (seqQ_r (retQ_r _ (.one (.tmp rfl)) (.none _) ?_))
    first
      | exact ⟨by rw [hgood], rfl⟩
      | exact ⟨by rw [hbad], rfl⟩
  · skip
    refine TriOps.gT g1_3 ?_
    refine TriOps.q .move ?_
    refine TriOps.gT g1_3 ?_
    refine TriOps.q .lss ?_
    refine TriOps.q (.pickFh g1_3) ?_
    refine TriOps.q .move ?_
    refine TriOps.split (t := 14) rfl (fun g1_7 => ?_) (fun g1_7 => ?_)
    · skip
      refine TriOps.gF g1_7 ?_
      refine TriOps.gF g1_7 ?_
      refine TriOps.q (.pickTh g1_7) ?_
      refine .nil ?_
      refine seqQ_n ?_
      refine .condT ?_
      have hbad : rightL (toks ps) last = false := by
        unfold rightL
        first
          | (rw [decide_eq_false (p := (toks ps).length ≤ 4096) (by have h9 := of_decide_eq_true g1_3; omega), Bool.false_and, Bool.false_and, Bool.false_and]; done)
          | (rw [decide_eq_false (p := 0 ≤ last) (by have h9 := of_decide_eq_true g1_7; omega), Bool.and_false, Bool.false_and, Bool.false_and]; done)
          | (rw [decide_eq_false (p := last ≤ 1099511627776) (by have h9 := of_decide_eq_true h1; omega), Bool.and_false, Bool.false_and])
      refine .seq ?_
      refine .region ?_
      refine TriOps.q .assign ?_
      refine .nil ?_
      refine seqQ_n ?_
      refine .ret (seqQ_r (retQ_r _ (.one (.tmp rfl)) (.none _) ?_))
      first
        | exact ⟨by rw [hgood], rfl⟩
        | exact ⟨by rw [hbad], rfl⟩
    · skip
      refine TriOps.gT g1_7 ?_
      refine TriOps.q .move ?_
      refine TriOps.gT g1_7 ?_
      refine TriOps.q .gtr ?_
      refine TriOps.q (.pickFh g1_7) ?_
      refine .nil ?_
      refine seqQ_n ?_
      refine .cond rfl (fun h1 => ?_) (fun h1 => ?_)
      · skip
        have hbad : rightL (toks ps) last = false := by
          unfold rightL
          first
            | (rw [decide_eq_false (p := (toks ps).length ≤ 4096) (by have h9 := of_decide_eq_true g1_3; omega), Bool.false_and, Bool.false_and, Bool.false_and]; done)
            | (rw [decide_eq_false (p := 0 ≤ last) (by have h9 := of_decide_eq_true g1_7; omega), Bool.and_false, Bool.false_and, Bool.false_and]; done)
            | (rw [decide_eq_false (p := last ≤ 1099511627776) (by have h9 := of_decide_eq_true h1; omega), Bool.and_false, Bool.false_and])
        refine .seq ?_
        refine .region ?_
        refine TriOps.q .assign ?_
        refine .nil ?_
        refine seqQ_n ?_
        refine .ret (seqQ_r (retQ_r _ (.one (.tmp rfl)) (.none _) ?_))
        first
          | exact ⟨by rw [hgood], rfl⟩
          | exact ⟨by rw [hbad], rfl⟩
      · skip
        have g1 := of_decide_eq_false g1_3
        have g2 := of_decide_eq_false g1_7
        have g3 := of_decide_eq_false h1
        refine .skip ?_
        refine seqQ_n ?_
        refine .seq ?_
        refine .seq ?_
        refine .region ?_
        refine TriOps.q .assign ?_
        refine .nil ?_
        refine seqQ_n ?_
        refine .block ?_
        refine .loop (X := Nat) (fun i => i ≤ ps.length ∧ okN (stepQ (toks ps) last) i = true) (fun i => [(0, .slice pv ps.length kv_), (1, .int .i64 last), (5, .int .i64 (i : Nat))]) (fun _ => []) (fun i => ps.length - i) 0 ⟨by omega, rfl⟩ ((((EnvLe.nil _).cons rfl).cons rfl).cons rfl) (HLe.refl _) ?_
        rintro i ⟨hi, hok⟩
        refine .seq ?_
        refine .seq ?_
        refine .region ?_
        refine TriOps.q .move ?_
        refine TriOps.q .move ?_
        refine TriOps.q (.lenR h) ?_
        refine TriOps.q .lss ?_
        refine .nil ?_
        refine seqQ_n ?_
        refine .cond rfl (fun h2 => ?_) (fun h2 => ?_)
        · skip
          have hlt : i < ps.length := by have := of_decide_eq_true h2; omega
          obtain ⟨⟨wz, tz⟩, hz⟩ : ∃ z, ps[i]? = some z := ⟨_, List.getElem?_eq_getElem hlt⟩
          have cz := hc _ (List.mem_of_getElem? hz)
          have iz : Ones (encT (wz, tz)) := ⟨cz.ones⟩
          have hzt : (toks ps)[i]? = some tz := by simp [hz]
          refine .skip ?_
          refine seqQ_n ?_
          refine .seq ?_
          refine .block ?_
          refine .seq ?_
          refine .region ?_
          refine TriOps.q .move ?_
          refine TriOps.q .move ?_
          refine TriOps.indexR i h hz (fun p26 => ?_)
          refine TriOps.q (.loadA rfl) ?_
          refine TriOps.allocA (fun b6 => ?_)
          refine TriOps.storeA rfl rfl ?_
          refine .nil ?_
          refine seqQ_n ?_
          refine .seq ?_
          refine .region_still mixed (by kernel_rfl) ?_
          refine TriOps.q (.fieldAddr rfl) ?_
          refine TriOps.q (.load1 rfl) ?_
          refine TriOps.q .neI ?_
          refine TriOps.q .move ?_
          refine TriOps.split (t := 31) rfl (fun g7_3 => ?_) (fun g7_3 => ?_)
          · skip
            refine TriOps.gT g7_3 ?_
            refine TriOps.q (.fieldAddr rfl) ?_
            refine TriOps.gT g7_3 ?_
            refine TriOps.q (.load1 rfl) ?_
            refine TriOps.gT g7_3 ?_
            refine TriOps.q .neI ?_
            refine TriOps.q (.pickTh g7_3) ?_
            refine TriOps.q .move ?_
            refine TriOps.split (t := 36) rfl (fun g7_8 => ?_) (fun g7_8 => ?_)
            · skip
              refine TriOps.gF g7_8 ?_
              refine TriOps.gF g7_8 ?_
              refine TriOps.gF g7_8 ?_
              refine TriOps.gfU rfl ?_
              refine TriOps.gfU rfl ?_
              refine TriOps.gfU rfl ?_
              refine TriOps.gF g7_8 ?_
              refine TriOps.q (.pickTh g7_8) ?_
              refine TriOps.q .move ?_
              refine TriOps.gf rfl rfl ?_
              refine TriOps.gf rfl rfl ?_
              refine TriOps.gf rfl rfl ?_
              refine TriOps.q .pickT ?_
              refine TriOps.q .move ?_
              refine TriOps.gf rfl rfl ?_
              refine TriOps.gf rfl rfl ?_
              refine TriOps.gf rfl rfl ?_
              refine TriOps.gf rfl rfl ?_
              refine TriOps.q .pickT ?_
              refine TriOps.q .move ?_
              refine TriOps.gf rfl rfl ?_
              refine TriOps.gf rfl rfl ?_
              refine TriOps.gf rfl rfl ?_
              refine TriOps.gfU rfl ?_
              refine TriOps.gfU rfl ?_
              refine TriOps.gfU rfl ?_
              refine TriOps.gfU rfl ?_
              refine TriOps.gfU rfl ?_
              refine TriOps.gfU rfl ?_
              refine TriOps.gfU rfl ?_
              refine TriOps.gfU rfl ?_
              refine TriOps.gfU rfl ?_
              refine TriOps.gf rfl rfl ?_
              refine TriOps.q .pickT ?_
              refine .nil ?_
              refine seqQ_n ?_
              refine .condT ?_
              have hbad : rightL (toks ps) last = false := rightL_not hzt fun ⟨h9, h8, h7⟩ => by
                first
                  | (rcases h7 with h7 | ⟨u, h6, h5⟩
                     · omega
                     · rw [hyt] at h6; cases h6
                       have h3' : (!sLt ty.text tz.text) = true := h3
                       rw [h5] at h3'; cases h3')
                  | (unfold rightB at h9
                     simp only [Bool.and_eq_true, Bool.or_eq_true, beq_iff_eq, decide_eq_true_eq] at h9
                     obtain ⟨⟨h9a, h9b⟩, h9c⟩ := h9
                     clear hok hi
                     simp_all <;> omega)
              refine .seq ?_
              refine .region ?_
              refine TriOps.q .assign ?_
              refine .nil ?_
              refine seqQ_n ?_
              refine .ret (blkQ_r (seqQ_r (loopQ_r (blkQ_r (seqQ_r (retQ_r _ (.one (.tmp rfl)) (.none _) ?_))))))
              first
                | exact ⟨by rw [hgood], rfl⟩
                | exact ⟨by rw [hbad], rfl⟩
            · skip
              refine TriOps.gT g7_8 ?_
              refine TriOps.q (.fieldAddr rfl) ?_
              refine TriOps.gT g7_8 ?_
              refine TriOps.q (.load1 rfl) ?_
              refine TriOps.gT g7_8 ?_
              refine TriOps.q .move ?_
              refine TriOps.split (t := 39) rfl (fun g7_11 => ?_) (fun g7_11 => ?_)
              · skip
                refine TriOps.gT g7_11 ?_
                refine TriOps.q (.fieldAddr rfl) ?_
                refine TriOps.gT g7_11 ?_
                refine TriOps.q (.load1 rfl) ?_
                refine TriOps.gT g7_11 ?_
                refine TriOps.q .eqI ?_
                refine TriOps.gT g7_8 ?_
                refine TriOps.q (.pickTh g7_11) ?_
                refine TriOps.q (.pickFh g7_8) ?_
                refine TriOps.q .move ?_
                refine TriOps.split (t := 45) rfl (fun g7_17 => ?_) (fun g7_17 => ?_)
                · skip
                  refine TriOps.gF g7_17 ?_
                  refine TriOps.gF g7_17 ?_
                  refine TriOps.gF g7_17 ?_
                  refine TriOps.q (.pickTh g7_17) ?_
                  refine TriOps.q .move ?_
                  refine TriOps.gf rfl rfl ?_
                  refine TriOps.gf rfl rfl ?_
                  refine TriOps.gf rfl rfl ?_
                  refine TriOps.gf rfl rfl ?_
                  refine TriOps.q .pickT ?_
                  refine TriOps.q .move ?_
                  refine TriOps.gf rfl rfl ?_
                  refine TriOps.gf rfl rfl ?_
                  refine TriOps.gf rfl rfl ?_
                  refine TriOps.gfU rfl ?_
                  refine TriOps.gfU rfl ?_
                  refine TriOps.gfU rfl ?_
                  refine TriOps.gfU rfl ?_
                  refine TriOps.gfU rfl ?_
                  refine TriOps.gfU rfl ?_
                  refine TriOps.gfU rfl ?_
                  refine TriOps.gfU rfl ?_
                  refine TriOps.gfU rfl ?_
                  refine TriOps.gf rfl rfl ?_
                  refine TriOps.q .pickT ?_
                  refine .nil ?_
                  refine seqQ_n ?_
                  refine .condT ?_
                  have hbad : rightL (toks ps) last = false := rightL_not hzt fun ⟨h9, h8, h7⟩ => by
                    first
                      | (rcases h7 with h7 | ⟨u, h6, h5⟩
                         · omega
                         · rw [hyt] at h6; cases h6
                           have h3' : (!sLt ty.text tz.text) = true := h3
                           rw [h5] at h3'; cases h3')
                      | (unfold rightB at h9
                         simp only [Bool.and_eq_true, Bool.or_eq_true, beq_iff_eq, decide_eq_true_eq] at h9
                         obtain ⟨⟨h9a, h9b⟩, h9c⟩ := h9
                         clear hok hi
                         simp_all <;> omega)
                  refine .seq ?_
                  refine .region ?_
                  refine TriOps.q .assign ?_
                  refine .nil ?_
                  refine seqQ_n ?_
                  refine .ret (blkQ_r (seqQ_r (loopQ_r (blkQ_r (seqQ_r (retQ_r _ (.one (.tmp rfl)) (.none _) ?_))))))
                  first
                    | exact ⟨by rw [hgood], rfl⟩
                    | exact ⟨by rw [hbad], rfl⟩
                · skip
                  refine TriOps.gT g7_17 ?_
                  refine TriOps.q (.fieldAddr rfl) ?_
                  refine TriOps.gT g7_17 ?_
                  refine TriOps.q (.load1 rfl) ?_
                  refine TriOps.gT g7_17 ?_
                  refine TriOps.q .lss ?_
                  refine TriOps.q (.pickFh g7_17) ?_
                  refine TriOps.q .move ?_
                  refine TriOps.split (t := 50) rfl (fun g7_22 => ?_) (fun g7_22 => ?_)
                  · skip
                    refine TriOps.gF g7_22 ?_
                    refine TriOps.gF g7_22 ?_
                    refine TriOps.gF g7_22 ?_
                    refine TriOps.gF g7_22 ?_
                    refine TriOps.q (.pickTh g7_22) ?_
                    refine TriOps.q .move ?_
                    refine TriOps.gf rfl rfl ?_
                    refine TriOps.gf rfl rfl ?_
                    refine TriOps.gf rfl rfl ?_
                    refine TriOps.gfU rfl ?_
                    refine TriOps.gfU rfl ?_
                    refine TriOps.gfU rfl ?_
                    refine TriOps.gfU rfl ?_
                    refine TriOps.gfU rfl ?_
                    refine TriOps.gfU rfl ?_
                    refine TriOps.gfU rfl ?_
                    refine TriOps.gfU rfl ?_
                    refine TriOps.gfU rfl ?_
                    refine TriOps.gf rfl rfl ?_
                    refine TriOps.q .pickT ?_
                    refine .nil ?_
                    refine seqQ_n ?_
                    refine .condT ?_
                    have hbad : rightL (toks ps) last = false := rightL_not hzt fun ⟨h9, h8, h7⟩ => by
                      first
                        | (rcases h7 with h7 | ⟨u, h6, h5⟩
                           · omega
                           · rw [hyt] at h6; cases h6
                             have h3' : (!sLt ty.text tz.text) = true := h3
                             rw [h5] at h3'; cases h3')
                        | (unfold rightB at h9
                           simp only [Bool.and_eq_true, Bool.or_eq_true, beq_iff_eq, decide_eq_true_eq] at h9
                           obtain ⟨⟨h9a, h9b⟩, h9c⟩ := h9
                           clear hok hi
                           simp_all <;> omega)
                    refine .seq ?_
                    refine .region ?_
                    refine TriOps.q .assign ?_
                    refine .nil ?_
                    refine seqQ_n ?_
                    refine .ret (blkQ_r (seqQ_r (loopQ_r (blkQ_r (seqQ_r (retQ_r _ (.one (.tmp rfl)) (.none _) ?_))))))
                    first
                      | exact ⟨by rw [hgood], rfl⟩
                      | exact ⟨by rw [hbad], rfl⟩
                  · skip
                    refine TriOps.gT g7_22 ?_
                    refine TriOps.q (.fieldAddr rfl) ?_
                    refine TriOps.gT g7_22 ?_
                    refine TriOps.q (.load1 rfl) ?_
                    refine TriOps.gT g7_22 ?_
                    refine TriOps.q .move ?_
                    refine TriOps.gT g7_22 ?_
                    refine TriOps.q .gtr ?_
                    refine TriOps.q (.pickFh g7_22) ?_
                    refine TriOps.q .move ?_
                    refine TriOps.split (t := 56) rfl (fun g7_28 => ?_) (fun g7_28 => ?_)
                    · skip
                      refine TriOps.gF g7_28 ?_
                      refine TriOps.gF g7_28 ?_
                      refine TriOps.gF g7_28 ?_
                      refine TriOps.gfU rfl ?_
                      refine TriOps.gfU rfl ?_
                      refine TriOps.gfU rfl ?_
                      refine TriOps.gfU rfl ?_
                      refine TriOps.gfU rfl ?_
                      refine TriOps.gfU rfl ?_
                      refine TriOps.gfU rfl ?_
                      refine TriOps.gfU rfl ?_
                      refine TriOps.gfU rfl ?_
                      refine TriOps.gF g7_28 ?_
                      refine TriOps.q (.pickTh g7_28) ?_
                      refine .nil ?_
                      refine seqQ_n ?_
                      refine .condT ?_
                      have hbad : rightL (toks ps) last = false := rightL_not hzt fun ⟨h9, h8, h7⟩ => by
                        first
                          | (rcases h7 with h7 | ⟨u, h6, h5⟩
                             · omega
                             · rw [hyt] at h6; cases h6
                               have h3' : (!sLt ty.text tz.text) = true := h3
                               rw [h5] at h3'; cases h3')
                          | (unfold rightB at h9
                             simp only [Bool.and_eq_true, Bool.or_eq_true, beq_iff_eq, decide_eq_true_eq] at h9
                             obtain ⟨⟨h9a, h9b⟩, h9c⟩ := h9
                             clear hok hi
                             simp_all <;> omega)
                      refine .seq ?_
                      refine .region ?_
                      refine TriOps.q .assign ?_
                      refine .nil ?_
                      refine seqQ_n ?_
                      refine .ret (blkQ_r (seqQ_r (loopQ_r (blkQ_r (seqQ_r (retQ_r _ (.one (.tmp rfl)) (.none _) ?_))))))
                      first
                        | exact ⟨by rw [hgood], rfl⟩
                        | exact ⟨by rw [hbad], rfl⟩
                    · skip
                      refine TriOps.gT g7_28 ?_
                      refine TriOps.q .move ?_
                      refine TriOps.gT g7_28 ?_
                      refine TriOps.q .gtr ?_
                      refine TriOps.gT g7_28 ?_
                      refine TriOps.q .move ?_
                      refine TriOps.split (t := 59) rfl (fun g7_31 => ?_) (fun g7_31 => ?_)
                      · skip
                        have hi0 : 0 < i := by have := of_decide_eq_true g7_31; omega
                        obtain ⟨⟨wy, ty⟩, hy⟩ : ∃ z, ps[i - 1]? = some z := ⟨_, List.getElem?_eq_getElem (by omega)⟩
                        have cy := hc _ (List.mem_of_getElem? hy)
                        have iy : Ones (encT (wy, ty)) := ⟨cy.ones⟩
                        have hyt : (toks ps)[i - 1]? = some ty := by simp [hy]
                        have py := h.pc hy
                        refine TriOps.gT g7_31 ?_
                        refine TriOps.q .move ?_
                        refine TriOps.gT g7_31 ?_
                        refine TriOps.q .move ?_
                        refine TriOps.gT g7_31 ?_
                        refine TriOps.q (.i64 ((i - 1 : Nat) : Int) .sub ⟨by omega, by omega, by omega⟩) ?_
                        refine TriOps.gT g7_31 ?_
                        refine TriOps.q (.indexR (i - 1) h hy rfl rfl rfl) ?_
                        refine TriOps.gT g7_31 ?_
                        refine TriOps.q (.fieldAddr rfl) ?_
                        refine TriOps.gT g7_31 ?_
                        refine TriOps.q (.load1 rfl) ?_
                        refine TriOps.gT g7_31 ?_
                        refine TriOps.q (.fieldAddr rfl) ?_
                        refine TriOps.gT g7_31 ?_
                        refine TriOps.q (.load1 rfl) ?_
                        refine TriOps.gT g7_31 ?_
                        refine TriOps.q .geS ?_
                        refine TriOps.gT g7_28 ?_
                        refine TriOps.q (.pickTh g7_31) ?_
                        refine TriOps.q (.pickFh g7_28) ?_
                        refine .nil ?_
                        refine seqQ_n ?_
                        refine .cond rfl (fun h3 => ?_) (fun h3 => ?_)
                        · skip
                          have hbad : rightL (toks ps) last = false := rightL_not hzt fun ⟨h9, h8, h7⟩ => by
                            first
                              | (rcases h7 with h7 | ⟨u, h6, h5⟩
                                 · omega
                                 · rw [hyt] at h6; cases h6
                                   have h3' : (!sLt ty.text tz.text) = true := h3
                                   rw [h5] at h3'; cases h3')
                              | (unfold rightB at h9
                                 simp only [Bool.and_eq_true, Bool.or_eq_true, beq_iff_eq, decide_eq_true_eq] at h9
                                 obtain ⟨⟨h9a, h9b⟩, h9c⟩ := h9
                                 clear hok hi
                                 simp_all <;> omega)
                          refine .seq ?_
                          refine .region ?_
                          refine TriOps.q .assign ?_
                          refine .nil ?_
                          refine seqQ_n ?_
                          refine .ret (blkQ_r (seqQ_r (loopQ_r (blkQ_r (seqQ_r (retQ_r _ (.one (.tmp rfl)) (.none _) ?_))))))
                          first
                            | exact ⟨by rw [hgood], rfl⟩
                            | exact ⟨by rw [hbad], rfl⟩
                        · skip
                          have hst : stepQ (toks ps) last i = true := stepQ_of hzt (by
                            unfold rightB
                            clear hok hi
                            simp_all <;> omega) (fun hu hk => by
                            first
                              | (have h9 : tz.used = false := g7_11
                                 rw [hu] at h9; cases h9)
                              | (have h9 : (tz.kind == 1) = false := g7_17
                                 rw [hk] at h9; cases h9)) (by
                            first
                              | exact .inr ⟨ty, hyt, by
                                  have h3' : (!sLt ty.text tz.text) = false := h3
                                  simpa using h3'⟩
                              | exact .inl (by have := of_decide_eq_false g7_31; omega))
                          have hok2 : okN (stepQ (toks ps) last) (i + 1) = true := by rw [okN_succ, hok, hst]; rfl
                          refine .skip ?_
                          refine blkQ_n (seqQ_n ?_)
                          refine .region ?_
                          refine TriOps.q .move ?_
                          refine TriOps.q (.i64 ((i + 1 : Nat) : Int) .add ⟨by omega, by omega, by omega⟩) ?_
                          refine TriOps.q .assign ?_
                          refine .nil ?_
                          exact loopQ_i (i + 1) ⟨by omega, hok2⟩ (by omega) ((((EnvLe.nil _).cons rfl).cons rfl).cons rfl) (HLe.pick [] _)
                      · skip
                        refine TriOps.gF g7_31 ?_
                        refine TriOps.gF g7_31 ?_
                        refine TriOps.gF g7_31 ?_
                        refine TriOps.gF g7_31 ?_
                        refine TriOps.gF g7_31 ?_
                        refine TriOps.gF g7_31 ?_
                        refine TriOps.gF g7_31 ?_
                        refine TriOps.gF g7_31 ?_
                        refine TriOps.gF g7_31 ?_
                        refine TriOps.gT g7_28 ?_
                        refine TriOps.q (.pickFh g7_31) ?_
                        refine TriOps.q (.pickFh g7_28) ?_
                        refine .nil ?_
                        refine seqQ_n ?_
                        refine .condF ?_
                        have hst : stepQ (toks ps) last i = true := stepQ_of hzt (by
                          unfold rightB
                          clear hok hi
                          simp_all <;> omega) (fun hu hk => by
                          first
                            | (have h9 : tz.used = false := g7_11
                               rw [hu] at h9; cases h9)
                            | (have h9 : (tz.kind == 1) = false := g7_17
                               rw [hk] at h9; cases h9)) (by
                          first
                            | exact .inr ⟨ty, hyt, by
                                have h3' : (!sLt ty.text tz.text) = false := h3
                                simpa using h3'⟩
                            | exact .inl (by have := of_decide_eq_false g7_31; omega))
                        have hok2 : okN (stepQ (toks ps) last) (i + 1) = true := by rw [okN_succ, hok, hst]; rfl
                        refine .skip ?_
                        refine blkQ_n (seqQ_n ?_)
                        refine .region ?_
                        refine TriOps.q .move ?_
                        refine TriOps.q (.i64 ((i + 1 : Nat) : Int) .add ⟨by omega, by omega, by omega⟩) ?_
                        refine TriOps.q .assign ?_
                        refine .nil ?_
                        exact loopQ_i (i + 1) ⟨by omega, hok2⟩ (by omega) ((((EnvLe.nil _).cons rfl).cons rfl).cons rfl) (HLe.pick [] _)
              · skip
                refine TriOps.gF g7_11 ?_
                refine TriOps.gF g7_11 ?_
                refine TriOps.gF g7_11 ?_
                refine TriOps.gT g7_8 ?_
                refine TriOps.q (.pickFh g7_11) ?_
                refine TriOps.q (.pickFh g7_8) ?_
                refine TriOps.q .move ?_
                refine TriOps.gt rfl ?_
                refine TriOps.q (.fieldAddr rfl) ?_
                refine TriOps.gt rfl ?_
                refine TriOps.q (.load1 rfl) ?_
                refine TriOps.gt rfl ?_
                refine TriOps.q .lss ?_
                refine TriOps.q .pickF ?_
                refine TriOps.q .move ?_
                refine TriOps.split (t := 50) rfl (fun g7_22 => ?_) (fun g7_22 => ?_)
                · skip
                  refine TriOps.gF g7_22 ?_
                  refine TriOps.gF g7_22 ?_
                  refine TriOps.gF g7_22 ?_
                  refine TriOps.gF g7_22 ?_
                  refine TriOps.q (.pickTh g7_22) ?_
                  refine TriOps.q .move ?_
                  refine TriOps.gf rfl rfl ?_
                  refine TriOps.gf rfl rfl ?_
                  refine TriOps.gf rfl rfl ?_
                  refine TriOps.gfU rfl ?_
                  refine TriOps.gfU rfl ?_
                  refine TriOps.gfU rfl ?_
                  refine TriOps.gfU rfl ?_
                  refine TriOps.gfU rfl ?_
                  refine TriOps.gfU rfl ?_
                  refine TriOps.gfU rfl ?_
                  refine TriOps.gfU rfl ?_
                  refine TriOps.gfU rfl ?_
                  refine TriOps.gf rfl rfl ?_
                  refine TriOps.q .pickT ?_
                  refine .nil ?_
                  refine seqQ_n ?_
                  refine .condT ?_
                  have hbad : rightL (toks ps) last = false := rightL_not hzt fun ⟨h9, h8, h7⟩ => by
                    first
                      | (rcases h7 with h7 | ⟨u, h6, h5⟩
                         · omega
                         · rw [hyt] at h6; cases h6
                           have h3' : (!sLt ty.text tz.text) = true := h3
                           rw [h5] at h3'; cases h3')
                      | (unfold rightB at h9
                         simp only [Bool.and_eq_true, Bool.or_eq_true, beq_iff_eq, decide_eq_true_eq] at h9
                         obtain ⟨⟨h9a, h9b⟩, h9c⟩ := h9
                         clear hok hi
                         simp_all <;> omega)
                  refine .seq ?_
                  refine .region ?_
                  refine TriOps.q .assign ?_
                  refine .nil ?_
                  refine seqQ_n ?_
                  refine .ret (blkQ_r (seqQ_r (loopQ_r (blkQ_r (seqQ_r (retQ_r _ (.one (.tmp rfl)) (.none _) ?_))))))
                  first
                    | exact ⟨by rw [hgood], rfl⟩
                    | exact ⟨by rw [hbad], rfl⟩
                · skip
                  refine TriOps.gT g7_22 ?_
                  refine TriOps.q (.fieldAddr rfl) ?_
                  refine TriOps.gT g7_22 ?_
                  refine TriOps.q (.load1 rfl) ?_
                  refine TriOps.gT g7_22 ?_
                  refine TriOps.q .move ?_
                  refine TriOps.gT g7_22 ?_
                  refine TriOps.q .gtr ?_
                  refine TriOps.q (.pickFh g7_22) ?_
                  refine TriOps.q .move ?_
                  refine TriOps.split (t := 56) rfl (fun g7_28 => ?_) (fun g7_28 => ?_)
                  · skip
                    refine TriOps.gF g7_28 ?_
                    refine TriOps.gF g7_28 ?_
                    refine TriOps.gF g7_28 ?_
                    refine TriOps.gfU rfl ?_
                    refine TriOps.gfU rfl ?_
                    refine TriOps.gfU rfl ?_
                    refine TriOps.gfU rfl ?_
                    refine TriOps.gfU rfl ?_
                    refine TriOps.gfU rfl ?_
                    refine TriOps.gfU rfl ?_
                    refine TriOps.gfU rfl ?_
                    refine TriOps.gfU rfl ?_
                    refine TriOps.gF g7_28 ?_
                    refine TriOps.q (.pickTh g7_28) ?_
                    refine .nil ?_
                    refine seqQ_n ?_
                    refine .condT ?_
                    have hbad : rightL (toks ps) last = false := rightL_not hzt fun ⟨h9, h8, h7⟩ => by
                      first
                        | (rcases h7 with h7 | ⟨u, h6, h5⟩
                           · omega
                           · rw [hyt] at h6; cases h6
                             have h3' : (!sLt ty.text tz.text) = true := h3
                             rw [h5] at h3'; cases h3')
                        | (unfold rightB at h9
                           simp only [Bool.and_eq_true, Bool.or_eq_true, beq_iff_eq, decide_eq_true_eq] at h9
                           obtain ⟨⟨h9a, h9b⟩, h9c⟩ := h9
                           clear hok hi
                           simp_all <;> omega)
                    refine .seq ?_
                    refine .region ?_
                    refine TriOps.q .assign ?_
                    refine .nil ?_
                    refine seqQ_n ?_
                    refine .ret (blkQ_r (seqQ_r (loopQ_r (blkQ_r (seqQ_r (retQ_r _ (.one (.tmp rfl)) (.none _) ?_))))))
                    first
                      | exact ⟨by rw [hgood], rfl⟩
                      | exact ⟨by rw [hbad], rfl⟩
                  · skip
                    refine TriOps.gT g7_28 ?_
                    refine TriOps.q .move ?_
                    refine TriOps.gT g7_28 ?_
                    refine TriOps.q .gtr ?_
                    refine TriOps.gT g7_28 ?_
                    refine TriOps.q .move ?_
                    refine TriOps.split (t := 59) rfl (fun g7_31 => ?_) (fun g7_31 => ?_)
                    · skip
                      have hi0 : 0 < i := by have := of_decide_eq_true g7_31; omega
                      obtain ⟨⟨wy, ty⟩, hy⟩ : ∃ z, ps[i - 1]? = some z := ⟨_, List.getElem?_eq_getElem (by omega)⟩
                      have cy := hc _ (List.mem_of_getElem? hy)
                      have iy : Ones (encT (wy, ty)) := ⟨cy.ones⟩
                      have hyt : (toks ps)[i - 1]? = some ty := by simp [hy]
                      have py := h.pc hy
                      refine TriOps.gT g7_31 ?_
                      refine TriOps.q .move ?_
                      refine TriOps.gT g7_31 ?_
                      refine TriOps.q .move ?_
                      refine TriOps.gT g7_31 ?_
                      refine TriOps.q (.i64 ((i - 1 : Nat) : Int) .sub ⟨by omega, by omega, by omega⟩) ?_
                      refine TriOps.gT g7_31 ?_
                      refine TriOps.q (.indexR (i - 1) h hy rfl rfl rfl) ?_
                      refine TriOps.gT g7_31 ?_
                      refine TriOps.q (.fieldAddr rfl) ?_
                      refine TriOps.gT g7_31 ?_
                      refine TriOps.q (.load1 rfl) ?_
                      refine TriOps.gT g7_31 ?_
                      refine TriOps.q (.fieldAddr rfl) ?_
                      refine TriOps.gT g7_31 ?_
                      refine TriOps.q (.load1 rfl) ?_
                      refine TriOps.gT g7_31 ?_
                      refine TriOps.q .geS ?_
                      refine TriOps.gT g7_28 ?_
                      refine TriOps.q (.pickTh g7_31) ?_
                      refine TriOps.q (.pickFh g7_28) ?_
                      refine .nil ?_
                      refine seqQ_n ?_
                      refine .cond rfl (fun h3 => ?_) (fun h3 => ?_)
                      · skip
                        have hbad : rightL (toks ps) last = false := rightL_not hzt fun ⟨h9, h8, h7⟩ => by
                          first
                            | (rcases h7 with h7 | ⟨u, h6, h5⟩
                               · omega
                               · rw [hyt] at h6; cases h6
                                 have h3' : (!sLt ty.text tz.text) = true := h3
                                 rw [h5] at h3'; cases h3')
                            | (unfold rightB at h9
                               simp only [Bool.and_eq_true, Bool.or_eq_true, beq_iff_eq, decide_eq_true_eq] at h9
                               obtain ⟨⟨h9a, h9b⟩, h9c⟩ := h9
                               clear hok hi
                               simp_all <;> omega)
                        refine .seq ?_
                        refine .region ?_
                        refine TriOps.q .assign ?_
                        refine .nil ?_
                        refine seqQ_n ?_
                        refine .ret (blkQ_r (seqQ_r (loopQ_r (blkQ_r (seqQ_r (retQ_r _ (.one (.tmp rfl)) (.none _) ?_))))))
                        first
                          | exact ⟨by rw [hgood], rfl⟩
                          | exact ⟨by rw [hbad], rfl⟩
                      · skip
                        have hst : stepQ (toks ps) last i = true := stepQ_of hzt (by
                          unfold rightB
                          clear hok hi
                          simp_all <;> omega) (fun hu hk => by
                          first
                            | (have h9 : tz.used = false := g7_11
                               rw [hu] at h9; cases h9)
                            | (have h9 : (tz.kind == 1) = false := g7_17
                               rw [hk] at h9; cases h9)) (by
                          first
                            | exact .inr ⟨ty, hyt, by
                                have h3' : (!sLt ty.text tz.text) = false := h3
                                simpa using h3'⟩
                            | exact .inl (by have := of_decide_eq_false g7_31; omega))
                        have hok2 : okN (stepQ (toks ps) last) (i + 1) = true := by rw [okN_succ, hok, hst]; rfl
                        refine .skip ?_
                        refine blkQ_n (seqQ_n ?_)
                        refine .region ?_
                        refine TriOps.q .move ?_
                        refine TriOps.q (.i64 ((i + 1 : Nat) : Int) .add ⟨by omega, by omega, by omega⟩) ?_
                        refine TriOps.q .assign ?_
                        refine .nil ?_
                        exact loopQ_i (i + 1) ⟨by omega, hok2⟩ (by omega) ((((EnvLe.nil _).cons rfl).cons rfl).cons rfl) (HLe.pick [] _)
                    · skip
                      refine TriOps.gF g7_31 ?_
                      refine TriOps.gF g7_31 ?_
                      refine TriOps.gF g7_31 ?_
                      refine TriOps.gF g7_31 ?_
                      refine TriOps.gF g7_31 ?_
                      refine TriOps.gF g7_31 ?_
                      refine TriOps.gF g7_31 ?_
                      refine TriOps.gF g7_31 ?_
                      refine TriOps.gF g7_31 ?_
                      refine TriOps.gT g7_28 ?_
                      refine TriOps.q (.pickFh g7_31) ?_
                      refine TriOps.q (.pickFh g7_28) ?_
                      refine .nil ?_
                      refine seqQ_n ?_
                      refine .condF ?_
                      have hst : stepQ (toks ps) last i = true := stepQ_of hzt (by
                        unfold rightB
                        clear hok hi
                        simp_all <;> omega) (fun hu hk => by
                        first
                          | (have h9 : tz.used = false := g7_11
                             rw [hu] at h9; cases h9)
                          | (have h9 : (tz.kind == 1) = false := g7_17
                             rw [hk] at h9; cases h9)) (by
                        first
                          | exact .inr ⟨ty, hyt, by
                              have h3' : (!sLt ty.text tz.text) = false := h3
                              simpa using h3'⟩
                          | exact .inl (by have := of_decide_eq_false g7_31; omega))
                      have hok2 : okN (stepQ (toks ps) last) (i + 1) = true := by rw [okN_succ, hok, hst]; rfl
                      refine .skip ?_
                      refine blkQ_n (seqQ_n ?_)
                      refine .region ?_
                      refine TriOps.q .move ?_
                      refine TriOps.q (.i64 ((i + 1 : Nat) : Int) .add ⟨by omega, by omega, by omega⟩) ?_
                      refine TriOps.q .assign ?_
                      refine .nil ?_
                      exact loopQ_i (i + 1) ⟨by omega, hok2⟩ (by omega) ((((EnvLe.nil _).cons rfl).cons rfl).cons rfl) (HLe.pick [] _)
          · skip
            refine TriOps.gF g7_3 ?_
            refine TriOps.gF g7_3 ?_
            refine TriOps.gF g7_3 ?_
            refine TriOps.q (.pickFh g7_3) ?_
            refine TriOps.q .move ?_
            refine TriOps.gt rfl ?_
            refine TriOps.q (.fieldAddr rfl) ?_
            refine TriOps.gt rfl ?_
            refine TriOps.q (.load1 rfl) ?_
            refine TriOps.gt rfl ?_
            refine TriOps.q .move ?_
            refine TriOps.split (t := 39) rfl (fun g7_11 => ?_) (fun g7_11 => ?_)
            · skip
              refine TriOps.gT g7_11 ?_
              refine TriOps.q (.fieldAddr rfl) ?_
              refine TriOps.gT g7_11 ?_
              refine TriOps.q (.load1 rfl) ?_
              refine TriOps.gT g7_11 ?_
              refine TriOps.q .eqI ?_
              refine TriOps.gt rfl ?_
              refine TriOps.q (.pickTh g7_11) ?_
              refine TriOps.q .pickF ?_
              refine TriOps.q .move ?_
              refine TriOps.split (t := 45) rfl (fun g7_17 => ?_) (fun g7_17 => ?_)
              · skip
                refine TriOps.gF g7_17 ?_
                refine TriOps.gF g7_17 ?_
                refine TriOps.gF g7_17 ?_
                refine TriOps.q (.pickTh g7_17) ?_
                refine TriOps.q .move ?_
                refine TriOps.gf rfl rfl ?_
                refine TriOps.gf rfl rfl ?_
                refine TriOps.gf rfl rfl ?_
                refine TriOps.gf rfl rfl ?_
                refine TriOps.q .pickT ?_
                refine TriOps.q .move ?_
                refine TriOps.gf rfl rfl ?_
                refine TriOps.gf rfl rfl ?_
                refine TriOps.gf rfl rfl ?_
                refine TriOps.gfU rfl ?_
                refine TriOps.gfU rfl ?_
                refine TriOps.gfU rfl ?_
                refine TriOps.gfU rfl ?_
                refine TriOps.gfU rfl ?_
                refine TriOps.gfU rfl ?_
                refine TriOps.gfU rfl ?_
                refine TriOps.gfU rfl ?_
                refine TriOps.gfU rfl ?_
                refine TriOps.gf rfl rfl ?_
                refine TriOps.q .pickT ?_
                refine .nil ?_
                refine seqQ_n ?_
                refine .condT ?_
                have hbad : rightL (toks ps) last = false := rightL_not hzt fun ⟨h9, h8, h7⟩ => by
                  first
                    | (rcases h7 with h7 | ⟨u, h6, h5⟩
                       · omega
                       · rw [hyt] at h6; cases h6
                         have h3' : (!sLt ty.text tz.text) = true := h3
                         rw [h5] at h3'; cases h3')
                    | (unfold rightB at h9
                       simp only [Bool.and_eq_true, Bool.or_eq_true, beq_iff_eq, decide_eq_true_eq] at h9
                       obtain ⟨⟨h9a, h9b⟩, h9c⟩ := h9
                       clear hok hi
                       simp_all <;> omega)
                refine .seq ?_
                refine .region ?_
                refine TriOps.q .assign ?_
                refine .nil ?_
                refine seqQ_n ?_
                refine .ret (blkQ_r (seqQ_r (loopQ_r (blkQ_r (seqQ_r (retQ_r _ (.one (.tmp rfl)) (.none _) ?_))))))
                first
                  | exact ⟨by rw [hgood], rfl⟩
                  | exact ⟨by rw [hbad], rfl⟩
              · skip
                refine TriOps.gT g7_17 ?_
                refine TriOps.q (.fieldAddr rfl) ?_
                refine TriOps.gT g7_17 ?_
                refine TriOps.q (.load1 rfl) ?_
                refine TriOps.gT g7_17 ?_
                refine TriOps.q .lss ?_
                refine TriOps.q (.pickFh g7_17) ?_
                refine TriOps.q .move ?_
                refine TriOps.split (t := 50) rfl (fun g7_22 => ?_) (fun g7_22 => ?_)
                · skip
                  refine TriOps.gF g7_22 ?_
                  refine TriOps.gF g7_22 ?_
                  refine TriOps.gF g7_22 ?_
                  refine TriOps.gF g7_22 ?_
                  refine TriOps.q (.pickTh g7_22) ?_
                  refine TriOps.q .move ?_
                  refine TriOps.gf rfl rfl ?_
                  refine TriOps.gf rfl rfl ?_
                  refine TriOps.gf rfl rfl ?_
                  refine TriOps.gfU rfl ?_
                  refine TriOps.gfU rfl ?_
                  refine TriOps.gfU rfl ?_
                  refine TriOps.gfU rfl ?_
                  refine TriOps.gfU rfl ?_
                  refine TriOps.gfU rfl ?_
                  refine TriOps.gfU rfl ?_
                  refine TriOps.gfU rfl ?_
                  refine TriOps.gfU rfl ?_
                  refine TriOps.gf rfl rfl ?_
                  refine TriOps.q .pickT ?_
                  refine .nil ?_
                  refine seqQ_n ?_
                  refine .condT ?_
                  have hbad : rightL (toks ps) last = false := rightL_not hzt fun ⟨h9, h8, h7⟩ => by
                    first
                      | (rcases h7 with h7 | ⟨u, h6, h5⟩
                         · omega
                         · rw [hyt] at h6; cases h6
                           have h3' : (!sLt ty.text tz.text) = true := h3
                           rw [h5] at h3'; cases h3')
                      | (unfold rightB at h9
                         simp only [Bool.and_eq_true, Bool.or_eq_true, beq_iff_eq, decide_eq_true_eq] at h9
                         obtain ⟨⟨h9a, h9b⟩, h9c⟩ := h9
                         clear hok hi
                         simp_all <;> omega)
                  refine .seq ?_
                  refine .region ?_
                  refine TriOps.q .assign ?_
                  refine .nil ?_
                  refine seqQ_n ?_
                  refine .ret (blkQ_r (seqQ_r (loopQ_r (blkQ_r (seqQ_r (retQ_r _ (.one (.tmp rfl)) (.none _) ?_))))))
                  first
                    | exact ⟨by rw [hgood], rfl⟩
                    | exact ⟨by rw [hbad], rfl⟩
                · skip
                  refine TriOps.gT g7_22 ?_
                  refine TriOps.q (.fieldAddr rfl) ?_
                  refine TriOps.gT g7_22 ?_
                  refine TriOps.q (.load1 rfl) ?_
                  refine TriOps.gT g7_22 ?_
                  refine TriOps.q .move ?_
                  refine TriOps.gT g7_22 ?_
                  refine TriOps.q .gtr ?_
                  refine TriOps.q (.pickFh g7_22) ?_
                  refine TriOps.q .move ?_
                  refine TriOps.split (t := 56) rfl (fun g7_28 => ?_) (fun g7_28 => ?_)
                  · skip
                    refine TriOps.gF g7_28 ?_
                    refine TriOps.gF g7_28 ?_
                    refine TriOps.gF g7_28 ?_
                    refine TriOps.gfU rfl ?_
                    refine TriOps.gfU rfl ?_
                    refine TriOps.gfU rfl ?_
                    refine TriOps.gfU rfl ?_
                    refine TriOps.gfU rfl ?_
                    refine TriOps.gfU rfl ?_
                    refine TriOps.gfU rfl ?_
                    refine TriOps.gfU rfl ?_
                    refine TriOps.gfU rfl ?_
                    refine TriOps.gF g7_28 ?_
                    refine TriOps.q (.pickTh g7_28) ?_
                    refine .nil ?_
                    refine seqQ_n ?_
                    refine .condT ?_
                    have hbad : rightL (toks ps) last = false := rightL_not hzt fun ⟨h9, h8, h7⟩ => by
                      first
                        | (rcases h7 with h7 | ⟨u, h6, h5⟩
                           · omega
                           · rw [hyt] at h6; cases h6
                             have h3' : (!sLt ty.text tz.text) = true := h3
                             rw [h5] at h3'; cases h3')
                        | (unfold rightB at h9
                           simp only [Bool.and_eq_true, Bool.or_eq_true, beq_iff_eq, decide_eq_true_eq] at h9
                           obtain ⟨⟨h9a, h9b⟩, h9c⟩ := h9
                           clear hok hi
                           simp_all <;> omega)
                    refine .seq ?_
                    refine .region ?_
                    refine TriOps.q .assign ?_
                    refine .nil ?_
                    refine seqQ_n ?_
                    refine .ret (blkQ_r (seqQ_r (loopQ_r (blkQ_r (seqQ_r (retQ_r _ (.one (.tmp rfl)) (.none _) ?_))))))
                    first
                      | exact ⟨by rw [hgood], rfl⟩
                      | exact ⟨by rw [hbad], rfl⟩
                  · skip
                    refine TriOps.gT g7_28 ?_
                    refine TriOps.q .move ?_
                    refine TriOps.gT g7_28 ?_
                    refine TriOps.q .gtr ?_
                    refine TriOps.gT g7_28 ?_
                    refine TriOps.q .move ?_
                    refine TriOps.split (t := 59) rfl (fun g7_31 => ?_) (fun g7_31 => ?_)
                    · skip
                      have hi0 : 0 < i := by have := of_decide_eq_true g7_31; omega
                      obtain ⟨⟨wy, ty⟩, hy⟩ : ∃ z, ps[i - 1]? = some z := ⟨_, List.getElem?_eq_getElem (by omega)⟩
                      have cy := hc _ (List.mem_of_getElem? hy)
                      have iy : Ones (encT (wy, ty)) := ⟨cy.ones⟩
                      have hyt : (toks ps)[i - 1]? = some ty := by simp [hy]
                      have py := h.pc hy
                      refine TriOps.gT g7_31 ?_
                      refine TriOps.q .move ?_
                      refine TriOps.gT g7_31 ?_
                      refine TriOps.q .move ?_
                      refine TriOps.gT g7_31 ?_
                      refine TriOps.q (.i64 ((i - 1 : Nat) : Int) .sub ⟨by omega, by omega, by omega⟩) ?_
                      refine TriOps.gT g7_31 ?_
                      refine TriOps.q (.indexR (i - 1) h hy rfl rfl rfl) ?_
                      refine TriOps.gT g7_31 ?_
                      refine TriOps.q (.fieldAddr rfl) ?_
                      refine TriOps.gT g7_31 ?_
                      refine TriOps.q (.load1 rfl) ?_
                      refine TriOps.gT g7_31 ?_
                      refine TriOps.q (.fieldAddr rfl) ?_
                      refine TriOps.gT g7_31 ?_
                      refine TriOps.q (.load1 rfl) ?_
                      refine TriOps.gT g7_31 ?_
                      refine TriOps.q .geS ?_
                      refine TriOps.gT g7_28 ?_
                      refine TriOps.q (.pickTh g7_31) ?_
                      refine TriOps.q (.pickFh g7_28) ?_
                      refine .nil ?_
                      refine seqQ_n ?_
                      refine .cond rfl (fun h3 => ?_) (fun h3 => ?_)
                      · skip
                        have hbad : rightL (toks ps) last = false := rightL_not hzt fun ⟨h9, h8, h7⟩ => by
                          first
                            | (rcases h7 with h7 | ⟨u, h6, h5⟩
                               · omega
                               · rw [hyt] at h6; cases h6
                                 have h3' : (!sLt ty.text tz.text) = true := h3
                                 rw [h5] at h3'; cases h3')
                            | (unfold rightB at h9
                               simp only [Bool.and_eq_true, Bool.or_eq_true, beq_iff_eq, decide_eq_true_eq] at h9
                               obtain ⟨⟨h9a, h9b⟩, h9c⟩ := h9
                               clear hok hi
                               simp_all <;> omega)
                        refine .seq ?_
                        refine .region ?_
                        refine TriOps.q .assign ?_
                        refine .nil ?_
                        refine seqQ_n ?_
                        refine .ret (blkQ_r (seqQ_r (loopQ_r (blkQ_r (seqQ_r (retQ_r _ (.one (.tmp rfl)) (.none _) ?_))))))
                        first
                          | exact ⟨by rw [hgood], rfl⟩
                          | exact ⟨by rw [hbad], rfl⟩
                      · skip
                        have hst : stepQ (toks ps) last i = true := stepQ_of hzt (by
                          unfold rightB
                          clear hok hi
                          simp_all <;> omega) (fun hu hk => by
                          first
                            | (have h9 : tz.used = false := g7_11
                               rw [hu] at h9; cases h9)
                            | (have h9 : (tz.kind == 1) = false := g7_17
                               rw [hk] at h9; cases h9)) (by
                          first
                            | exact .inr ⟨ty, hyt, by
                                have h3' : (!sLt ty.text tz.text) = false := h3
                                simpa using h3'⟩
                            | exact .inl (by have := of_decide_eq_false g7_31; omega))
                        have hok2 : okN (stepQ (toks ps) last) (i + 1) = true := by rw [okN_succ, hok, hst]; rfl
                        refine .skip ?_
                        refine blkQ_n (seqQ_n ?_)
                        refine .region ?_
                        refine TriOps.q .move ?_
                        refine TriOps.q (.i64 ((i + 1 : Nat) : Int) .add ⟨by omega, by omega, by omega⟩) ?_
                        refine TriOps.q .assign ?_
                        refine .nil ?_
                        exact loopQ_i (i + 1) ⟨by omega, hok2⟩ (by omega) ((((EnvLe.nil _).cons rfl).cons rfl).cons rfl) (HLe.pick [] _)
                    · skip
                      refine TriOps.gF g7_31 ?_
                      refine TriOps.gF g7_31 ?_
                      refine TriOps.gF g7_31 ?_
                      refine TriOps.gF g7_31 ?_
                      refine TriOps.gF g7_31 ?_
                      refine TriOps.gF g7_31 ?_
                      refine TriOps.gF g7_31 ?_
                      refine TriOps.gF g7_31 ?_
                      refine TriOps.gF g7_31 ?_
                      refine TriOps.gT g7_28 ?_
                      refine TriOps.q (.pickFh g7_31) ?_
                      refine TriOps.q (.pickFh g7_28) ?_
                      refine .nil ?_
                      refine seqQ_n ?_
                      refine .condF ?_
                      have hst : stepQ (toks ps) last i = true := stepQ_of hzt (by
                        unfold rightB
                        clear hok hi
                        simp_all <;> omega) (fun hu hk => by
                        first
                          | (have h9 : tz.used = false := g7_11
                             rw [hu] at h9; cases h9)
                          | (have h9 : (tz.kind == 1) = false := g7_17
                             rw [hk] at h9; cases h9)) (by
                        first
                          | exact .inr ⟨ty, hyt, by
                              have h3' : (!sLt ty.text tz.text) = false := h3
                              simpa using h3'⟩
                          | exact .inl (by have := of_decide_eq_false g7_31; omega))
                      have hok2 : okN (stepQ (toks ps) last) (i + 1) = true := by rw [okN_succ, hok, hst]; rfl
                      refine .skip ?_
                      refine blkQ_n (seqQ_n ?_)
                      refine .region ?_
                      refine TriOps.q .move ?_
                      refine TriOps.q (.i64 ((i + 1 : Nat) : Int) .add ⟨by omega, by omega, by omega⟩) ?_
                      refine TriOps.q .assign ?_
                      refine .nil ?_
                      exact loopQ_i (i + 1) ⟨by omega, hok2⟩ (by omega) ((((EnvLe.nil _).cons rfl).cons rfl).cons rfl) (HLe.pick [] _)
            · skip
              refine TriOps.gF g7_11 ?_
              refine TriOps.gF g7_11 ?_
              refine TriOps.gF g7_11 ?_
              refine TriOps.gt rfl ?_
              refine TriOps.q (.pickFh g7_11) ?_
              refine TriOps.q .pickF ?_
              refine TriOps.q .move ?_
              refine TriOps.gt rfl ?_
              refine TriOps.q (.fieldAddr rfl) ?_
              refine TriOps.gt rfl ?_
              refine TriOps.q (.load1 rfl) ?_
              refine TriOps.gt rfl ?_
              refine TriOps.q .lss ?_
              refine TriOps.q .pickF ?_
              refine TriOps.q .move ?_
              refine TriOps.split (t := 50) rfl (fun g7_22 => ?_) (fun g7_22 => ?_)
              · skip
                refine TriOps.gF g7_22 ?_
                refine TriOps.gF g7_22 ?_
                refine TriOps.gF g7_22 ?_
                refine TriOps.gF g7_22 ?_
                refine TriOps.q (.pickTh g7_22) ?_
                refine TriOps.q .move ?_
                refine TriOps.gf rfl rfl ?_
                refine TriOps.gf rfl rfl ?_
                refine TriOps.gf rfl rfl ?_
                refine TriOps.gfU rfl ?_
                refine TriOps.gfU rfl ?_
                refine TriOps.gfU rfl ?_
                refine TriOps.gfU rfl ?_
                refine TriOps.gfU rfl ?_
                refine TriOps.gfU rfl ?_
                refine TriOps.gfU rfl ?_
                refine TriOps.gfU rfl ?_
                refine TriOps.gfU rfl ?_
                refine TriOps.gf rfl rfl ?_
                refine TriOps.q .pickT ?_
                refine .nil ?_
                refine seqQ_n ?_
                refine .condT ?_
                have hbad : rightL (toks ps) last = false := rightL_not hzt fun ⟨h9, h8, h7⟩ => by
                  first
                    | (rcases h7 with h7 | ⟨u, h6, h5⟩
                       · omega
                       · rw [hyt] at h6; cases h6
                         have h3' : (!sLt ty.text tz.text) = true := h3
                         rw [h5] at h3'; cases h3')
                    | (unfold rightB at h9
                       simp only [Bool.and_eq_true, Bool.or_eq_true, beq_iff_eq, decide_eq_true_eq] at h9
                       obtain ⟨⟨h9a, h9b⟩, h9c⟩ := h9
                       clear hok hi
                       simp_all <;> omega)
                refine .seq ?_
                refine .region ?_
                refine TriOps.q .assign ?_
                refine .nil ?_
                refine seqQ_n ?_
                refine .ret (blkQ_r (seqQ_r (loopQ_r (blkQ_r (seqQ_r (retQ_r _ (.one (.tmp rfl)) (.none _) ?_))))))
                first
                  | exact ⟨by rw [hgood], rfl⟩
                  | exact ⟨by rw [hbad], rfl⟩
              · skip
                refine TriOps.gT g7_22 ?_
                refine TriOps.q (.fieldAddr rfl) ?_
                refine TriOps.gT g7_22 ?_
                refine TriOps.q (.load1 rfl) ?_
                refine TriOps.gT g7_22 ?_
                refine TriOps.q .move ?_
                refine TriOps.gT g7_22 ?_
                refine TriOps.q .gtr ?_
                refine TriOps.q (.pickFh g7_22) ?_
                refine TriOps.q .move ?_
                refine TriOps.split (t := 56) rfl (fun g7_28 => ?_) (fun g7_28 => ?_)
                · skip
                  refine TriOps.gF g7_28 ?_
                  refine TriOps.gF g7_28 ?_
                  refine TriOps.gF g7_28 ?_
                  refine TriOps.gfU rfl ?_
                  refine TriOps.gfU rfl ?_
                  refine TriOps.gfU rfl ?_
                  refine TriOps.gfU rfl ?_
                  refine TriOps.gfU rfl ?_
                  refine TriOps.gfU rfl ?_
                  refine TriOps.gfU rfl ?_
                  refine TriOps.gfU rfl ?_
                  refine TriOps.gfU rfl ?_
                  refine TriOps.gF g7_28 ?_
                  refine TriOps.q (.pickTh g7_28) ?_
                  refine .nil ?_
                  refine seqQ_n ?_
                  refine .condT ?_
                  have hbad : rightL (toks ps) last = false := rightL_not hzt fun ⟨h9, h8, h7⟩ => by
                    first
                      | (rcases h7 with h7 | ⟨u, h6, h5⟩
                         · omega
                         · rw [hyt] at h6; cases h6
                           have h3' : (!sLt ty.text tz.text) = true := h3
                           rw [h5] at h3'; cases h3')
                      | (unfold rightB at h9
                         simp only [Bool.and_eq_true, Bool.or_eq_true, beq_iff_eq, decide_eq_true_eq] at h9
                         obtain ⟨⟨h9a, h9b⟩, h9c⟩ := h9
                         clear hok hi
                         simp_all <;> omega)
                  refine .seq ?_
                  refine .region ?_
                  refine TriOps.q .assign ?_
                  refine .nil ?_
                  refine seqQ_n ?_
                  refine .ret (blkQ_r (seqQ_r (loopQ_r (blkQ_r (seqQ_r (retQ_r _ (.one (.tmp rfl)) (.none _) ?_))))))
                  first
                    | exact ⟨by rw [hgood], rfl⟩
                    | exact ⟨by rw [hbad], rfl⟩
                · skip
                  refine TriOps.gT g7_28 ?_
                  refine TriOps.q .move ?_
                  refine TriOps.gT g7_28 ?_
                  refine TriOps.q .gtr ?_
                  refine TriOps.gT g7_28 ?_
                  refine TriOps.q .move ?_
                  refine TriOps.split (t := 59) rfl (fun g7_31 => ?_) (fun g7_31 => ?_)
                  · skip
                    have hi0 : 0 < i := by have := of_decide_eq_true g7_31; omega
                    obtain ⟨⟨wy, ty⟩, hy⟩ : ∃ z, ps[i - 1]? = some z := ⟨_, List.getElem?_eq_getElem (by omega)⟩
                    have cy := hc _ (List.mem_of_getElem? hy)
                    have iy : Ones (encT (wy, ty)) := ⟨cy.ones⟩
                    have hyt : (toks ps)[i - 1]? = some ty := by simp [hy]
                    have py := h.pc hy
                    refine TriOps.gT g7_31 ?_
                    refine TriOps.q .move ?_
                    refine TriOps.gT g7_31 ?_
                    refine TriOps.q .move ?_
                    refine TriOps.gT g7_31 ?_
                    refine TriOps.q (.i64 ((i - 1 : Nat) : Int) .sub ⟨by omega, by omega, by omega⟩) ?_
                    refine TriOps.gT g7_31 ?_
                    refine TriOps.q (.indexR (i - 1) h hy rfl rfl rfl) ?_
                    refine TriOps.gT g7_31 ?_
                    refine TriOps.q (.fieldAddr rfl) ?_
                    refine TriOps.gT g7_31 ?_
                    refine TriOps.q (.load1 rfl) ?_
                    refine TriOps.gT g7_31 ?_
                    refine TriOps.q (.fieldAddr rfl) ?_
                    refine TriOps.gT g7_31 ?_
                    refine TriOps.q (.load1 rfl) ?_
                    refine TriOps.gT g7_31 ?_
                    refine TriOps.q .geS ?_
                    refine TriOps.gT g7_28 ?_
                    refine TriOps.q (.pickTh g7_31) ?_
                    refine TriOps.q (.pickFh g7_28) ?_
                    refine .nil ?_
                    refine seqQ_n ?_
                    refine .cond rfl (fun h3 => ?_) (fun h3 => ?_)
                    · skip
                      have hbad : rightL (toks ps) last = false := rightL_not hzt fun ⟨h9, h8, h7⟩ => by
                        first
                          | (rcases h7 with h7 | ⟨u, h6, h5⟩
                             · omega
                             · rw [hyt] at h6; cases h6
                               have h3' : (!sLt ty.text tz.text) = true := h3
                               rw [h5] at h3'; cases h3')
                          | (unfold rightB at h9
                             simp only [Bool.and_eq_true, Bool.or_eq_true, beq_iff_eq, decide_eq_true_eq] at h9
                             obtain ⟨⟨h9a, h9b⟩, h9c⟩ := h9
                             clear hok hi
                             simp_all <;> omega)
                      refine .seq ?_
                      refine .region ?_
                      refine TriOps.q .assign ?_
                      refine .nil ?_
                      refine seqQ_n ?_
                      refine .ret (blkQ_r (seqQ_r (loopQ_r (blkQ_r (seqQ_r (retQ_r _ (.one (.tmp rfl)) (.none _) ?_))))))
                      first
                        | exact ⟨by rw [hgood], rfl⟩
                        | exact ⟨by rw [hbad], rfl⟩
                    · skip
                      have hst : stepQ (toks ps) last i = true := stepQ_of hzt (by
                        unfold rightB
                        clear hok hi
                        simp_all <;> omega) (fun hu hk => by
                        first
                          | (have h9 : tz.used = false := g7_11
                             rw [hu] at h9; cases h9)
                          | (have h9 : (tz.kind == 1) = false := g7_17
                             rw [hk] at h9; cases h9)) (by
                        first
                          | exact .inr ⟨ty, hyt, by
                              have h3' : (!sLt ty.text tz.text) = false := h3
                              simpa using h3'⟩
                          | exact .inl (by have := of_decide_eq_false g7_31; omega))
                      have hok2 : okN (stepQ (toks ps) last) (i + 1) = true := by rw [okN_succ, hok, hst]; rfl
                      refine .skip ?_
                      refine blkQ_n (seqQ_n ?_)
                      refine .region ?_
                      refine TriOps.q .move ?_
                      refine TriOps.q (.i64 ((i + 1 : Nat) : Int) .add ⟨by omega, by omega, by omega⟩) ?_
                      refine TriOps.q .assign ?_
                      refine .nil ?_
                      exact loopQ_i (i + 1) ⟨by omega, hok2⟩ (by omega) ((((EnvLe.nil _).cons rfl).cons rfl).cons rfl) (HLe.pick [] _)
                  · skip
                    refine TriOps.gF g7_31 ?_
                    refine TriOps.gF g7_31 ?_
                    refine TriOps.gF g7_31 ?_
                    refine TriOps.gF g7_31 ?_
                    refine TriOps.gF g7_31 ?_
                    refine TriOps.gF g7_31 ?_
                    refine TriOps.gF g7_31 ?_
                    refine TriOps.gF g7_31 ?_
                    refine TriOps.gF g7_31 ?_
                    refine TriOps.gT g7_28 ?_
                    refine TriOps.q (.pickFh g7_31) ?_
                    refine TriOps.q (.pickFh g7_28) ?_
                    refine .nil ?_
                    refine seqQ_n ?_
                    refine .condF ?_
                    have hst : stepQ (toks ps) last i = true := stepQ_of hzt (by
                      unfold rightB
                      clear hok hi
                      simp_all <;> omega) (fun hu hk => by
                      first
                        | (have h9 : tz.used = false := g7_11
                           rw [hu] at h9; cases h9)
                        | (have h9 : (tz.kind == 1) = false := g7_17
                           rw [hk] at h9; cases h9)) (by
                      first
                        | exact .inr ⟨ty, hyt, by
                            have h3' : (!sLt ty.text tz.text) = false := h3
                            simpa using h3'⟩
                        | exact .inl (by have := of_decide_eq_false g7_31; omega))
                    have hok2 : okN (stepQ (toks ps) last) (i + 1) = true := by rw [okN_succ, hok, hst]; rfl
                    refine .skip ?_
                    refine blkQ_n (seqQ_n ?_)
                    refine .region ?_
                    refine TriOps.q .move ?_
                    refine TriOps.q (.i64 ((i + 1 : Nat) : Int) .add ⟨by omega, by omega, by omega⟩) ?_
                    refine TriOps.q .assign ?_
                    refine .nil ?_
                    exact loopQ_i (i + 1) ⟨by omega, hok2⟩ (by omega) ((((EnvLe.nil _).cons rfl).cons rfl).cons rfl) (HLe.pick [] _)
        · skip
          have hin : i = ps.length := by have := of_decide_eq_false h2; omega
          have hgood : rightL (toks ps) last = true := by
            unfold rightL
            rw [decide_eq_true (show (toks ps).length ≤ 4096 by omega), decide_eq_true (show 0 ≤ last by omega), decide_eq_true (show last ≤ 1099511627776 by omega), htl, ← hin, hok]; rfl
          refine .exit (seqQ_x (loopQ_x (blkQ_x ?_)))
          refine seqQ_n ?_
          refine .seq ?_
          refine .region ?_
          refine TriOps.q .assign ?_
          refine .nil ?_
          refine seqQ_n ?_
          refine .ret (retQ_r _ (.one (.tmp rfl)) (.none _) ?_)
          first
            | exact ⟨by rw [hgood], rfl⟩
            | exact ⟨by rw [hbad], rfl⟩
theorem kv_inj {A B : List Tok} (h : (kv A).Perm (kv B)) : A.Perm B := by
  have := h.map (·.2)
  unfold kv at this
  rw [List.map_map, List.map_map] at this
  have e : ∀ L : List Tok, L.map ((fun p : ByteArray × Tok => p.2) ∘ fun t => (t.text, t)) = L := fun L => by
    conv => rhs; rw [← List.map_id L]
    rfl
  rwa [e, e] at this
theorem tsame_spec (g : Nat) (A : List (ByteArray × Tok)) (last : Int) (T : Seg) (hV : VI g A last T) (hl : A.length ≤ 1000000) (x : Nat) (vt : Value) (ps : List TP) (R : Rds) (hr : ∀ p ∈ T, R p.1 p.2) (px : PC R (.pointer (some ⟨x, 0, none⟩)) [vt, .int .i64 last]) (hS : RS R 9 encT vt ps) (hc : ∀ p ∈ ps, TokR R p)
    (hp : (kv (toks ps)).Perm A) (hasc : (toks ps).Pairwise fun c d => sLt c.text d.text = true) :
    Spec Try.prog 43 [.pointer (some ⟨g, 0, none⟩), .pointer (some ⟨x, 0, none⟩)] R [] fun u H' => u = .bool true ∧ H' = [] := by
  have hle := hS.le
  have i0 := hS.oneCell
  refine Spec.body Try.func43 rfl Try.results43 Try.ntmps43 rfl ?_
  refine .seq ?_
  refine .region ?_
  refine TriOps.q .assign ?_
  refine .nil ?_
  refine seqQ_n ?_
  refine .seq ?_
  refine .region ?_
  refine TriOps.q .move ?_
  refine TriOps.callN (vlist_spec g A last T hV hl _ fun p hp => .inl (hr p hp)) (fun w T1 hw => ?_)
  obtain ⟨ys, To, Ti, rfl, hO, hyc, hyp, hys⟩ := hw
  refine TriOps.sub (H' := [To, Ti]) (HLe.ofPerm (by simp)) ?_
  have i1 := hO.oneCell
  have hs1 := hO.sg
  have hsame : toks ys = toks ps := asc_same (fun t : Tok => t.text) hasc (kv_inj (hyp.trans hp.symm)) (by
    rw [List.pairwise_map]; exact hys)
  have hlen : ys.length = ps.length := by
    have := congrArg List.length hsame
    simpa using this
  refine TriOps.q .assign ?_
  refine .nil ?_
  refine seqQ_n ?_
  refine .seq ?_
  refine .seq ?_
  refine .region_all [] mixed ?_
  refine RA.takeO 0 rfl .move (by kernel_rfl) ?_
  refine RA.takeO 1 rfl (.lenO hO) (by kernel_rfl) ?_
  refine RA.takeO 2 rfl .move (by kernel_rfl) ?_
  refine RA.takeO 3 rfl (.nilCheck rfl) (by kernel_rfl) ?_
  refine RA.takeO 4 rfl (.fieldAddr rfl) (by kernel_rfl) ?_
  refine RA.takeO 5 rfl (.load1 rfl) (by kernel_rfl) ?_
  refine RA.takeO 6 rfl (.lenR hS) (by kernel_rfl) ?_
  refine RA.takeO 7 rfl .neI (by kernel_rfl) ?_
  refine RA.takeO 8 rfl .move (by kernel_rfl) ?_
  refine RA.split (t := 17) rfl (fun g2_8 => ?_) (fun g2_8 => ?_)
  · skip
    rw [hlen] at g2_8; simp at g2_8
  · skip
    refine RA.takeGhO 9 rfl rfl g2_8 .move (by kernel_rfl) ?_
    refine RA.takeGhO 11 rfl rfl g2_8 .move (by kernel_rfl) ?_
    refine RA.takeGhO 12 rfl rfl g2_8 (.nilCheck rfl) (by kernel_rfl) ?_
    refine RA.takeGhO 13 rfl rfl g2_8 (.fieldAddr rfl) (by kernel_rfl) ?_
    refine RA.takeGhO 14 rfl rfl g2_8 (.load1 rfl) (by kernel_rfl) ?_
    refine RA.step 10 rfl (by kernel_rfl) rfl ?_
    refine TriOps.gT g2_8 ?_
    refine TriOps.callR (vlast_spec g A last T hV _ fun p hp => .inl (hr p hp)) (fun u hu => ?_)
    subst hu
    refine .nil (Next.sub ?_)
    refine RA.takeGhO 15 rfl rfl g2_8 .neI (by kernel_rfl) ?_
    refine RA.takeO 16 rfl (.pickFh g2_8) (by kernel_rfl) ?_
    refine RA.nil (by kernel_rfl) ?_
    refine seqQ_n ?_
    refine .cond rfl (fun h1 => ?_) (fun h1 => ?_)
    · skip
      simp at h1
    · skip
      refine .skip ?_
      refine seqQ_n ?_
      refine .seq ?_
      refine .seq ?_
      refine .region ?_
      refine TriOps.q .assign ?_
      refine .nil ?_
      refine seqQ_n ?_
      refine .block ?_
      refine .loop (X := Nat) (fun i => i ≤ ys.length) (fun i => [(1, .pointer (some ⟨x, 0, none⟩)), (5, w), (6, .int .i64 (i : Nat))]) (fun _ => [To, Ti]) (fun i => ys.length - i) 0 (by omega) ((((EnvLe.nil _).cons rfl).cons rfl).cons rfl) (HLe.refl _) ?_
      rintro i hi
      refine .seq ?_
      refine .seq ?_
      refine .region ?_
      refine TriOps.q .move ?_
      refine TriOps.q .move ?_
      refine TriOps.q (.lenO hO) ?_
      refine TriOps.q .lss ?_
      refine .nil ?_
      refine seqQ_n ?_
      refine .cond rfl (fun h2 => ?_) (fun h2 => ?_)
      · skip
        have hlt : i < ys.length := by have := of_decide_eq_true h2; omega
        obtain ⟨⟨wy, ty⟩, hy⟩ : ∃ z, ys[i]? = some z := ⟨_, List.getElem?_eq_getElem hlt⟩
        obtain ⟨⟨wz, tz⟩, hz⟩ : ∃ z, ps[i]? = some z := ⟨_, List.getElem?_eq_getElem (by omega)⟩
        have cy := hyc _ (List.mem_of_getElem? hy)
        have cz := hc _ (List.mem_of_getElem? hz)
        have iy : Ones (encT (wy, ty)) := ⟨cy.ones⟩
        have iz : Ones (encT (wz, tz)) := ⟨cz.ones⟩
        have hyz : ty = tz := by
          have h1 : (toks ys)[i]? = some ty := by simp [hy]
          have h2 : (toks ps)[i]? = some tz := by simp [hz]
          rw [hsame, h2] at h1; cases h1; rfl
        have pz := hS.pc hz
        have py : PS To (baseP w (i * 9)) (encT (wy, ty)) := ⟨hs1.pc hy⟩
        refine .skip ?_
        refine seqQ_n ?_
        refine .seq ?_
        refine .block ?_
        refine .seq ?_
        refine .region_all [] mixed ?_
        refine RA.takeO 0 rfl .move (by kernel_rfl) ?_
        refine RA.takeO 1 rfl .move (by kernel_rfl) ?_
        refine RA.takeO 2 rfl (.indexR i hs1 hy rfl rfl rfl) (by kernel_rfl) ?_
        refine RA.takeO 3 rfl (.loadA rfl) (by kernel_rfl) ?_
        refine RA.takeO 5 rfl .move (by kernel_rfl) ?_
        refine RA.takeO 6 rfl (.nilCheck rfl) (by kernel_rfl) ?_
        refine RA.takeO 7 rfl (.fieldAddr rfl) (by kernel_rfl) ?_
        refine RA.takeO 8 rfl (.load1 rfl) (by kernel_rfl) ?_
        refine RA.takeO 9 rfl .move (by kernel_rfl) ?_
        refine RA.takeO 10 rfl (.indexR i hS hz rfl rfl rfl) (by kernel_rfl) ?_
        refine RA.takeO 11 rfl (.loadA rfl) (by kernel_rfl) ?_
        refine RA.step 4 rfl (by kernel_rfl) rfl ?_
        refine TriOps.callR (tplain_spec wy ty _ cy) (fun u hu => ?_)
        subst hu
        refine .nil (Next.sub ?_)
        refine RA.step 12 rfl (by kernel_rfl) rfl ?_
        refine TriOps.callR (sameT_spec wy wz ty tz _ (cy.mono fun b o hb => .inr (by have hb' : (b, o) ∈ Ti := hb.1; simp [hb'])) (cz.mono fun b o hb => .inl hb)) (fun u hu => ?_)
        rw [hyz, sameT_self] at hu
        subst hu
        refine .nil (Next.sub ?_)
        refine RA.takeO 13 rfl .not (by kernel_rfl) ?_
        refine RA.nil (by kernel_rfl) ?_
        refine seqQ_n ?_
        refine .cond rfl (fun h3 => ?_) (fun h3 => ?_)
        · skip
          simp at h3
        · skip
          refine .skip ?_
          refine blkQ_n (seqQ_n ?_)
          refine .region ?_
          refine TriOps.q .move ?_
          refine TriOps.q (.i64 ((i + 1 : Nat) : Int) .add ⟨by omega, by omega, by omega⟩) ?_
          refine TriOps.q .assign ?_
          refine .nil ?_
          exact loopQ_i (i + 1) (by omega) (by omega) ((((EnvLe.nil _).cons rfl).cons rfl).cons rfl) (HLe.refl _)
      · skip
        refine .exit (seqQ_x (loopQ_x (blkQ_x ?_)))
        refine seqQ_n ?_
        refine .seq ?_
        refine .region ?_
        refine TriOps.q .assign ?_
        refine .nil ?_
        refine seqQ_n ?_
        refine .ret (retQ_r _ (.one (.tmp rfl)) (.none _) ?_)
        exact ⟨rfl, rfl⟩
end Go.Proofs.Ytlmdgdehjpahiaa
