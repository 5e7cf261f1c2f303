/- ClientChecks and ClientSecrets: they answer true. No condition. -/
import Derived.Test.YtlmdgdehjpahiaaCliE
set_option linter.unusedVariables false
set_option maxRecDepth 4000
namespace Go.Proofs.Ytlmdgdehjpahiaa

theorem clientChecks_spec (r : CR) (c : Cli) (R : Rds) (h : CliR R r c) : Spec Try.prog 4 [.agg r.cells.toArray] R [] fun v H' => v = .bool true ∧ H' = [] := by
  have io : Ones r.cells := ⟨h.ones⟩
  have hfit := c.short_fits
  refine Spec.body Try.func4 rfl Try.results4 Try.ntmps4 rfl ?_
  refine .seq ?_
  refine .region ?_
  refine TriOps.boxA rfl (fun b1 => ?_)
  refine TriOps.q .assign ?_
  refine .nil ?_
  refine seqQ_n ?_
  refine .seq ?_
  refine .region ?_
  refine TriOps.q (.loadA rfl) ?_
  refine TriOps.callN (cshort_spec r c _ (h.mono fun b o hb => .inl hb)) (fun v T hv => ?_)
  obtain ⟨r1, rfl, hc⟩ := hv
  have i1 : Ones r1.cells := ⟨hc.ones⟩
  refine TriOps.storeA rfl rfl ?_
  refine .nil ?_
  refine seqQ_n ?_
  refine .seq ?_
  refine .region_all [] mixed ?_
  refine RA.takeO 0 rfl (.loadA rfl) (by kernel_rfl) ?_
  refine RA.takeO 2 rfl (.loadA rfl) (by kernel_rfl) ?_
  refine RA.step 1 rfl (by kernel_rfl) rfl ?_
  refine TriOps.callR (check_spec r1 c.short _ (hc.mono fun b o hb => .inr (by simp [show (b, o) ∈ T from hb])) hfit) (fun v hv => ?_)
  subst hv
  refine .nil (Next.sub ?_)
  refine RA.step 3 rfl (by kernel_rfl) rfl ?_
  refine TriOps.callR (rcheck_spec r1 c.short _ (hc.mono fun b o hb => .inr (by simp [show (b, o) ∈ T from hb])) hfit) (fun v hv => ?_)
  subst hv
  refine .nil (Next.sub ?_)
  refine RA.takeO 4 rfl .eqI (by kernel_rfl) ?_
  refine RA.takeO 5 rfl .move (by kernel_rfl) ?_
  refine RA.split (t := 10) rfl (fun g2_5 => ?_) (fun g2_5 => ?_)
  · skip
    refine RA.step 6 rfl (by kernel_rfl) rfl ?_
    refine TriOps.gT g2_5 ?_
    refine TriOps.callR (clives_spec _) (fun v hv => ?_)
    subst hv
    refine .nil (Next.sub ?_)
    refine RA.takeO 7 rfl (.pickTh g2_5) (by kernel_rfl) ?_
    refine RA.takeO 8 rfl .assign (by kernel_rfl) ?_
    refine RA.nil (by kernel_rfl) ?_
    refine seqQ_n ?_
    refine .ret (retQ_r _ (.one (.tmp rfl)) (.none _) ?_)
    exact ⟨rfl, rfl⟩
  · skip
    simp at g2_5
theorem cget_one {c : Cli} : cget c.id [c] = some c := by simp [cget]
theorem cdel_one {c : Cli} : cdel c.id [c] = [] := by simp [cdel]
theorem cadd_one {c : Cli} : cadd [] c = if c.check ≠ 0 then (c.check, []) else (0, [c]) := by
  unfold cadd; split <;> simp [cget]
theorem clientSecrets_spec (r : CR) (c : Cli) (sec : ByteArray) (R : Rds) (h : CliR R r c) : Spec Try.prog 5 [.agg r.cells.toArray, .string sec] R [] fun v H' => v = .bool true ∧ H' = [] := by
  have io : Ones r.cells := ⟨h.ones⟩
  have hfit := c.short_fits
  have hfew := c.short_few
  refine Spec.body Try.func5 rfl Try.results5 Try.ntmps5 rfl ?_
  refine .seq ?_
  refine .region ?_
  refine TriOps.boxA rfl (fun b2 => ?_)
  refine TriOps.q .assign ?_
  refine .nil ?_
  refine seqQ_n ?_
  refine .seq ?_
  refine .region ?_
  refine TriOps.q (.loadA rfl) ?_
  refine TriOps.callN (cshort_spec r c _ (h.mono fun b o hb => .inl hb)) (fun v T hv => ?_)
  obtain ⟨r1, rfl, hc⟩ := hv
  have i1 : Ones r1.cells := ⟨hc.ones⟩
  have hid := hc.id
  have hsec := hc.secret
  generalize c.short = d at hc hfit hfew hid hsec
  refine TriOps.storeA rfl rfl ?_
  refine .nil ?_
  refine seqQ_n ?_
  refine .seq ?_
  refine .region ?_
  refine TriOps.callN (cnew_spec _) (fun v T1 hv => ?_)
  obtain ⟨g, rfl, hR⟩ := hv
  refine TriOps.q .assign ?_
  refine .nil ?_
  refine seqQ_n ?_
  refine .seq ?_
  refine .seq ?_
  refine .region ?_
  refine TriOps.q .move ?_
  refine TriOps.q (.eqNilA rfl rfl) ?_
  refine .nil ?_
  refine seqQ_n ?_
  refine .condF ?_
  refine .skip ?_
  refine seqQ_n ?_
  refine .seq ?_
  refine .seq ?_
  refine .region ?_
  refine TriOps.q .move ?_
  refine TriOps.q (.loadA rfl) ?_
  refine TriOps.call [0] (cadd_spec g [] T1 hR r1 d _ (hc.mono fun b o hb => .inr (by simp [rest, dropAt, show (b, o) ∈ T from hb])) hfit hfew) (fun v H' hv => ?_)
  obtain ⟨T2, rfl, rfl, hR2⟩ := hv
  conv => arg 8; simp only [rest, dropAt, List.cons_append, List.nil_append]
  rw [cadd_one] at hR2
  rw [cadd_one]
  refine TriOps.q .neI ?_
  refine .nil ?_
  refine seqQ_n ?_
  refine .cond rfl (fun h2 => ?_) (fun h2 => ?_)
  · skip
    have hne : d.check ≠ 0 := by
      intro e
      simp [e] at h2
    rw [if_pos hne] at hR2
    refine .seq ?_
    refine .region ?_
    refine TriOps.q (.loadA rfl) ?_
    refine TriOps.callR (rcheck_spec r1 d _ (hc.mono fun b o hb => .inr (by simp [show (b, o) ∈ T from hb])) hfit) (fun v hv => ?_)
    subst hv
    refine TriOps.q .neI ?_
    refine TriOps.q .move ?_
    refine TriOps.split (t := 18) rfl (fun g6_3 => ?_) (fun g6_3 => ?_)
    · skip
      refine TriOps.gT g6_3 ?_
      refine TriOps.q .move ?_
      refine TriOps.gT g6_3 ?_
      refine TriOps.q (.fieldAddr rfl) ?_
      refine TriOps.gT g6_3 ?_
      refine TriOps.q (.load1 rfl) ?_
      refine TriOps.gT g6_3 ?_
      refine TriOps.q (.fieldAddr rfl) ?_
      refine TriOps.gT g6_3 ?_
      refine TriOps.q (.load1 rfl) ?_
      refine TriOps.gT g6_3 ?_
      refine TriOps.callR (cauth_spec g [] T2 hR2 _ _ _ fun p hp => .inr (by simp [hp])) (fun v hv => ?_)
      subst hv
      refine TriOps.gT g6_3 ?_
      refine TriOps.q .eqI ?_
      refine TriOps.q (.pickTh g6_3) ?_
      refine TriOps.q .move ?_
      refine TriOps.split (t := 27) rfl (fun g6_12 => ?_) (fun g6_12 => ?_)
      · skip
        refine TriOps.gT g6_12 ?_
        refine TriOps.callR (clives_spec _) (fun v hv => ?_)
        subst hv
        refine TriOps.q (.pickTh g6_12) ?_
        refine TriOps.q .assign ?_
        refine .nil ?_
        refine seqQ_n ?_
        refine .ret (seqQ_r (retQ_r _ (.one (.tmp rfl)) (.none _) ?_))
        exact ⟨rfl, rfl⟩
      · skip
        exfalso
        simp [cget] at g6_12
    · skip
      exfalso
      simp at g6_3
      exact hne g6_3
  · skip
    have he : d.check = 0 := by
      by_cases e : d.check = 0
      · exact e
      · rw [if_pos e] at h2; simp [e] at h2
    have hne : ¬ d.check ≠ 0 := fun h => h he
    rw [if_neg hne] at hR2
    refine .skip ?_
    refine seqQ_n ?_
    refine .seq ?_
    refine .seq ?_
    refine .region_all [] mixed ?_
    refine RA.takeO 0 rfl .move (by kernel_rfl) ?_
    refine RA.takeO 1 rfl (.fieldAddr rfl) (by kernel_rfl) ?_
    refine RA.takeO 2 rfl (.load1 rfl) (by kernel_rfl) ?_
    refine RA.takeO 3 rfl .move (by kernel_rfl) ?_
    refine RA.takeO 6 rfl .move (by kernel_rfl) ?_
    refine RA.takeO 7 rfl (.fieldAddr rfl) (by kernel_rfl) ?_
    refine RA.takeO 8 rfl (.load1 rfl) (by kernel_rfl) ?_
    refine RA.takeO 9 rfl .eqS (by kernel_rfl) ?_
    refine RA.step 4 rfl (by kernel_rfl) rfl ?_
    refine TriOps.callR (cauth_spec g [d] T2 hR2 r1.id sec _ fun p hp => .inr (by simp [hp])) (fun v hv => ?_)
    rw [hid, cget_one] at hv
    subst hv
    refine .nil (Next.sub ?_)
    refine RA.takeO 5 rfl .eqI (by kernel_rfl) ?_
    refine RA.takeO 10 rfl .neB (by kernel_rfl) ?_
    refine RA.takeO 11 rfl .move (by kernel_rfl) ?_
    refine RA.split (t := 41) rfl (fun g7_11 => ?_) (fun g7_11 => ?_)
    · skip
      exfalso
      have hAB : ((if Option.map (fun x : Cli => x.secret) (some d) = some sec then (0 : Int) else 17) == 0) = decide (sec = r1.secret) := by
        rw [hsec]
        by_cases e : d.secret = sec
        · simp [e]
        · have e' : ¬ sec = d.secret := fun h => e h.symm
          simp [e, e']
      rw [hAB] at g7_11
      simp at g7_11
    · skip
      refine RA.takeGhO 12 rfl rfl g7_11 .move (by kernel_rfl) ?_
      refine RA.takeGhO 13 rfl rfl g7_11 (.fieldAddr rfl) (by kernel_rfl) ?_
      refine RA.takeGhO 14 rfl rfl g7_11 (.load1 rfl) (by kernel_rfl) ?_
      refine RA.takeGhO 15 rfl rfl g7_11 (.fieldAddr rfl) (by kernel_rfl) ?_
      refine RA.takeGhO 16 rfl rfl g7_11 (.load1 rfl) (by kernel_rfl) ?_
      refine RA.step 17 rfl (by kernel_rfl) rfl ?_
      refine TriOps.gT g7_11 ?_
      refine TriOps.callR (cauth_spec g [d] T2 hR2 r1.id r1.secret _ fun p hp => .inr (by simp [hp])) (fun v hv => ?_)
      rw [hid, hsec, cget_one] at hv
      subst hv
      refine .nil (Next.sub ?_)
      refine RA.takeGhO 18 rfl rfl g7_11 .neI (by kernel_rfl) ?_
      refine RA.takeO 19 rfl (.pickFh g7_11) (by kernel_rfl) ?_
      refine RA.nil (by kernel_rfl) ?_
      refine seqQ_n ?_
      refine .cond rfl (fun h3 => ?_) (fun h3 => ?_)
      · skip
        exfalso
        simp at h3
      · skip
        refine .skip ?_
        refine seqQ_n ?_
        refine .seq ?_
        refine .region ?_
        refine TriOps.q .move ?_
        refine TriOps.q (.fieldAddr rfl) ?_
        refine TriOps.q (.load1 rfl) ?_
        refine TriOps.callM (cremove_spec g [d] T2 hR2 r1.id _) (fun v T3 hv => ?_)
        rw [hid, cget_one, cdel_one] at hv
        obtain ⟨rfl, hR3⟩ := hv
        refine TriOps.q .eqI ?_
        refine TriOps.q .move ?_
        refine TriOps.split (t := 55) rfl (fun g9_5 => ?_) (fun g9_5 => ?_)
        · skip
          refine TriOps.gT g9_5 ?_
          refine TriOps.q .move ?_
          refine TriOps.gT g9_5 ?_
          refine TriOps.q (.fieldAddr rfl) ?_
          refine TriOps.gT g9_5 ?_
          refine TriOps.q (.load1 rfl) ?_
          refine TriOps.gT g9_5 ?_
          refine TriOps.q (.fieldAddr rfl) ?_
          refine TriOps.gT g9_5 ?_
          refine TriOps.q (.load1 rfl) ?_
          refine TriOps.gT g9_5 ?_
          refine TriOps.callR (cauth_spec g [] T3 hR3 _ _ _ fun p hp => .inr (by simp [hp])) (fun v hv => ?_)
          subst hv
          refine TriOps.gT g9_5 ?_
          refine TriOps.q .eqI ?_
          refine TriOps.q (.pickTh g9_5) ?_
          refine TriOps.q .move ?_
          refine TriOps.split (t := 64) rfl (fun g9_14 => ?_) (fun g9_14 => ?_)
          · skip
            refine TriOps.gT g9_14 ?_
            refine TriOps.callR (clives_spec _) (fun v hv => ?_)
            subst hv
            refine TriOps.q (.pickTh g9_14) ?_
            refine TriOps.q .assign ?_
            refine .nil ?_
            refine seqQ_n ?_
            refine .ret (retQ_r _ (.one (.tmp rfl)) (.none _) ?_)
            exact ⟨rfl, rfl⟩
          · skip
            exfalso
            simp [cget] at g9_14
        · skip
          exfalso
          simp at g9_5
end Go.Proofs.Ytlmdgdehjpahiaa
