/- Layer 12's law on Collect. No condition. -/
import Derived.Test.YtkepgbimlolemaaStoY
set_option linter.unusedVariables false
set_option linter.unusedSimpArgs false
set_option maxRecDepth 4000
namespace Go.Proofs.Ytkepgbimlolemaa
theorem scollects_spec (v : Value) (cs : List SCall) (hh r : Int) (f : Tpl) (R : Rds) (hv : RS R 12 SCall.enc v cs) (hD : ∀ c ∈ cs, c.is R) :
    Spec Try.prog 7 [v, .int .u64 hh, .int .u64 r, .agg f.enc.toArray] R [] fun u H' => u = .bool true ∧ H' = [] := by
  have iv := hv.oneCell
  refine Spec.body Try.func7 rfl Try.results7 Try.ntmps7 rfl ?_
  refine .seq ?_
  refine .region ?_
  refine TriOps.boxA rfl (fun b7 => ?_)
  refine TriOps.q .assign ?_
  refine .nil ?_
  refine seqQ_n ?_
  refine .seq ?_
  refine .region ?_
  refine TriOps.q .move ?_
  refine TriOps.callN (few12_spec _ cs 20 (by omega) _ R hv.rx hD) (fun u T0 hu => ?_)
  obtain ⟨ds, hO, hds, _⟩ := hu
  have i0 := hO.oneCell
  refine TriOps.callN (played_spec _ ds _ hO.rx (fun d hd => (hds d hd).1.mono fun b o hb => .inl hb)) (fun u T1 hu => ?_)
  obtain ⟨g, S, rfl, hI, hS, _, _⟩ := hu
  obtain ⟨ps, vf, vr, Mf, Mr, hV⟩ := hI.view (R := sg T1) fun p hp => hp
  have pxg : PS T1 (.pointer (some ⟨g, 0, none⟩)) [.bool true, .int .u64 S.head, .int .u64 S.hor, .int .i64 (ps.length : Nat), vf, vr] := ⟨hV.pc⟩
  refine TriOps.q .assign ?_
  refine .nil ?_
  refine seqQ_n ?_
  refine .seq ?_
  refine .seq ?_
  refine .region ?_
  refine TriOps.q .move ?_
  refine TriOps.q (.eqNilP rfl rfl) ?_
  refine .nil ?_
  refine seqQ_n ?_
  refine .condF ?_
  refine .skip ?_
  refine seqQ_n ?_
  refine .seq ?_
  refine .region ?_
  refine TriOps.q .move ?_
  refine TriOps.q (.loadA rfl) ?_
  refine TriOps.q .move ?_
  refine TriOps.callN (read_spec (hV.mono fun b o hb => .inr (by have hb' : (b, o) ∈ T1 := hb; simp [hb'])) hS.len f r) (fun u T2 hu => ?_)
  obtain ⟨w, ys, rfl, hO2, hy⟩ := hu
  have i2 := hO2.oneCell
  refine TriOps.q .move ?_
  refine TriOps.q .extract ?_
  refine TriOps.q .extract ?_
  refine TriOps.q .assign ?_
  refine TriOps.q .assign ?_
  refine .nil ?_
  refine seqQ_n ?_
  refine .seq ?_
  refine .region ?_
  refine TriOps.q .move ?_
  refine TriOps.callR (hV.mono fun b o hb => .inr (by have hb' : (b, o) ∈ T1 := hb; simp [hb'])).horizon (fun v hv => ?_)
  subst hv
  refine TriOps.q .move ?_
  refine TriOps.callR (hV.mono fun b o hb => .inr (by have hb' : (b, o) ∈ T1 := hb; simp [hb'])).head (fun v hv => ?_)
  subst hv
  refine TriOps.q .assign ?_
  refine TriOps.q .assign ?_
  refine .nil ?_
  refine seqQ_n ?_
  refine .seq ?_
  refine .region ?_
  refine TriOps.q .move ?_
  refine TriOps.q .move ?_
  refine TriOps.callM (collect_spec g S T1 hI hS hh _) (fun u T3 hu => ?_)
  obtain ⟨rfl, hI3⟩ := hu
  obtain ⟨ps3, vf3, vr3, Mf3, Mr3, hV3⟩ := hI3.view (R := sg T3) fun p hp => hp
  refine TriOps.q .assign ?_
  refine .nil ?_
  refine seqQ_n ?_
  refine .seq ?_
  refine .region ?_
  refine TriOps.q .move ?_
  refine TriOps.q (.loadA rfl) ?_
  refine TriOps.q .move ?_
  refine TriOps.callN (read_spec (hV3.mono fun b o hb => .inr (by have hb' : (b, o) ∈ T3 := hb; simp [hb'])) (hS.collect hh).len f r) (fun u T4 hu => ?_)
  obtain ⟨w4, zs, rfl, hO4, hz⟩ := hu
  have i4 := hO4.oneCell
  refine TriOps.q .move ?_
  refine TriOps.q .extract ?_
  refine TriOps.q .extract ?_
  refine TriOps.q .assign ?_
  refine TriOps.q .assign ?_
  refine .nil ?_
  refine seqQ_n ?_
  refine .seq ?_
  refine .seq ?_
  refine .region ?_
  refine TriOps.q .move ?_
  refine TriOps.q .neI ?_
  refine .nil ?_
  refine seqQ_n ?_
  refine .cond rfl (fun h2 => ?_) (fun h2 => ?_)
  · skip
    have hsc : scan S hh = false := by
      cases hs : scan S hh with
      | false => rfl
      | true => rw [hs] at h2; simp at h2
    have e1 := scollect_not hsc
    rw [e1] at hV3 hz
    refine .seq ?_
    refine .region ?_
    refine TriOps.q .move ?_
    refine TriOps.q .eqI ?_
    refine TriOps.q .move ?_
    refine TriOps.split (t := 47) rfl (fun g9_2 => ?_) (fun g9_2 => ?_)
    · skip
      refine TriOps.gT g9_2 ?_
      refine TriOps.q .move ?_
      refine TriOps.gT g9_2 ?_
      refine TriOps.q .move ?_
      refine TriOps.gT g9_2 ?_
      refine TriOps.q .lss ?_
      refine TriOps.gT g9_2 ?_
      refine TriOps.q .move ?_
      refine TriOps.split (t := 51) rfl (fun g9_6 => ?_) (fun g9_6 => ?_)
      · skip
        refine TriOps.gF g9_6 ?_
        refine TriOps.gF g9_6 ?_
        refine TriOps.gF g9_6 ?_
        refine TriOps.gT g9_2 ?_
        refine TriOps.q (.pickTh g9_6) ?_
        refine TriOps.q (.pickTh g9_2) ?_
        refine TriOps.q .move ?_
        refine TriOps.gt rfl ?_
        refine TriOps.q .move ?_
        refine TriOps.gt rfl ?_
        refine TriOps.q .move ?_
        refine TriOps.gt rfl ?_
        refine TriOps.q .eqI ?_
        refine TriOps.q .pickT ?_
        refine TriOps.q .move ?_
        refine TriOps.split (t := 62) rfl (fun g9_17 => ?_) (fun g9_17 => ?_)
        · skip
          refine TriOps.gT g9_17 ?_
          refine TriOps.q .move ?_
          refine TriOps.gT g9_17 ?_
          refine TriOps.q .move ?_
          refine TriOps.gT g9_17 ?_
          refine TriOps.callR (same11_spec _ _ ys zs _ hO2.rx hO4.rx) (fun v hv => ?_)
          subst hv
          rw [decide_eq_true (rdOK_uniq hy hz rfl)]
          refine TriOps.q (.pickTh g9_17) ?_
          refine TriOps.q .move ?_
          refine TriOps.gt rfl ?_
          refine TriOps.q .move ?_
          refine TriOps.gt rfl ?_
          refine TriOps.callR (hV3.mono fun b o hb => .inr (by have hb' : (b, o) ∈ T3 := hb; simp [hb'])).horizon (fun v hv => ?_)
          subst hv
          refine TriOps.gt rfl ?_
          refine TriOps.q .move ?_
          refine TriOps.gt rfl ?_
          refine TriOps.q .eqI ?_
          refine TriOps.q .pickT ?_
          refine TriOps.q .move ?_
          refine TriOps.split (t := 73) rfl (fun g9_28 => ?_) (fun g9_28 => ?_)
          · skip
            refine TriOps.gT g9_28 ?_
            refine TriOps.callR (lives12_spec _) (fun v hv => ?_)
            subst hv
            refine TriOps.q (.pickTh g9_28) ?_
            refine TriOps.q .assign ?_
            refine .nil ?_
            refine seqQ_n ?_
            refine .ret (seqQ_r (retQ_r _ (.one (.tmp rfl)) (.none _) ?_))
            exact ⟨rfl, rfl⟩
          · skip
            simp at g9_28
        · skip
          rw [e1] at g9_17; simp at g9_17
      · skip
        refine TriOps.gT g9_6 ?_
        refine TriOps.q .move ?_
        refine TriOps.gT g9_6 ?_
        refine TriOps.q .move ?_
        refine TriOps.gT g9_6 ?_
        refine TriOps.q .gtr ?_
        refine TriOps.gT g9_2 ?_
        refine TriOps.q (.pickFh g9_6) ?_
        refine TriOps.q (.pickTh g9_2) ?_
        refine TriOps.q .move ?_
        refine TriOps.split (t := 57) rfl (fun g9_12 => ?_) (fun g9_12 => ?_)
        · skip
          refine TriOps.gT g9_12 ?_
          refine TriOps.q .move ?_
          refine TriOps.gT g9_12 ?_
          refine TriOps.q .move ?_
          refine TriOps.gT g9_12 ?_
          refine TriOps.q .eqI ?_
          refine TriOps.q (.pickTh g9_12) ?_
          refine TriOps.q .move ?_
          refine TriOps.split (t := 62) rfl (fun g9_17 => ?_) (fun g9_17 => ?_)
          · skip
            refine TriOps.gT g9_17 ?_
            refine TriOps.q .move ?_
            refine TriOps.gT g9_17 ?_
            refine TriOps.q .move ?_
            refine TriOps.gT g9_17 ?_
            refine TriOps.callR (same11_spec _ _ ys zs _ hO2.rx hO4.rx) (fun v hv => ?_)
            subst hv
            rw [decide_eq_true (rdOK_uniq hy hz rfl)]
            refine TriOps.q (.pickTh g9_17) ?_
            refine TriOps.q .move ?_
            refine TriOps.gt rfl ?_
            refine TriOps.q .move ?_
            refine TriOps.gt rfl ?_
            refine TriOps.callR (hV3.mono fun b o hb => .inr (by have hb' : (b, o) ∈ T3 := hb; simp [hb'])).horizon (fun v hv => ?_)
            subst hv
            refine TriOps.gt rfl ?_
            refine TriOps.q .move ?_
            refine TriOps.gt rfl ?_
            refine TriOps.q .eqI ?_
            refine TriOps.q .pickT ?_
            refine TriOps.q .move ?_
            refine TriOps.split (t := 73) rfl (fun g9_28 => ?_) (fun g9_28 => ?_)
            · skip
              refine TriOps.gT g9_28 ?_
              refine TriOps.callR (lives12_spec _) (fun v hv => ?_)
              subst hv
              refine TriOps.q (.pickTh g9_28) ?_
              refine TriOps.q .assign ?_
              refine .nil ?_
              refine seqQ_n ?_
              refine .ret (seqQ_r (retQ_r _ (.one (.tmp rfl)) (.none _) ?_))
              exact ⟨rfl, rfl⟩
            · skip
              simp at g9_28
          · skip
            rw [e1] at g9_17; simp at g9_17
        · skip
          have h8 := scan_no.1 hsc; have h9 := of_decide_eq_false g9_6; have h10 := of_decide_eq_false g9_12; exact absurd ⟨by omega, by omega⟩ h8
    · skip
      rw [hsc] at g9_2; cases g9_2
  · skip
    have hsc : scan S hh = true := by
      cases hs : scan S hh with
      | true => rfl
      | false => rw [hs] at h2; simp at h2
    have e2 := scollect_yes hsc
    have hsc2 := scan_iff.1 hsc
    refine .skip ?_
    refine seqQ_n ?_
    refine .seq ?_
    refine .region ?_
    refine TriOps.q .move ?_
    refine TriOps.callR (hV3.mono fun b o hb => .inr (by have hb' : (b, o) ∈ T3 := hb; simp [hb'])).horizon (fun v hv => ?_)
    subst hv
    refine TriOps.q .move ?_
    refine TriOps.q .eqI ?_
    refine TriOps.q .move ?_
    refine TriOps.split (t := 80) rfl (fun g10_4 => ?_) (fun g10_4 => ?_)
    · skip
      refine TriOps.gT g10_4 ?_
      refine TriOps.q .move ?_
      refine TriOps.gT g10_4 ?_
      refine TriOps.callR (hV3.mono fun b o hb => .inr (by have hb' : (b, o) ∈ T3 := hb; simp [hb'])).head (fun v hv => ?_)
      subst hv
      refine TriOps.gT g10_4 ?_
      refine TriOps.q .move ?_
      refine TriOps.gT g10_4 ?_
      refine TriOps.q .eqI ?_
      refine TriOps.q (.pickTh g10_4) ?_
      refine TriOps.q .move ?_
      refine TriOps.split (t := 86) rfl (fun g10_10 => ?_) (fun g10_10 => ?_)
      · skip
        refine TriOps.gT g10_10 ?_
        refine TriOps.q .move ?_
        refine TriOps.gT g10_10 ?_
        refine TriOps.q .move ?_
        refine TriOps.gT g10_10 ?_
        refine TriOps.q .geq ?_
        refine TriOps.gT g10_10 ?_
        refine TriOps.q .move ?_
        refine TriOps.split (t := 90) rfl (fun g10_14 => ?_) (fun g10_14 => ?_)
        · skip
          have hrh : hh ≤ r := of_decide_eq_true g10_14
          have e3 : scan (scollect S hh) r = scan S r := by rw [Bool.eq_iff_iff, scan_iff, scan_iff, e2]; simp only; omega
          refine TriOps.gT g10_14 ?_
          refine TriOps.q .move ?_
          refine TriOps.gT g10_14 ?_
          refine TriOps.q .move ?_
          refine TriOps.gT g10_14 ?_
          refine TriOps.q .eqI ?_
          refine TriOps.gT g10_10 ?_
          refine TriOps.q (.pickTh g10_14) ?_
          refine TriOps.gT g10_10 ?_
          refine TriOps.q .move ?_
          refine TriOps.split (t := 95) rfl (fun g10_19 => ?_) (fun g10_19 => ?_)
          · skip
            refine TriOps.gT g10_19 ?_
            refine TriOps.q .move ?_
            refine TriOps.gT g10_19 ?_
            refine TriOps.q .move ?_
            refine TriOps.gT g10_19 ?_
            refine TriOps.callR (same11_spec _ _ ys zs _ hO2.rx hO4.rx) (fun v hv => ?_)
            subst hv
            rw [decide_eq_true (rdOK_uniq hy hz (by rw [e3, srd_collect hS hh f (by rw [e2]; exact hrh)]))]
            refine TriOps.gT g10_10 ?_
            refine TriOps.q (.pickTh g10_19) ?_
            refine TriOps.gT g10_10 ?_
            refine TriOps.q .move ?_
            refine TriOps.gf rfl rfl ?_
            refine TriOps.gf rfl rfl ?_
            refine TriOps.gf rfl rfl ?_
            refine TriOps.gf rfl rfl ?_
            refine TriOps.gfU rfl ?_
            refine TriOps.gfU rfl ?_
            refine TriOps.gf rfl rfl ?_
            refine TriOps.gT g10_10 ?_
            refine TriOps.q .pickT ?_
            refine TriOps.q (.pickTh g10_10) ?_
            refine TriOps.q .move ?_
            refine TriOps.gt rfl ?_
            refine TriOps.callR (lives12_spec _) (fun v hv => ?_)
            subst hv
            refine TriOps.q .pickT ?_
            refine TriOps.q .assign ?_
            refine .nil ?_
            refine seqQ_n ?_
            refine .ret (retQ_r _ (.one (.tmp rfl)) (.none _) ?_)
            exact ⟨rfl, rfl⟩
          · skip
            rw [e3] at g10_19; simp at g10_19
        · skip
          have hrh : ¬ hh ≤ r := of_decide_eq_false g10_14
          have e3 : scan (scollect S hh) r = false := by rw [scan_no, e2]; simp only; omega
          refine TriOps.gF g10_14 ?_
          refine TriOps.gF g10_14 ?_
          refine TriOps.gF g10_14 ?_
          refine TriOps.gT g10_10 ?_
          refine TriOps.q (.pickFh g10_14) ?_
          refine TriOps.gT g10_10 ?_
          refine TriOps.q .move ?_
          refine TriOps.gf rfl rfl ?_
          refine TriOps.gf rfl rfl ?_
          refine TriOps.gf rfl rfl ?_
          refine TriOps.gT g10_10 ?_
          refine TriOps.q .pickF ?_
          refine TriOps.gT g10_10 ?_
          refine TriOps.q .move ?_
          refine TriOps.gt rfl ?_
          refine TriOps.q .move ?_
          refine TriOps.gt rfl ?_
          refine TriOps.q .move ?_
          refine TriOps.gt rfl ?_
          refine TriOps.q .lss ?_
          refine TriOps.gt rfl ?_
          refine TriOps.q .move ?_
          refine TriOps.split (t := 104) rfl (fun g10_28 => ?_) (fun g10_28 => ?_)
          · skip
            refine TriOps.gT g10_28 ?_
            refine TriOps.q .move ?_
            refine TriOps.gT g10_28 ?_
            refine TriOps.q .eqI ?_
            refine TriOps.gt rfl ?_
            refine TriOps.q (.pickTh g10_28) ?_
            refine TriOps.gT g10_10 ?_
            refine TriOps.q .pickF ?_
            refine TriOps.q (.pickTh g10_10) ?_
            refine TriOps.q .move ?_
            refine TriOps.split (t := 110) rfl (fun g10_34 => ?_) (fun g10_34 => ?_)
            · skip
              refine TriOps.gT g10_34 ?_
              refine TriOps.callR (lives12_spec _) (fun v hv => ?_)
              subst hv
              refine TriOps.q (.pickTh g10_34) ?_
              refine TriOps.q .assign ?_
              refine .nil ?_
              refine seqQ_n ?_
              refine .ret (retQ_r _ (.one (.tmp rfl)) (.none _) ?_)
              exact ⟨rfl, rfl⟩
            · skip
              rw [e3] at g10_34; simp at g10_34
          · skip
            exact absurd (of_decide_eq_false g10_28) (by omega)
      · skip
        rw [e2] at g10_10; simp at g10_10
    · skip
      rw [e2] at g10_4; simp at g10_4
end Go.Proofs.Ytkepgbimlolemaa
