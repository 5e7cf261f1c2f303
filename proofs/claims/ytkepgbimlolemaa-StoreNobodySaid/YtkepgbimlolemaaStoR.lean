/- Layer 12's law on stores that no call made. No condition. -/
import Derived.Test.YtkepgbimlolemaaStoN
import Derived.Test.YtkepgbimlolemaaStoO
set_option linter.unusedVariables false
set_option linter.unusedSimpArgs false
set_option maxRecDepth 4000
namespace Go.Proofs.Ytkepgbimlolemaa
theorem nil_rs {α : Type} {sz : Nat} {enc : α → List Value} {R : Rds} : RS R sz enc (.slice none 0 0) ([] : List α) := (OS.nil (E := 0)).rs fun p hp => by cases hp
theorem snobody_spec (c : SCall) (R : Rds) (hc : c.is R) : Spec Try.prog 8 [.agg c.enc.toArray] R [] fun v H' => v = .bool true ∧ H' = [] := by
  have ic := hc.ones
  refine Spec.body Try.func8 rfl Try.results8 Try.ntmps8 rfl ?_
  refine .seq ?_
  refine .region ?_
  refine TriOps.boxA rfl (fun b1 => ?_)
  refine TriOps.q .assign ?_
  refine .nil ?_
  refine seqQ_n ?_
  refine .seq ?_
  refine .region ?_
  refine TriOps.q (.loadA rfl) ?_
  refine TriOps.buildSlice1A (fun b12 => ?_)
  refine TriOps.callN (few12_spec _ [c] 1 (by omega) _ R (RS.lits (enc := SCall.enc) (xs := [c]) rfl (by simp [SCall.enc, Tpl.enc]) (by have := ic.h; simpa using this)) (by simpa using hc)) (fun u T0 hu => ?_)
  obtain ⟨ds, hO, hds, hdl⟩ := hu
  obtain ⟨d, rfl⟩ : ∃ d, ds = [d] := by
    match ds, hdl with
    | [d], _ => exact ⟨d, rfl⟩
  obtain ⟨hdis, hfew⟩ := hds d (by simp)
  have idn := hdis.ones
  refine TriOps.indexO 0 hO (show [d][0]? = some d from rfl) (fun p14 => ?_)
  refine TriOps.q (.loadA rfl) ?_
  refine TriOps.storeA rfl rfl ?_
  refine .nil ?_
  refine seqQ_n ?_
  refine .seq ?_
  refine .seq ?_
  refine .region ?_
  skip
  obtain ⟨kd, wm, wn, wc, f, rev, must, no, ss⟩ := d
  have hm : RS R 7 Tpl.enc wm must := hdis.hm
  have hno : RS R 7 Tpl.enc wn no := hdis.hn
  have hch : RS R 8 Chg.enc wc ss := hdis.hc
  obtain ⟨pm, km, rfl⟩ := hm.val
  obtain ⟨pn, kn, rfl⟩ := hno.val
  obtain ⟨pc, kc, rfl⟩ := hch.val
  have ien : Ones (SCall.enc ⟨kd, .slice pm must.length km, .slice pn no.length kn, .slice pc ss.length kc, f, rev, must, no, ss⟩) := hdis.ones
  refine TriOps.q .assign ?_
  refine .nil ?_
  refine seqQ_n ?_
  refine .block ?_
  refine .loop (X := Nat) (fun k => k ≤ 2) (fun k => [(1, .pointer (some ⟨b1, 0, none⟩)), (3, .int .i64 (k : Nat))]) (fun _ => [[(b1, .cells (SCall.enc ⟨kd, .slice pm must.length km, .slice pn no.length kn, .slice pc ss.length kc, f, rev, must, no, ss⟩).toArray 75 (0, 0))]]) (fun k => 2 - k) 0 (by omega) (((EnvLe.nil _).cons rfl).cons rfl) (HLe.pick [2] _) ?_
  rintro k hk
  refine .seq ?_
  refine .seq ?_
  refine .region ?_
  refine TriOps.q .move ?_
  refine TriOps.q .lss ?_
  refine .nil ?_
  refine seqQ_n ?_
  refine .cond rfl (fun h1 => ?_) (fun h1 => ?_)
  · skip
    refine .skip ?_
    refine seqQ_n ?_
    refine .seq ?_
    refine .block ?_
    refine .seq ?_
    refine .region ?_
    refine TriOps.q .assign ?_
    refine .nil ?_
    refine seqQ_n ?_
    refine .seq ?_
    refine .seq ?_
    refine .region ?_
    refine TriOps.q .move ?_
    refine TriOps.q .eqI ?_
    refine .nil ?_
    refine seqQ_n ?_
    refine Tri.cut (X := Value × Seg) (fun y => DeadS (sg y.2) y.1) (fun y => [(1, .pointer (some ⟨b1, 0, none⟩)), (3, .int .i64 (k : Nat)), (4, y.1)]) (fun y => [[(b1, .cells (SCall.enc ⟨kd, .slice pm must.length km, .slice pn no.length kn, .slice pc ss.length kc, f, rev, must, no, ss⟩).toArray 75 (0, 0))], y.2]) ?_ ?_
    ·
      refine .cond rfl (fun h2 => ?_) (fun h2 => ?_)
      · skip
        refine .region ?_
        refine TriOps.q .bld ?_
        refine TriOps.boxA rfl (fun b23 => ?_)
        refine TriOps.q .assign ?_
        refine .nil ?_
        first
          | exact joinQ_n (.pointer (some ⟨b23, 0, none⟩), [(b23, .cells [.bool false, .int .u64 0, .int .u64 0, .int .i64 0, .map none, .map none].toArray 98 (0, 0))]) (.inr ⟨b23, rfl, by simp [sg]⟩) ((((EnvLe.nil _).cons rfl).cons rfl).cons rfl) (HLe.pick [1, 0] _)
          | exact joinQ_n (.pointer none, []) (.inl rfl) ((((EnvLe.nil _).cons rfl).cons rfl).cons rfl) (HLe.ofPerm (by simp))
      · skip
        refine .skip ?_
        first
          | exact joinQ_n (.pointer (some ⟨b23, 0, none⟩), [(b23, .cells [.bool false, .int .u64 0, .int .u64 0, .int .i64 0, .map none, .map none].toArray 98 (0, 0))]) (.inr ⟨b23, rfl, by simp [sg]⟩) ((((EnvLe.nil _).cons rfl).cons rfl).cons rfl) (HLe.pick [1, 0] _)
          | exact joinQ_n (.pointer none, []) (.inl rfl) ((((EnvLe.nil _).cons rfl).cons rfl).cons rfl) (HLe.ofPerm (by simp))
    · intro x hx
      obtain ⟨p, Td⟩ := x
      have hdead : DeadS (sg Td) p := hx
      have ip := hdead.one
      simp only
      refine seqQ_n ?_
      refine .seq ?_
      refine .region ?_
      refine TriOps.q .move ?_
      refine TriOps.q (.fieldAddr rfl) ?_
      refine TriOps.q (.load1 rfl) ?_
      refine TriOps.q (.fieldAddr rfl) ?_
      refine TriOps.q (.load1 rfl) ?_
      refine TriOps.q (.fieldAddr rfl) ?_
      refine TriOps.q (.load1 rfl) ?_
      refine TriOps.callR (sdWrite_spec p _ _ _ _ (hdead.mono fun b o hb => .inr (by have hb' : (b, o) ∈ Td := hb; simp [hb']))) (fun v hv => ?_)
      subst hv
      refine TriOps.q .move ?_
      refine TriOps.q .extract ?_
      refine TriOps.q .extract ?_
      refine TriOps.q .assign ?_
      refine TriOps.q .assign ?_
      refine .nil ?_
      refine seqQ_n ?_
      refine .seq ?_
      refine .region ?_
      refine TriOps.q .move ?_
      refine TriOps.q (.fieldAddr rfl) ?_
      refine TriOps.q (.loadT rfl) ?_
      refine TriOps.q (.fieldAddr rfl) ?_
      refine TriOps.q (.load1 rfl) ?_
      refine TriOps.callR (sdRead_spec p f rev _ (hdead.mono fun b o hb => .inr (by have hb' : (b, o) ∈ Td := hb; simp [hb']))) (fun v hv => ?_)
      subst hv
      refine TriOps.q .move ?_
      refine TriOps.q .extract ?_
      refine TriOps.q .extract ?_
      refine TriOps.q .assign ?_
      refine TriOps.q .assign ?_
      refine .nil ?_
      refine seqQ_n ?_
      refine .seq ?_
      refine .seq ?_
      refine .region ?_
      refine TriOps.q .move ?_
      refine TriOps.q .neI ?_
      refine TriOps.q .move ?_
      refine TriOps.split (t := 46) rfl (fun g10_2 => ?_) (fun g10_2 => ?_)
      · skip
        first | cases g10_2 | simp at g10_2
      · skip
        refine TriOps.gT g10_2 ?_
        refine TriOps.q .move ?_
        refine TriOps.gT g10_2 ?_
        refine TriOps.q .neI ?_
        refine TriOps.q (.pickFh g10_2) ?_
        refine TriOps.q .move ?_
        refine TriOps.split (t := 50) rfl (fun g10_6 => ?_) (fun g10_6 => ?_)
        · skip
          first | cases g10_6 | simp at g10_6
        · skip
          refine TriOps.gT g10_6 ?_
          refine TriOps.q .move ?_
          refine TriOps.gT g10_6 ?_
          refine TriOps.q (.lenR (nil_rs (sz := 7) (enc := Tpl.enc) (R := R))) ?_
          refine TriOps.gT g10_6 ?_
          refine TriOps.q .gtr ?_
          refine TriOps.q (.pickFh g10_6) ?_
          refine TriOps.q .move ?_
          refine TriOps.split (t := 55) rfl (fun g10_11 => ?_) (fun g10_11 => ?_)
          · skip
            first | cases g10_11 | simp at g10_11
          · skip
            refine TriOps.gT g10_11 ?_
            refine TriOps.q .move ?_
            refine TriOps.gT g10_11 ?_
            refine TriOps.q .neI ?_
            refine TriOps.q (.pickFh g10_11) ?_
            refine TriOps.q .move ?_
            refine TriOps.split (t := 59) rfl (fun g10_15 => ?_) (fun g10_15 => ?_)
            · skip
              first | cases g10_15 | simp at g10_15
            · skip
              refine TriOps.gT g10_15 ?_
              refine TriOps.q .move ?_
              refine TriOps.gT g10_15 ?_
              refine TriOps.q (.fieldAddr rfl) ?_
              refine TriOps.gT g10_15 ?_
              refine TriOps.q (.load1 rfl) ?_
              refine TriOps.gT g10_15 ?_
              refine TriOps.callR (sdCollect_spec p rev _ (hdead.mono fun b o hb => .inr (by have hb' : (b, o) ∈ Td := hb; simp [hb']))) (fun v hv => ?_)
              subst hv
              refine TriOps.gT g10_15 ?_
              refine TriOps.q .neI ?_
              refine TriOps.q (.pickFh g10_15) ?_
              refine TriOps.q .move ?_
              refine TriOps.split (t := 66) rfl (fun g10_22 => ?_) (fun g10_22 => ?_)
              · skip
                first | cases g10_22 | simp at g10_22
              · skip
                refine TriOps.gT g10_22 ?_
                refine TriOps.q .move ?_
                refine TriOps.gT g10_22 ?_
                refine TriOps.callR (sdHead_spec p _ (hdead.mono fun b o hb => .inr (by have hb' : (b, o) ∈ Td := hb; simp [hb']))) (fun v hv => ?_)
                subst hv
                refine TriOps.gT g10_22 ?_
                refine TriOps.q .neI ?_
                refine TriOps.q (.pickFh g10_22) ?_
                refine TriOps.q .move ?_
                refine TriOps.split (t := 71) rfl (fun g10_27 => ?_) (fun g10_27 => ?_)
                · skip
                  first | cases g10_27 | simp at g10_27
                · skip
                  refine TriOps.gT g10_27 ?_
                  refine TriOps.q .move ?_
                  refine TriOps.gT g10_27 ?_
                  refine TriOps.callR (sdHorizon_spec p _ (hdead.mono fun b o hb => .inr (by have hb' : (b, o) ∈ Td := hb; simp [hb']))) (fun v hv => ?_)
                  subst hv
                  refine TriOps.gT g10_27 ?_
                  refine TriOps.q .neI ?_
                  refine TriOps.q (.pickFh g10_27) ?_
                  refine TriOps.q .move ?_
                  refine TriOps.split (t := 76) rfl (fun g10_32 => ?_) (fun g10_32 => ?_)
                  · skip
                    first | cases g10_32 | simp at g10_32
                  · skip
                    refine TriOps.gT g10_32 ?_
                    refine TriOps.q .move ?_
                    refine TriOps.gT g10_32 ?_
                    refine TriOps.callR (sdRows_spec p _ (hdead.mono fun b o hb => .inr (by have hb' : (b, o) ∈ Td := hb; simp [hb']))) (fun v hv => ?_)
                    subst hv
                    refine TriOps.gT g10_32 ?_
                    refine TriOps.q (.lenR (nil_rs (sz := 9) (enc := SRow.enc) (R := R))) ?_
                    refine TriOps.gT g10_32 ?_
                    refine TriOps.q .gtr ?_
                    refine TriOps.q (.pickFh g10_32) ?_
                    refine .nil ?_
                    refine seqQ_n ?_
                    refine .cond rfl (fun h3 => ?_) (fun h3 => ?_)
                    · skip
                      first | cases h3 | simp at h3
                    · skip
                      refine .skip ?_
                      refine seqQ_n ?_
                      refine .seq ?_
                      refine .region ?_
                      refine TriOps.q .assign ?_
                      refine .nil ?_
                      refine seqQ_n ?_
                      refine .block ?_
                      refine .loop (X := Nat) (fun i => i ≤ ss.length) (fun i => [(1, .pointer (some ⟨b1, 0, none⟩)), (3, .int .i64 (k : Nat)), (4, p), (9, .int .i64 (i : Nat))]) (fun _ => [[(b1, .cells (SCall.enc ⟨kd, .slice pm must.length km, .slice pn no.length kn, .slice pc ss.length kc, f, rev, must, no, ss⟩).toArray 75 (0, 0))], Td]) (fun i => ss.length - i) 0 (Nat.zero_le _) (((((EnvLe.nil _).cons rfl).cons rfl).cons rfl).cons rfl) (HLe.refl _) ?_
                      rintro i hi
                      have hlc := hch.le
                      refine .seq ?_
                      refine .seq ?_
                      refine .region ?_
                      refine TriOps.q .move ?_
                      refine TriOps.q (.fieldAddr rfl) ?_
                      refine TriOps.q (.load1 rfl) ?_
                      refine TriOps.q (.lenR hch) ?_
                      refine TriOps.q .lss ?_
                      refine .nil ?_
                      refine seqQ_n ?_
                      refine .cond rfl (fun h4 => ?_) (fun h4 => ?_)
                      · skip
                        have hlt : i < ss.length := by have := of_decide_eq_true h4; omega
                        obtain ⟨e, he⟩ : ∃ e, ss[i]? = some e := ⟨_, List.getElem?_eq_getElem hlt⟩
                        refine .skip ?_
                        refine seqQ_n ?_
                        refine .seq ?_
                        refine .block ?_
                        refine .seq ?_
                        refine .region ?_
                        refine TriOps.q (.fieldAddr rfl) ?_
                        refine TriOps.q (.load1 rfl) ?_
                        refine TriOps.q .move ?_
                        refine TriOps.indexR i hch he (fun p92 => ?_)
                        refine TriOps.q (.fieldAddr rfl) ?_
                        refine TriOps.q (.loadT rfl) ?_
                        refine TriOps.allocA (fun b10 => ?_)
                        refine TriOps.storeA rfl rfl ?_
                        refine .nil ?_
                        refine seqQ_n ?_
                        refine .seq ?_
                        refine .region ?_
                        refine TriOps.q .move ?_
                        refine TriOps.q (.loadA rfl) ?_
                        refine TriOps.callR (sdHas_spec p e.t 0 _ (hdead.mono fun b o hb => .inr (by have hb' : (b, o) ∈ Td := hb; simp [hb']))) (fun v hv => ?_)
                        subst hv
                        refine TriOps.q .move ?_
                        refine TriOps.gt rfl ?_
                        refine TriOps.q .move ?_
                        refine TriOps.gt rfl ?_
                        refine TriOps.q (.fieldAddr rfl) ?_
                        refine TriOps.gt rfl ?_
                        refine TriOps.q (.loadT rfl) ?_
                        refine TriOps.gt rfl ?_
                        refine TriOps.q (.fieldAddr rfl) ?_
                        refine TriOps.gt rfl ?_
                        refine TriOps.q (.load1 rfl) ?_
                        refine TriOps.gt rfl ?_
                        refine TriOps.callR (sdSubjects_spec p e.t.os e.t.oi e.t.rel 0 _ (hdead.mono fun b o hb => .inr (by have hb' : (b, o) ∈ Td := hb; simp [hb']))) (fun v hv => ?_)
                        subst hv
                        refine TriOps.gt rfl ?_
                        refine TriOps.q (.lenR (nil_rs (sz := 4) (enc := Sub.enc) (R := R))) ?_
                        refine TriOps.gt rfl ?_
                        refine TriOps.q .gtr ?_
                        refine TriOps.q .pickF ?_
                        refine TriOps.q .move ?_
                        refine TriOps.split (t := 108) rfl (fun g16_13 => ?_) (fun g16_13 => ?_)
                        · skip
                          first | cases g16_13 | simp at g16_13
                        · skip
                          refine TriOps.gT g16_13 ?_
                          refine TriOps.q .move ?_
                          refine TriOps.gT g16_13 ?_
                          refine TriOps.q (.fieldAddr rfl) ?_
                          refine TriOps.gT g16_13 ?_
                          refine TriOps.q (.loadT rfl) ?_
                          refine TriOps.gT g16_13 ?_
                          refine TriOps.callR (sdSets_spec p e.t.sub 0 _ (hdead.mono fun b o hb => .inr (by have hb' : (b, o) ∈ Td := hb; simp [hb']))) (fun v hv => ?_)
                          subst hv
                          refine TriOps.gT g16_13 ?_
                          refine TriOps.q (.lenR (nil_rs (sz := 4) (enc := Sub.enc) (R := R))) ?_
                          refine TriOps.gT g16_13 ?_
                          refine TriOps.q .gtr ?_
                          refine TriOps.q (.pickFh g16_13) ?_
                          refine .nil ?_
                          refine seqQ_n ?_
                          refine .cond rfl (fun h5 => ?_) (fun h5 => ?_)
                          · skip
                            first | cases h5 | simp at h5
                          · skip
                            refine .skip ?_
                            refine blkQ_n (seqQ_n ?_)
                            refine .region ?_
                            refine TriOps.q .move ?_
                            refine TriOps.q (.i64 ((i + 1 : Nat) : Int) .add ⟨by omega, by omega, by omega⟩) ?_
                            refine TriOps.q .assign ?_
                            refine .nil ?_
                            exact loopQ_i (i + 1) hlt (by omega) (((((EnvLe.nil _).cons rfl).cons rfl).cons rfl).cons rfl) (HLe.pick [1, 1] _)
                      · skip
                        refine .exit (seqQ_x (loopQ_x (blkQ_x ?_)))
                        refine blkQ_n (seqQ_n ?_)
                        refine .region ?_
                        refine TriOps.q .move ?_
                        refine TriOps.q (.i64 ((k + 1 : Nat) : Int) .add ⟨by omega, by omega, by omega⟩) ?_
                        refine TriOps.q .assign ?_
                        refine .nil ?_
                        exact loopQ_i (k + 1) (by have := of_decide_eq_true h1; omega) (by have := of_decide_eq_true h1; omega) (((EnvLe.nil _).cons rfl).cons rfl) (HLe.pick [0] _)
  · skip
    refine .exit (seqQ_x (loopQ_x (blkQ_x ?_)))
    refine seqQ_n ?_
    refine .seq ?_
    refine .region ?_
    refine TriOps.callR (lives12_spec _) (fun v hv => ?_)
    subst hv
    refine TriOps.q .assign ?_
    refine .nil ?_
    refine seqQ_n ?_
    refine .ret (retQ_r _ (.one (.tmp rfl)) (.none _) ?_)
    exact ⟨rfl, rfl⟩
end Go.Proofs.Ytkepgbimlolemaa
