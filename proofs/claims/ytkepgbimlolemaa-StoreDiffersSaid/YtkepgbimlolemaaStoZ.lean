/- Layer 12's law on what a revision differs by. No condition. -/
import Derived.Test.YtkepgbimlolemaaStoY
set_option linter.unusedVariables false
set_option linter.unusedSimpArgs false
set_option maxRecDepth 4000
namespace Go.Proofs.Ytkepgbimlolemaa
theorem WI.len {S : Sto} (hS : SOK S) {cs : List Chg} (hw : WOK S cs) {i : Nat} {W : List Tpl} (h : WI S cs i W) : W.length ≤ 4096 := by
  have hf := hS.fold (hw.take i)
  rw [h.pm.length_eq, srd, List.length_map]
  exact Nat.le_trans (List.length_filter_le _ _) hf.len
theorem sdiffers_spec (v : Value) (cs : List SCall) (c : SCall) (R : Rds) (hv : RS R 12 SCall.enc v cs) (hD : ∀ c ∈ cs, c.is R) (hc : c.is R) :
    Spec Try.prog 6 [v, .agg c.enc.toArray] R [] fun u H' => u = .bool true ∧ H' = [] := by
  have iv := hv.oneCell
  have ic := hc.ones
  refine Spec.body Try.func6 rfl Try.results6 Try.ntmps6 rfl ?_
  refine .seq ?_
  refine .region ?_
  refine TriOps.boxA rfl (fun b3 => ?_)
  refine TriOps.q .assign ?_
  refine .nil ?_
  refine seqQ_n ?_
  refine .seq ?_
  refine .region ?_
  refine TriOps.q .move ?_
  refine TriOps.callN (few12_spec _ cs 20 (by omega) _ R hv.rx hD) (fun u T0 hu => ?_)
  obtain ⟨ds, hO, hds, _⟩ := hu
  have i0 := hO.oneCell
  refine TriOps.callN (played_spec _ ds _ hO.rx (fun d hd => (hds d hd).1.mono fun b o hb => .inl hb)) (fun u T1 hu => ?_)
  obtain ⟨g, S, rfl, hI, hS, _, _⟩ := hu
  obtain ⟨ps, vf, vr, Mf, Mr, hV⟩ := hI.view (R := sg T1) fun p hp => hp
  have pxg : PS T1 (.pointer (some ⟨g, 0, none⟩)) [.bool true, .int .u64 S.head, .int .u64 S.hor, .int .i64 (ps.length : Nat), vf, vr] := ⟨hV.pc⟩
  refine TriOps.q .assign ?_
  refine .nil ?_
  refine seqQ_n ?_
  refine .seq ?_
  refine .region ?_
  refine TriOps.q (.loadA rfl) ?_
  refine TriOps.buildSlice1A (fun b21 => ?_)
  refine TriOps.callN (few12_spec _ [c] 1 (by omega) _ R (RS.lits (enc := SCall.enc) (xs := [c]) rfl (by simp [SCall.enc, Tpl.enc]) (by have := ic.h; simpa using this)) (by simpa using hc)) (fun u Tc hu => ?_)
  obtain ⟨es, hO1, hes, hdl⟩ := hu
  obtain ⟨d, rfl⟩ : ∃ d, es = [d] := by
    match es, hdl with
    | [d], _ => exact ⟨d, rfl⟩
  obtain ⟨hdis, hfew⟩ := hes d (by simp)
  have idn := hdis.ones
  refine TriOps.indexO 0 hO1 (show [d][0]? = some d from rfl) (fun p23 => ?_)
  refine TriOps.q (.loadA rfl) ?_
  refine TriOps.storeA rfl rfl ?_
  refine .nil ?_
  refine seqQ_n ?_
  refine .seq ?_
  refine .seq ?_
  refine .region ?_
  skip
  obtain ⟨kd, wm, wn, wc, f, rev, must, no, ss⟩ := d
  have hm : RS R 7 Tpl.enc wm must := hdis.hm
  have hno : RS R 7 Tpl.enc wn no := hdis.hn
  have hch : RS R 8 Chg.enc wc ss := hdis.hc
  obtain ⟨pm, km, rfl⟩ := hm.val
  obtain ⟨pn, kn, rfl⟩ := hno.val
  obtain ⟨pc, kc, rfl⟩ := hch.val
  have ien : Ones (SCall.enc ⟨kd, .slice pm must.length km, .slice pn no.length kn, .slice pc ss.length kc, f, rev, must, no, ss⟩) := hdis.ones
  refine TriOps.q .move ?_
  refine TriOps.q (.eqNilP rfl rfl) ?_
  refine .nil ?_
  refine seqQ_n ?_
  refine .condF ?_
  refine .skip ?_
  refine seqQ_n ?_
  refine .seq ?_
  refine .region ?_
  refine TriOps.q .move ?_
  refine TriOps.callR (hV.mono fun b o hb => .inr (by have hb' : (b, o) ∈ T1 := hb; simp [hb'])).head (fun v hv => ?_)
  subst hv
  refine TriOps.q .assign ?_
  refine .nil ?_
  refine seqQ_n ?_
  refine .seq ?_
  refine .region ?_
  refine TriOps.q .move ?_
  refine TriOps.q .bld ?_
  refine TriOps.q .move ?_
  refine TriOps.callN (read_spec (hV.mono fun b o hb => .inr (by have hb' : (b, o) ∈ T1 := hb; simp [hb'])) hS.len (⟨⟨#[]⟩, ⟨#[]⟩, ⟨#[]⟩, ⟨#[]⟩, ⟨#[]⟩, ⟨#[]⟩, ⟨#[]⟩⟩ : Tpl) S.head) (fun u T2 hu => ?_)
  obtain ⟨w, ys, rfl, hO2, hy⟩ := hu
  have i2 := hO2.oneCell
  refine TriOps.q .move ?_
  refine TriOps.q .extract ?_
  refine TriOps.q .extract ?_
  refine TriOps.q .assign ?_
  refine TriOps.q .assign ?_
  refine .nil ?_
  refine seqQ_n ?_
  refine .seq ?_
  refine .region ?_
  refine TriOps.q .move ?_
  refine TriOps.q (.fieldAddr rfl) ?_
  refine TriOps.q (.load1 rfl) ?_
  refine TriOps.q (.fieldAddr rfl) ?_
  refine TriOps.q (.load1 rfl) ?_
  refine TriOps.q (.fieldAddr rfl) ?_
  refine TriOps.q (.load1 rfl) ?_
  refine TriOps.callM (write_spec g S T1 hI hS _ _ _ must no ss _ hm hno hch hdis.fm hdis.fn hdis.fc) (fun u T3 hu => ?_)
  obtain ⟨rfl, hI3⟩ := hu
  have hS3 := hS.write must no ss
  obtain ⟨ps3, vf3, vr3, Mf3, Mr3, hV3⟩ := hI3.view (R := sg T3) fun p hp => hp
  refine TriOps.q .move ?_
  refine TriOps.q .extract ?_
  refine TriOps.q .extract ?_
  refine TriOps.q .assign ?_
  refine TriOps.q .assign ?_
  refine .nil ?_
  refine seqQ_n ?_
  refine .seq ?_
  refine .region ?_
  refine TriOps.q .move ?_
  refine TriOps.q .bld ?_
  refine TriOps.q .move ?_
  refine TriOps.callR (hV3.mono fun b o hb => .inr (by have hb' : (b, o) ∈ T3 := hb; simp [hb'])).head (fun v hv => ?_)
  subst hv
  refine TriOps.callN (read_spec (hV3.mono fun b o hb => .inr (by have hb' : (b, o) ∈ T3 := hb; simp [hb'])) hS3.len (⟨⟨#[]⟩, ⟨#[]⟩, ⟨#[]⟩, ⟨#[]⟩, ⟨#[]⟩, ⟨#[]⟩, ⟨#[]⟩⟩ : Tpl) (swrite S must no ss).head) (fun u T4 hu => ?_)
  obtain ⟨w4, zs, rfl, hO4, hz⟩ := hu
  have i4 := hO4.oneCell
  have hs3 : scan (swrite S must no ss) (swrite S must no ss).head = true := scan_iff.2 ⟨hS3.h1, Int.le_refl _⟩
  rw [hs3]
  refine TriOps.q .move ?_
  refine TriOps.q .extract ?_
  refine TriOps.q .extract ?_
  refine TriOps.q .assign ?_
  refine TriOps.q .assign ?_
  refine .nil ?_
  refine seqQ_n ?_
  refine .seq ?_
  refine .seq ?_
  refine .region ?_
  refine TriOps.q .move ?_
  refine TriOps.q .neI ?_
  refine .nil ?_
  refine seqQ_n ?_
  refine .condF ?_
  refine .skip ?_
  refine seqQ_n ?_
  refine .seq ?_
  refine .seq ?_
  refine .region ?_
  refine TriOps.q .move ?_
  refine TriOps.q .neI ?_
  refine .nil ?_
  refine seqQ_n ?_
  refine .cond rfl (fun h3 => ?_) (fun h3 => ?_)
  · skip
    have hcode : scode S must no ss ≠ 0 := by simpa using h3
    have e1 := swrite_else hcode
    rw [e1] at hV3 hz
    refine .seq ?_
    refine .region ?_
    refine TriOps.q .move ?_
    refine TriOps.q .eqI ?_
    refine TriOps.q .move ?_
    refine TriOps.split (t := 61) rfl (fun g12_2 => ?_) (fun g12_2 => ?_)
    · skip
      refine TriOps.gT g12_2 ?_
      refine TriOps.q .move ?_
      refine TriOps.gT g12_2 ?_
      refine TriOps.callR (hV3.mono fun b o hb => .inr (by have hb' : (b, o) ∈ T3 := hb; simp [hb'])).head (fun v hv => ?_)
      subst hv
      refine TriOps.gT g12_2 ?_
      refine TriOps.q .move ?_
      refine TriOps.gT g12_2 ?_
      refine TriOps.q .eqI ?_
      refine TriOps.q (.pickTh g12_2) ?_
      refine TriOps.q .move ?_
      refine TriOps.split (t := 67) rfl (fun g12_8 => ?_) (fun g12_8 => ?_)
      · skip
        refine TriOps.gT g12_8 ?_
        refine TriOps.q .move ?_
        refine TriOps.gT g12_8 ?_
        refine TriOps.q .move ?_
        refine TriOps.gT g12_8 ?_
        refine TriOps.callR (same11_spec _ _ ys zs _ hO2.rx hO4.rx) (fun v hv => ?_)
        subst hv
        rw [decide_eq_true (rdOK_uniq hy hz rfl)]
        refine TriOps.q (.pickTh g12_8) ?_
        refine TriOps.q .move ?_
        refine TriOps.gt rfl ?_
        refine TriOps.callR (lives12_spec _) (fun v hv => ?_)
        subst hv
        refine TriOps.q .pickT ?_
        refine TriOps.q .assign ?_
        refine .nil ?_
        refine seqQ_n ?_
        refine .ret (seqQ_r (retQ_r _ (.one (.tmp rfl)) (.none _) ?_))
        exact ⟨rfl, rfl⟩
      · skip
        simp at g12_8
    · skip
      rw [if_neg hcode] at g12_2; simp at g12_2
  · skip
    have hcode : scode S must no ss = 0 := by simpa using h3
    have hw := scode_zero hcode
    have hwh := hw.head
    have hhead : (swrite S must no ss).head = S.head + 1 := by unfold swrite; rw [if_pos hcode]
    rw [hhead] at hz
    refine .skip ?_
    refine seqQ_n ?_
    refine .seq ?_
    refine .region ?_
    refine TriOps.q .move ?_
    refine TriOps.q .assign ?_
    refine .nil ?_
    refine seqQ_n ?_
    refine .seq ?_
    refine .seq ?_
    refine .region ?_
    refine TriOps.q .assign ?_
    refine .nil ?_
    refine seqQ_n ?_
    refine .block ?_
    refine .loop (X := Nat × List Tpl × Value × Seg) (fun y => y.1 ≤ ss.length ∧ OS 88 7 Tpl.enc y.2.2.1 y.2.1 y.2.2.2 ∧ WI S ss y.1 y.2.1) (fun y => [(3, .pointer (some ⟨b3, 0, none⟩)), (5, .pointer (some ⟨g, 0, none⟩)), (6, .int .u64 S.head), (9, .int .u64 (S.head + 1)), (11, w4), (13, y.2.2.1), (14, .int .i64 (y.1 : Nat))]) (fun y => [T4, y.2.2.2, T3, [(b3, .cells (SCall.enc ⟨kd, .slice pm must.length km, .slice pn no.length kn, .slice pc ss.length kc, f, rev, must, no, ss⟩).toArray 75 (0, 0))]]) (fun y => ss.length - y.1) (0, ys, w, T2) ⟨Nat.zero_le _, hO2, WI.start hS hy⟩ (by rw [if_pos hcode]; exact (((((((EnvLe.nil _).cons rfl).cons rfl).cons rfl).cons rfl).cons rfl).cons rfl).cons rfl) (HLe.pick [0, 0, 2, 3] _) ?_
    rintro ⟨i, W, vw, Tw⟩ ⟨hi, hW, hWI⟩
    simp only at hi hW hWI ⊢
    have iw := hW.oneCell
    have hwl := hWI.len hS hw
    have hlc := hch.le
    refine .seq ?_
    refine .seq ?_
    refine .region ?_
    refine TriOps.q .move ?_
    refine TriOps.q (.fieldAddr rfl) ?_
    refine TriOps.q (.load1 rfl) ?_
    refine TriOps.q (.lenR hch) ?_
    refine TriOps.q .lss ?_
    refine .nil ?_
    refine seqQ_n ?_
    refine .cond rfl (fun h4 => ?_) (fun h4 => ?_)
    · skip
      have hlt : i < ss.length := by have := of_decide_eq_true h4; omega
      obtain ⟨e, he⟩ : ∃ e, ss[i]? = some e := ⟨_, List.getElem?_eq_getElem hlt⟩
      refine .skip ?_
      refine seqQ_n ?_
      refine .seq ?_
      refine .block ?_
      refine .seq ?_
      refine .region ?_
      refine TriOps.q .assign ?_
      refine .nil ?_
      refine seqQ_n ?_
      refine .seq ?_
      refine .seq ?_
      refine .region ?_
      refine TriOps.q .assign ?_
      refine .nil ?_
      refine seqQ_n ?_
      refine .block ?_
      refine .loop (X := Nat × Value × Seg) (fun y => y.1 ≤ W.length ∧ OS 88 7 Tpl.enc y.2.1 ((W.take y.1).filter fun t => decide (t ≠ e.t)) y.2.2) (fun y => [(3, .pointer (some ⟨b3, 0, none⟩)), (5, .pointer (some ⟨g, 0, none⟩)), (6, .int .u64 S.head), (9, .int .u64 (S.head + 1)), (11, w4), (13, vw), (14, .int .i64 (i : Nat)), (15, y.2.1), (16, .int .i64 (y.1 : Nat))]) (fun y => [T4, Tw, T3, [(b3, .cells (SCall.enc ⟨kd, .slice pm must.length km, .slice pn no.length kn, .slice pc ss.length kc, f, rev, must, no, ss⟩).toArray 75 (0, 0))], y.2.2]) (fun y => W.length - y.1) (0, .slice none 0 0, []) ⟨Nat.zero_le _, OS.nil⟩ ((((((((((EnvLe.nil _).cons rfl).cons rfl).cons rfl).cons rfl).cons rfl).cons rfl).cons rfl).cons rfl).cons rfl) (HLe.ofPerm (by simp)) ?_
      rintro ⟨k, vn, Tn⟩ ⟨hk, hN⟩
      simp only at hk hN ⊢
      have i_n := hN.oneCell
      have hnl : ((W.take k).filter fun t => decide (t ≠ e.t)).length ≤ 4096 := Nat.le_trans (List.length_filter_le _ _) (by rw [List.length_take]; omega)
      refine .seq ?_
      refine .seq ?_
      refine .region ?_
      refine TriOps.q .move ?_
      refine TriOps.q .move ?_
      refine TriOps.q (.lenO hW) ?_
      refine TriOps.q .lss ?_
      refine .nil ?_
      refine seqQ_n ?_
      refine .cond rfl (fun h5 => ?_) (fun h5 => ?_)
      · skip
        have hlt5 : k < W.length := by have := of_decide_eq_true h5; omega
        obtain ⟨x, hx⟩ : ∃ x, W[k]? = some x := ⟨_, List.getElem?_eq_getElem hlt5⟩
        have htk : W.take (k + 1) = W.take k ++ [x] := by rw [List.take_add_one, hx]; rfl
        refine .skip ?_
        refine seqQ_n ?_
        refine .seq ?_
        refine .block ?_
        refine .seq ?_
        refine .region_still mixed (by kernel_rfl) ?_
        refine TriOps.q .move ?_
        refine TriOps.q .move ?_
        refine TriOps.indexO k hW hx (fun p91 => ?_)
        refine TriOps.q (.loadA rfl) ?_
        refine TriOps.q (.fieldAddr rfl) ?_
        refine TriOps.q (.load1 rfl) ?_
        refine TriOps.q .move ?_
        refine TriOps.indexR i hch he (fun p96 => ?_)
        refine TriOps.q (.fieldAddr rfl) ?_
        refine TriOps.q (.loadT rfl) ?_
        refine TriOps.q (.neA rfl rfl (Tpl.kinds x) (Tpl.kinds e.t)) ?_
        rw [show cellsEq x.enc (List.take 7 (List.drop 1 e.enc)) = decide (x = e.t) from Tpl.eq x e.t]
        refine .nil ?_
        refine seqQ_n ?_
        refine .cond rfl (fun h6 => ?_) (fun h6 => ?_)
        · skip
          refine .region ?_
          refine TriOps.q .move ?_
          refine TriOps.q .move ?_
          refine TriOps.q .move ?_
          refine TriOps.indexO k hW hx (fun p103 => ?_)
          refine TriOps.q (.loadA rfl) ?_
          refine TriOps.buildSlice1A (fun b105 => ?_)
          refine TriOps.append hN (RS.lits (xs := [x]) rfl (by simp [Tpl.enc]) (by simp [Tpl.enc, oneCell])) (by simp only [List.length_singleton]; omega) (fun v5 T5 hO5 => ?_)
          refine TriOps.q .assign ?_
          refine .nil ?_
          refine blkQ_n (seqQ_n ?_)
          refine .region ?_
          refine TriOps.q .move ?_
          refine TriOps.q (.i64 ((k + 1 : Nat) : Int) .add ⟨by omega, by omega, by omega⟩) ?_
          refine TriOps.q .assign ?_
          refine .nil ?_
          first
            | exact loopQ_i (k + 1, v5, T5) ⟨hlt5, by simp only; rw [htk, List.filter_append, List.filter_cons, if_pos (by simpa using h6)]; exact hO5⟩ (by simp only; omega) ((((((((((EnvLe.nil _).cons rfl).cons rfl).cons rfl).cons rfl).cons rfl).cons rfl).cons rfl).cons rfl).cons rfl) (HLe.pick [1, 1, 1, 1, 1] _)
            | exact loopQ_i (k + 1, vn, Tn) ⟨hlt5, by simp only; rw [htk, List.filter_append, List.filter_cons, if_neg (by simpa using h6)]; simpa using hN⟩ (by simp only; omega) ((((((((((EnvLe.nil _).cons rfl).cons rfl).cons rfl).cons rfl).cons rfl).cons rfl).cons rfl).cons rfl).cons rfl) (HLe.refl _)
        · skip
          refine .skip ?_
          refine blkQ_n (seqQ_n ?_)
          refine .region ?_
          refine TriOps.q .move ?_
          refine TriOps.q (.i64 ((k + 1 : Nat) : Int) .add ⟨by omega, by omega, by omega⟩) ?_
          refine TriOps.q .assign ?_
          refine .nil ?_
          first
            | exact loopQ_i (k + 1, v5, T5) ⟨hlt5, by simp only; rw [htk, List.filter_append, List.filter_cons, if_pos (by simpa using h6)]; exact hO5⟩ (by simp only; omega) ((((((((((EnvLe.nil _).cons rfl).cons rfl).cons rfl).cons rfl).cons rfl).cons rfl).cons rfl).cons rfl).cons rfl) (HLe.pick [1, 1, 1, 1, 1] _)
            | exact loopQ_i (k + 1, vn, Tn) ⟨hlt5, by simp only; rw [htk, List.filter_append, List.filter_cons, if_neg (by simpa using h6)]; simpa using hN⟩ (by simp only; omega) ((((((((((EnvLe.nil _).cons rfl).cons rfl).cons rfl).cons rfl).cons rfl).cons rfl).cons rfl).cons rfl).cons rfl) (HLe.refl _)
      · skip
        have hke : k = W.length := by have := of_decide_eq_false h5; omega
        subst hke
        rw [List.take_length] at hN hnl
        refine .exit (seqQ_x (loopQ_x (blkQ_x ?_)))
        refine seqQ_n ?_
        refine .seq ?_
        refine .seq ?_
        refine .region ?_
        refine TriOps.q (.fieldAddr rfl) ?_
        refine TriOps.q (.load1 rfl) ?_
        refine TriOps.q .move ?_
        refine TriOps.indexR i hch he (fun p110 => ?_)
        refine TriOps.q (.fieldAddr rfl) ?_
        refine TriOps.q (.load1 rfl) ?_
        refine .nil ?_
        refine seqQ_n ?_
        refine .cond rfl (fun h7 => ?_) (fun h7 => ?_)
        · skip
          refine .region ?_
          refine TriOps.q .move ?_
          refine TriOps.q (.fieldAddr rfl) ?_
          refine TriOps.q (.load1 rfl) ?_
          refine TriOps.q .move ?_
          refine TriOps.indexR i hch he (fun p117 => ?_)
          refine TriOps.q (.fieldAddr rfl) ?_
          refine TriOps.q (.loadT rfl) ?_
          refine TriOps.callN (rinsert_spec _ _ e.t _ hN.rx (by omega)) (fun u Tu hO7 => ?_)
          have i7 := hO7.oneCell
          refine TriOps.q .assign ?_
          refine .nil ?_
          refine seqQ_n ?_
          refine .region ?_
          refine TriOps.q .move ?_
          refine TriOps.q .assign ?_
          refine .nil ?_
          refine blkQ_n (seqQ_n ?_)
          refine .region ?_
          refine TriOps.q .move ?_
          refine TriOps.q (.i64 ((i + 1 : Nat) : Int) .add ⟨by omega, by omega, by omega⟩) ?_
          refine TriOps.q .assign ?_
          refine .nil ?_
          first
            | refine loopQ_i (i + 1, _, u, Tu) ⟨hlt, hO7, ?_⟩ (by simp only; omega) ((((((((EnvLe.nil _).cons rfl).cons rfl).cons rfl).cons rfl).cons rfl).cons rfl).cons rfl) (HLe.pick [1, 0, 1, 1] _)
              have := hWI.next hS hw he
              rw [if_pos h7] at this
              exact this
            | refine loopQ_i (i + 1, _, vn, Tn) ⟨hlt, hN, ?_⟩ (by simp only; omega) ((((((((EnvLe.nil _).cons rfl).cons rfl).cons rfl).cons rfl).cons rfl).cons rfl).cons rfl) (HLe.pick [0, 3, 1, 1] _)
              have := hWI.next hS hw he
              rw [if_neg (by rw [h7]; simp)] at this
              exact this
        · skip
          refine .skip ?_
          refine seqQ_n ?_
          refine .region ?_
          refine TriOps.q .move ?_
          refine TriOps.q .assign ?_
          refine .nil ?_
          refine blkQ_n (seqQ_n ?_)
          refine .region ?_
          refine TriOps.q .move ?_
          refine TriOps.q (.i64 ((i + 1 : Nat) : Int) .add ⟨by omega, by omega, by omega⟩) ?_
          refine TriOps.q .assign ?_
          refine .nil ?_
          first
            | refine loopQ_i (i + 1, _, u, Tu) ⟨hlt, hO7, ?_⟩ (by simp only; omega) ((((((((EnvLe.nil _).cons rfl).cons rfl).cons rfl).cons rfl).cons rfl).cons rfl).cons rfl) (HLe.pick [1, 0, 1, 1] _)
              have := hWI.next hS hw he
              rw [if_pos h7] at this
              exact this
            | refine loopQ_i (i + 1, _, vn, Tn) ⟨hlt, hN, ?_⟩ (by simp only; omega) ((((((((EnvLe.nil _).cons rfl).cons rfl).cons rfl).cons rfl).cons rfl).cons rfl).cons rfl) (HLe.pick [0, 3, 1, 1] _)
              have := hWI.next hS hw he
              rw [if_neg (by rw [h7]; simp)] at this
              exact this
    · skip
      have hie : i = ss.length := by have := of_decide_eq_false h4; omega
      subst hie
      refine .exit (seqQ_x (loopQ_x (blkQ_x ?_)))
      refine seqQ_n ?_
      refine .seq ?_
      refine .region ?_
      refine TriOps.q .move ?_
      refine TriOps.q .move ?_
      refine TriOps.q (.u64 (S.head + 1) .add ⟨rfl, by have := hS.h0; have := hS.h1; omega, by omega⟩) ?_
      refine TriOps.q .eqI ?_
      refine TriOps.q .move ?_
      refine TriOps.split (t := 126) rfl (fun g26_4 => ?_) (fun g26_4 => ?_)
      · skip
        refine TriOps.gT g26_4 ?_
        refine TriOps.q .move ?_
        refine TriOps.gT g26_4 ?_
        refine TriOps.callR (hV3.mono fun b o hb => .inr (by have hb' : (b, o) ∈ T3 := hb; simp [hb'])).head (fun v hv => ?_)
        subst hv
        refine TriOps.gT g26_4 ?_
        refine TriOps.q .move ?_
        refine TriOps.gT g26_4 ?_
        refine TriOps.q .eqI ?_
        refine TriOps.q (.pickTh g26_4) ?_
        refine TriOps.q .move ?_
        refine TriOps.split (t := 132) rfl (fun g26_10 => ?_) (fun g26_10 => ?_)
        · skip
          refine TriOps.gT g26_10 ?_
          refine TriOps.q .move ?_
          refine TriOps.gT g26_10 ?_
          refine TriOps.q .move ?_
          refine TriOps.gT g26_10 ?_
          refine TriOps.callR (same11_spec _ _ zs W _ hO4.rx hW.rx) (fun v hv => ?_)
          subst hv
          rw [decide_eq_true (WI.done hS hcode hWI hz)]
          refine TriOps.q (.pickTh g26_10) ?_
          refine TriOps.q .move ?_
          refine TriOps.gt rfl ?_
          refine TriOps.callR (lives12_spec _) (fun v hv => ?_)
          subst hv
          refine TriOps.q .pickT ?_
          refine TriOps.q .assign ?_
          refine .nil ?_
          refine seqQ_n ?_
          refine .ret (retQ_r _ (.one (.tmp rfl)) (.none _) ?_)
          exact ⟨rfl, rfl⟩
        · skip
          rw [hhead] at g26_10; simp at g26_10
      · skip
        simp at g26_4
end Go.Proofs.Ytkepgbimlolemaa
