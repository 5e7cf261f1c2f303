/- Layer 12's law on what was read. No condition. -/
import Derived.Test.YtkepgbimlolemaaStoY
import Derived.Test.YtkepgbimlolemaaStoW
set_option linter.unusedVariables false
set_option linter.unusedSimpArgs false
set_option maxRecDepth 4000
namespace Go.Proofs.Ytkepgbimlolemaa
/-- What a store still tells of what another one told at a revision. -/
structure Keeps (S S' : Sto) (f : Tpl) (r : Int) : Prop where
  head : S.head ≤ S'.head
  hor : S.hor ≤ S'.hor
  rd : r ≤ S.head → S'.hor ≤ r → srd S' f r = srd S f r
theorem Keeps.refl {S : Sto} {f : Tpl} {r : Int} : Keeps S S f r := ⟨Int.le_refl _, Int.le_refl _, fun _ _ => rfl⟩
theorem swrite_hor {S : Sto} {must no : List Tpl} {cs : List Chg} : (swrite S must no cs).hor = S.hor ∧ S.head ≤ (swrite S must no cs).head := by
  unfold swrite
  split
  · exact ⟨rfl, by simp only; omega⟩
  · exact ⟨rfl, Int.le_refl _⟩
theorem scollect_hor {S : Sto} {h : Int} : S.hor ≤ (scollect S h).hor ∧ (scollect S h).head = S.head := by
  unfold scollect
  split
  · rename_i hs; exact ⟨(scan_iff.1 hs).1, rfl⟩
  · exact ⟨Int.le_refl _, rfl⟩
theorem Keeps.write {S S' : Sto} {f : Tpl} {r : Int} (h : Keeps S S' f r) (hS : SOK S') (must no : List Tpl) (cs : List Chg) : Keeps S (swrite S' must no cs) f r := by
  obtain ⟨e1, e2⟩ := swrite_hor (S := S') (must := must) (no := no) (cs := cs)
  have := h.head
  refine ⟨by omega, by rw [e1]; exact h.hor, fun h1 h2 => ?_⟩
  rw [e1] at h2
  rw [srd_write hS must no cs f (by omega)]
  exact h.rd h1 h2
theorem Keeps.collect {S S' : Sto} {f : Tpl} {r : Int} (h : Keeps S S' f r) (hS : SOK S') (hh : Int) : Keeps S (scollect S' hh) f r := by
  obtain ⟨e1, e2⟩ := scollect_hor (S := S') (h := hh)
  have := h.hor
  refine ⟨by rw [e2]; exact h.head, by omega, fun h1 h2 => ?_⟩
  rw [srd_collect hS hh f h2]
  exact h.rd h1 (by omega)
theorem srd_perm {S S' : Sto} (h : S'.rows.Perm S.rows) (f : Tpl) (r : Int) : (srd S' f r).Perm (srd S f r) := (h.filter _).map _
theorem rdOK_perm {S S' : Sto} (h : S'.rows.Perm S.rows) {f : Tpl} {r : Int} (hs : scan S' r = scan S r) {ys zs : List Tpl} (hy : rdOK S f r ys) (hz : rdOK S' f r zs) : ys = zs := by
  refine ord_uniq (hy.1.trans ?_) hz.2 hy.2
  refine .trans ?_ hz.1.symm
  rw [hs]
  split
  · exact (srd_perm h f r).symm
  · exact .refl _
theorem skept_spec (v w : Value) (cs ms : List SCall) (f : Tpl) (r : Int) (R : Rds) (hv : RS R 12 SCall.enc v cs) (hD : ∀ c ∈ cs, c.is R) (hw : RS R 12 SCall.enc w ms) (hM : ∀ c ∈ ms, c.is R) :
    Spec Try.prog 9 [v, w, .agg f.enc.toArray, .int .u64 r] R [] fun u H' => u = .bool true ∧ H' = [] := by
  have iv := hv.oneCell
  have iw := hw.oneCell
  refine Spec.body Try.func9 rfl Try.results9 Try.ntmps9 rfl ?_
  refine .seq ?_
  refine .region ?_
  refine TriOps.boxA rfl (fun b6 => ?_)
  refine TriOps.q .assign ?_
  refine .nil ?_
  refine seqQ_n ?_
  refine .seq ?_
  refine .region ?_
  refine TriOps.q .move ?_
  refine TriOps.callN (few12_spec _ cs 20 (by omega) _ R hv.rx hD) (fun u T0 hu => ?_)
  obtain ⟨ds, hO, hds, _⟩ := hu
  have i0 := hO.oneCell
  refine TriOps.callN (played_spec _ ds _ hO.rx (fun d hd => (hds d hd).1.mono fun b o hb => .inl hb)) (fun u T1 hu => ?_)
  obtain ⟨g, S, rfl, hI, hS, _, _⟩ := hu
  obtain ⟨ps, vf, vr, Mf, Mr, hV⟩ := hI.view (R := sg T1) fun p hp => hp
  have pxg : PS T1 (.pointer (some ⟨g, 0, none⟩)) [.bool true, .int .u64 S.head, .int .u64 S.hor, .int .i64 (ps.length : Nat), vf, vr] := ⟨hV.pc⟩
  refine TriOps.q .assign ?_
  refine .nil ?_
  refine seqQ_n ?_
  refine .seq ?_
  refine .seq ?_
  refine .region ?_
  refine TriOps.q .move ?_
  refine TriOps.q (.eqNilP rfl rfl) ?_
  refine .nil ?_
  refine seqQ_n ?_
  refine .condF ?_
  refine .skip ?_
  refine seqQ_n ?_
  refine .seq ?_
  refine .region ?_
  refine TriOps.q .move ?_
  refine TriOps.q (.loadA rfl) ?_
  refine TriOps.q .move ?_
  refine TriOps.callN (read_spec (hV.mono fun b o hb => .inr (by have hb' : (b, o) ∈ T1 := hb; simp [hb'])) hS.len f r) (fun u T2 hu => ?_)
  obtain ⟨w1, ys, rfl, hO2, hy⟩ := hu
  have i2 := hO2.oneCell
  refine TriOps.q .move ?_
  refine TriOps.q .extract ?_
  refine TriOps.q .extract ?_
  refine TriOps.q .assign ?_
  refine TriOps.q .assign ?_
  refine .nil ?_
  refine seqQ_n ?_
  refine .seq ?_
  refine .region ?_
  refine TriOps.q .move ?_
  refine TriOps.callN (rows_spec (hV.mono fun b o hb => .inr (by have hb' : (b, o) ∈ T1 := hb; simp [hb'])) hS.len) (fun u Tr hu => ?_)
  obtain ⟨xs, hOr, hxp, hxo⟩ := hu
  have ir := hOr.oneCell
  have hrt := hS.right hxp hxo
  refine TriOps.q .move ?_
  refine TriOps.callR (hV.mono fun b o hb => .inr (by have hb' : (b, o) ∈ T1 := hb; simp [hb'])).head (fun v hv => ?_)
  subst hv
  refine TriOps.q .move ?_
  refine TriOps.callR (hV.mono fun b o hb => .inr (by have hb' : (b, o) ∈ T1 := hb; simp [hb'])).horizon (fun v hv => ?_)
  subst hv
  refine TriOps.callN (load_spec _ xs S.head S.hor _ hOr.rx (fun x hx => isTpl_fits (hS.ok x (hxp.mem_iff.1 hx)).1)) (fun u T5 hu => ?_)
  obtain ⟨p, e, rfl, hu⟩ := hu
  obtain ⟨g2, rfl, rfl, hI5⟩ : ∃ g2, e = 0 ∧ p = .pointer (some ⟨g2, 0, none⟩) ∧ SI g2 ⟨xs, S.head, S.hor⟩ T5 := by
    rcases hu with ⟨_, h2, g2, h3, h4⟩ | ⟨h1, _⟩
    · exact ⟨g2, h2, h3, h4⟩
    · exact absurd hrt h1
  have hS5 := SOK.load hrt hS.h0
  obtain ⟨ps5, vf5, vr5, Mf5, Mr5, hV5⟩ := hI5.view (R := sg T5) fun p hp => hp
  have hsc5 : scan ⟨xs, S.head, S.hor⟩ r = scan S r := rfl
  refine TriOps.q .move ?_
  refine TriOps.q .extract ?_
  refine TriOps.q .extract ?_
  refine TriOps.q .assign ?_
  refine TriOps.q .assign ?_
  refine .nil ?_
  refine seqQ_n ?_
  refine .seq ?_
  refine .seq ?_
  refine .region ?_
  refine TriOps.q .move ?_
  refine TriOps.q .neI ?_
  refine .nil ?_
  refine seqQ_n ?_
  refine .condF ?_
  refine .skip ?_
  refine seqQ_n ?_
  refine .seq ?_
  refine .region ?_
  refine TriOps.q .move ?_
  refine TriOps.q (.loadA rfl) ?_
  refine TriOps.q .move ?_
  refine TriOps.callN (read_spec (hV5.mono fun b o hb => .inr (by have hb' : (b, o) ∈ T5 := hb; simp [hb'])) hS5.len f r) (fun u T6 hu => ?_)
  obtain ⟨w6, zs, rfl, hO6, hz⟩ := hu
  have i6 := hO6.oneCell
  rw [hsc5]
  have hyz := rdOK_perm (S := S) (S' := ⟨xs, S.head, S.hor⟩) hxp rfl hy hz
  refine TriOps.q .move ?_
  refine TriOps.q .extract ?_
  refine TriOps.q .extract ?_
  refine TriOps.q .assign ?_
  refine TriOps.q .assign ?_
  refine .nil ?_
  refine seqQ_n ?_
  refine .seq ?_
  refine .seq ?_
  refine .region ?_
  refine TriOps.q .move ?_
  refine TriOps.q .move ?_
  refine TriOps.q .neI ?_
  refine TriOps.q .move ?_
  refine TriOps.split (t := 53) rfl (fun g9_3 => ?_) (fun g9_3 => ?_)
  · skip
    simp at g9_3
  · skip
    refine TriOps.gT g9_3 ?_
    refine TriOps.q .move ?_
    refine TriOps.gT g9_3 ?_
    refine TriOps.q .move ?_
    refine TriOps.gT g9_3 ?_
    refine TriOps.callR (same11_spec _ _ ys zs _ hO2.rx hO6.rx) (fun v hv => ?_)
    subst hv
    rw [decide_eq_true hyz]
    refine TriOps.gT g9_3 ?_
    refine TriOps.q .not ?_
    refine TriOps.q (.pickFh g9_3) ?_
    refine TriOps.q .move ?_
    refine TriOps.gt rfl ?_
    refine TriOps.q .move ?_
    refine TriOps.gt rfl ?_
    refine TriOps.callN (rows_spec (hV5.mono fun b o hb => .inr (by have hb' : (b, o) ∈ T5 := hb; simp [hb'])) hS5.len) (fun u T7 hu => ?_)
    obtain ⟨xs7, hO7, hxp7, _⟩ := hu
    have i7 := hO7.oneCell
    refine TriOps.gt rfl ?_
    refine TriOps.q (.lenO hO7) ?_
    refine TriOps.gt rfl ?_
    refine TriOps.q .move ?_
    refine TriOps.gt rfl ?_
    refine TriOps.callN (rows_spec (hV.mono fun b o hb => .inr (by have hb' : (b, o) ∈ T1 := hb; simp [hb'])) hS.len) (fun u T8 hu => ?_)
    obtain ⟨xs8, hO8, hxp8, _⟩ := hu
    have i8 := hO8.oneCell
    refine TriOps.gt rfl ?_
    refine TriOps.q (.lenO hO8) ?_
    refine TriOps.gt rfl ?_
    refine TriOps.q .neI ?_
    refine TriOps.q .pickF ?_
    refine .nil ?_
    refine seqQ_n ?_
    refine .cond rfl (fun h3 => ?_) (fun h3 => ?_)
    · skip
      have e1 := hxp7.length_eq
      have e2 := hxp8.length_eq
      have e3 := hxp.length_eq
      simp only at e1
      simp [e1, e2, e3] at h3
    · skip
      refine .skip ?_
      refine seqQ_n ?_
      refine .seq ?_
      refine .region ?_
      refine TriOps.q .move ?_
      refine TriOps.callN (few12_spec _ ms 15 (by omega) _ R hw.rx hM) (fun u Tm hu => ?_)
      obtain ⟨qs, hOm, hqs, _⟩ := hu
      have im := hOm.oneCell
      have hqle := hOm.le
      refine TriOps.q .assign ?_
      refine .nil ?_
      refine seqQ_n ?_
      refine .seq ?_
      refine .seq ?_
      refine .region ?_
      refine TriOps.q .assign ?_
      refine .nil ?_
      refine seqQ_n ?_
      refine .block ?_
      refine .loop (X := Nat × Sto × Seg) (fun y => y.1 ≤ qs.length ∧ SI g y.2.1 y.2.2 ∧ SOK y.2.1 ∧ Keeps S y.2.1 f r) (fun y => [(1, u), (3, .int .u64 r), (6, .pointer (some ⟨b6, 0, none⟩)), (9, .pointer (some ⟨g, 0, none⟩)), (10, w1), (11, .int .i64 (if scan S r then 0 else 12)), (16, .int .i64 (y.1 : Nat))]) (fun y => [Tm, T2, y.2.2, [(b6, .cells f.enc.toArray 73 (0, 0))]]) (fun y => qs.length - y.1) (0, S, T1) ⟨Nat.zero_le _, hI, hS, Keeps.refl⟩ ((((((((EnvLe.nil _).cons rfl).cons rfl).cons rfl).cons rfl).cons rfl).cons rfl).cons rfl) (HLe.pick [0, 5, 5, 6] _) ?_
      rintro ⟨i, S1, Ts⟩ ⟨hi, hI1, hS1, hK1⟩
      simp only at hi hI1 hS1 hK1 ⊢
      refine .seq ?_
      refine .seq ?_
      refine .region ?_
      refine TriOps.q .move ?_
      refine TriOps.q .move ?_
      refine TriOps.q (.lenO hOm) ?_
      refine TriOps.q .lss ?_
      refine .nil ?_
      refine seqQ_n ?_
      refine .cond rfl (fun h4 => ?_) (fun h4 => ?_)
      · skip
        have hlt : i < qs.length := by have := of_decide_eq_true h4; omega
        obtain ⟨c, hc⟩ : ∃ c, qs[i]? = some c := ⟨_, List.getElem?_eq_getElem hlt⟩
        have hcis := (hqs c (List.mem_of_getElem? hc)).1
        have icn := hcis.ones
        obtain ⟨kd, wm, wn, wc, f', rev, must, no, ss⟩ := c
        have hm : RS R 7 Tpl.enc wm must := hcis.hm
        have hno : RS R 7 Tpl.enc wn no := hcis.hn
        have hch : RS R 8 Chg.enc wc ss := hcis.hc
        obtain ⟨pm, km, rfl⟩ := hm.val
        obtain ⟨pn, kn, rfl⟩ := hno.val
        obtain ⟨pc, kc, rfl⟩ := hch.val
        have ien : Ones (SCall.enc ⟨kd, .slice pm must.length km, .slice pn no.length kn, .slice pc ss.length kc, f', rev, must, no, ss⟩) := hcis.ones
        refine .skip ?_
        refine seqQ_n ?_
        refine .seq ?_
        refine .block ?_
        refine .seq ?_
        refine .seq ?_
        refine .region ?_
        refine TriOps.q .move ?_
        refine TriOps.q .move ?_
        refine TriOps.indexO i hOm hc (fun p78 => ?_)
        refine TriOps.q (.fieldAddr rfl) ?_
        refine TriOps.q (.load1 rfl) ?_
        refine TriOps.q .eqI ?_
        refine .nil ?_
        refine seqQ_n ?_
        refine Tri.cut (X := Sto × Seg) (fun y => SI g y.1 y.2 ∧ SOK y.1 ∧ Keeps S y.1 f r) (fun y => [(1, u), (3, .int .u64 r), (6, .pointer (some ⟨b6, 0, none⟩)), (9, .pointer (some ⟨g, 0, none⟩)), (10, w1), (11, .int .i64 (if scan S r then 0 else 12)), (16, .int .i64 (i : Nat))]) (fun y => [Tm, T2, y.2, [(b6, .cells f.enc.toArray 73 (0, 0))]]) ?_ ?_
        ·
          refine .cond rfl (fun h5 => ?_) (fun h5 => ?_)
          · skip
            refine .region_tail 16 mixed (by kernel_rfl) ?_
            conv => arg 6; dsimp only [List.take]
            refine TriOps.q .move ?_
            refine TriOps.q .move ?_
            refine TriOps.q .move ?_
            refine TriOps.indexO i hOm hc (fun p85 => ?_)
            refine TriOps.q (.fieldAddr rfl) ?_
            refine TriOps.q (.load1 rfl) ?_
            refine TriOps.q .move ?_
            refine TriOps.q .move ?_
            refine TriOps.indexO i hOm hc (fun p90 => ?_)
            refine TriOps.q (.fieldAddr rfl) ?_
            refine TriOps.q (.load1 rfl) ?_
            refine TriOps.q .move ?_
            refine TriOps.q .move ?_
            refine TriOps.indexO i hOm hc (fun p95 => ?_)
            refine TriOps.q (.fieldAddr rfl) ?_
            refine TriOps.q (.load1 rfl) ?_
            refine .nil ?_
            refine TriOps.callM (write_spec g S1 Ts hI1 hS1 _ _ _ must no ss _ hm hno hch hcis.fm hcis.fn hcis.fc) (fun u T1 hu => ?_)
            obtain ⟨rfl, hI2⟩ := hu
            refine .nil ?_
            first
              | exact joinQ_n (swrite S1 must no ss, T1) ⟨hI2, hS1.write must no ss, hK1.write hS1 must no ss⟩ ((((((((EnvLe.nil _).cons rfl).cons rfl).cons rfl).cons rfl).cons rfl).cons rfl).cons rfl) (HLe.pick [0, 0, 0, 0] _)
              | exact joinQ_n (S1, Ts) ⟨hI1, hS1, hK1⟩ ((((((((EnvLe.nil _).cons rfl).cons rfl).cons rfl).cons rfl).cons rfl).cons rfl).cons rfl) (HLe.refl _)
          · skip
            refine .skip ?_
            first
              | exact joinQ_n (swrite S1 must no ss, T1) ⟨hI2, hS1.write must no ss, hK1.write hS1 must no ss⟩ ((((((((EnvLe.nil _).cons rfl).cons rfl).cons rfl).cons rfl).cons rfl).cons rfl).cons rfl) (HLe.pick [0, 0, 0, 0] _)
              | exact joinQ_n (S1, Ts) ⟨hI1, hS1, hK1⟩ ((((((((EnvLe.nil _).cons rfl).cons rfl).cons rfl).cons rfl).cons rfl).cons rfl).cons rfl) (HLe.refl _)
        · intro x hx
          obtain ⟨S2, T2_⟩ := x
          obtain ⟨hI2, hS2, hK2⟩ := hx
          simp only at hI2 hS2 hK2 ⊢
          refine seqQ_n ?_
          refine .seq ?_
          refine .region ?_
          refine TriOps.q .move ?_
          refine TriOps.q .move ?_
          refine TriOps.indexO i hOm hc (fun p101 => ?_)
          refine TriOps.q (.fieldAddr rfl) ?_
          refine TriOps.q (.load1 rfl) ?_
          refine TriOps.q .eqI ?_
          refine .nil ?_
          refine seqQ_n ?_
          refine .cond rfl (fun h6 => ?_) (fun h6 => ?_)
          · skip
            refine .region ?_
            refine TriOps.q .move ?_
            refine TriOps.q .move ?_
            refine TriOps.q .move ?_
            refine TriOps.indexO i hOm hc (fun p108 => ?_)
            refine TriOps.q (.fieldAddr rfl) ?_
            refine TriOps.q (.load1 rfl) ?_
            refine TriOps.callM (collect_spec g S2 T2_ hI2 hS2 rev _) (fun u T3 hu => ?_)
            obtain ⟨rfl, hI3⟩ := hu
            refine .nil ?_
            refine blkQ_n (seqQ_n ?_)
            refine .region ?_
            refine TriOps.q .move ?_
            refine TriOps.q (.i64 ((i + 1 : Nat) : Int) .add ⟨by omega, by omega, by omega⟩) ?_
            refine TriOps.q .assign ?_
            refine .nil ?_
            first
              | exact loopQ_i (i + 1, scollect S2 rev, T3) ⟨hlt, hI3, hS2.collect rev, hK2.collect hS2 rev⟩ (by simp only; omega) ((((((((EnvLe.nil _).cons rfl).cons rfl).cons rfl).cons rfl).cons rfl).cons rfl).cons rfl) (HLe.pick [0, 0, 0, 0] _)
              | exact loopQ_i (i + 1, S2, T2_) ⟨hlt, hI2, hS2, hK2⟩ (by simp only; omega) ((((((((EnvLe.nil _).cons rfl).cons rfl).cons rfl).cons rfl).cons rfl).cons rfl).cons rfl) (HLe.refl _)
          · skip
            refine .skip ?_
            refine blkQ_n (seqQ_n ?_)
            refine .region ?_
            refine TriOps.q .move ?_
            refine TriOps.q (.i64 ((i + 1 : Nat) : Int) .add ⟨by omega, by omega, by omega⟩) ?_
            refine TriOps.q .assign ?_
            refine .nil ?_
            first
              | exact loopQ_i (i + 1, scollect S2 rev, T3) ⟨hlt, hI3, hS2.collect rev, hK2.collect hS2 rev⟩ (by simp only; omega) ((((((((EnvLe.nil _).cons rfl).cons rfl).cons rfl).cons rfl).cons rfl).cons rfl).cons rfl) (HLe.pick [0, 0, 0, 0] _)
              | exact loopQ_i (i + 1, S2, T2_) ⟨hlt, hI2, hS2, hK2⟩ (by simp only; omega) ((((((((EnvLe.nil _).cons rfl).cons rfl).cons rfl).cons rfl).cons rfl).cons rfl).cons rfl) (HLe.refl _)
      · skip
        obtain ⟨ps9, vf9, vr9, Mf9, Mr9, hV9⟩ := hI1.view (R := sg Ts) fun p hp => hp
        refine .exit (seqQ_x (loopQ_x (blkQ_x ?_)))
        refine seqQ_n ?_
        refine .seq ?_
        refine .region ?_
        refine TriOps.q .move ?_
        refine TriOps.q (.loadA rfl) ?_
        refine TriOps.q .move ?_
        refine TriOps.callN (read_spec (hV9.mono fun b o hb => .inr (by have hb' : (b, o) ∈ Ts := hb; simp [hb'])) hS1.len f r) (fun u T9 hu => ?_)
        obtain ⟨w9, qs9, rfl, hO9, hz9⟩ := hu
        have i9 := hO9.oneCell
        refine TriOps.q .move ?_
        refine TriOps.q .extract ?_
        refine TriOps.q .extract ?_
        refine TriOps.q .assign ?_
        refine TriOps.q .assign ?_
        refine .nil ?_
        refine seqQ_n ?_
        refine .seq ?_
        refine .seq ?_
        refine .region ?_
        refine TriOps.q .move ?_
        refine TriOps.q .neI ?_
        refine .nil ?_
        refine seqQ_n ?_
        refine .cond rfl (fun h7 => ?_) (fun h7 => ?_)
        · skip
          have hsc : scan S r = false := by
            cases hs : scan S r with
            | false => rfl
            | true => rw [hs] at h7; simp at h7
          refine .seq ?_
          refine .region ?_
          refine TriOps.q .move ?_
          refine TriOps.q .eqI ?_
          refine TriOps.q .move ?_
          refine TriOps.split (t := 123) rfl (fun g21_2 => ?_) (fun g21_2 => ?_)
          · skip
            refine TriOps.gT g21_2 ?_
            refine TriOps.callR (lives12_spec _) (fun v hv => ?_)
            subst hv
            refine TriOps.q (.pickTh g21_2) ?_
            refine TriOps.q .assign ?_
            refine .nil ?_
            refine seqQ_n ?_
            refine .ret (seqQ_r (retQ_r _ (.one (.tmp rfl)) (.none _) ?_))
            exact ⟨rfl, rfl⟩
          · skip
            rw [hsc] at g21_2; cases g21_2
        · skip
          have hsc : scan S r = true := by
            cases hs : scan S r with
            | true => rfl
            | false => rw [hs] at h7; simp at h7
          have hsi := scan_iff.1 hsc
          have k1 := hK1.head
          refine .skip ?_
          refine seqQ_n ?_
          refine .seq ?_
          refine .region ?_
          refine TriOps.q .move ?_
          refine TriOps.q .eqI ?_
          refine TriOps.q .move ?_
          refine TriOps.split (t := 128) rfl (fun g22_2 => ?_) (fun g22_2 => ?_)
          · skip
            have hs1 : scan S1 r = true := by
              cases hs : scan S1 r with
              | true => rfl
              | false => rw [hs] at g22_2; simp at g22_2
            refine TriOps.gT g22_2 ?_
            refine TriOps.q .move ?_
            refine TriOps.gT g22_2 ?_
            refine TriOps.q .move ?_
            refine TriOps.gT g22_2 ?_
            refine TriOps.callR (same11_spec _ _ qs9 ys _ hO9.rx hO2.rx) (fun v hv => ?_)
            subst hv
            rw [decide_eq_true (rdOK_uniq hz9 hy (by rw [hs1, hsc, if_pos rfl, if_pos rfl]; exact hK1.rd hsi.2 (scan_iff.1 hs1).1))]
            refine TriOps.q (.pickTh g22_2) ?_
            refine TriOps.q .move ?_
            refine TriOps.gf rfl rfl ?_
            refine TriOps.gf rfl rfl ?_
            refine TriOps.gf rfl rfl ?_
            refine TriOps.gfU rfl ?_
            refine TriOps.gfU rfl ?_
            refine TriOps.gfU rfl ?_
            refine TriOps.gfU rfl ?_
            refine TriOps.gf rfl rfl ?_
            refine TriOps.gf rfl rfl ?_
            refine TriOps.gfU rfl ?_
            refine TriOps.gfU rfl ?_
            refine TriOps.gfU rfl ?_
            refine TriOps.gf rfl rfl ?_
            refine TriOps.q .pickT ?_
            refine TriOps.q .move ?_
            refine TriOps.gt rfl ?_
            refine TriOps.callR (lives12_spec _) (fun v hv => ?_)
            subst hv
            refine TriOps.q .pickT ?_
            refine TriOps.q .assign ?_
            refine .nil ?_
            refine seqQ_n ?_
            refine .ret (retQ_r _ (.one (.tmp rfl)) (.none _) ?_)
            exact ⟨rfl, rfl⟩
          · skip
            have hs1 : scan S1 r = false := by
              cases hs : scan S1 r with
              | false => rfl
              | true => rw [hs] at g22_2; simp at g22_2
            have hlt9 : r < S1.hor := by have := scan_no.1 hs1; omega
            have hq9 := rdOK_not hz9 hs1
            subst hq9
            refine TriOps.gF g22_2 ?_
            refine TriOps.gF g22_2 ?_
            refine TriOps.gF g22_2 ?_
            refine TriOps.q (.pickFh g22_2) ?_
            refine TriOps.q .move ?_
            refine TriOps.gt rfl ?_
            refine TriOps.q .move ?_
            refine TriOps.gt rfl ?_
            refine TriOps.q .eqI ?_
            refine TriOps.gt rfl ?_
            refine TriOps.q .move ?_
            refine TriOps.split (t := 136) rfl (fun g22_10 => ?_) (fun g22_10 => ?_)
            · skip
              refine TriOps.gT g22_10 ?_
              refine TriOps.q .move ?_
              refine TriOps.gT g22_10 ?_
              refine TriOps.q .move ?_
              refine TriOps.gT g22_10 ?_
              refine TriOps.callR (hV9.mono fun b o hb => .inr (by have hb' : (b, o) ∈ Ts := hb; simp [hb'])).horizon (fun v hv => ?_)
              subst hv
              refine TriOps.gT g22_10 ?_
              refine TriOps.q .lss ?_
              refine TriOps.gt rfl ?_
              refine TriOps.q (.pickTh g22_10) ?_
              refine TriOps.gt rfl ?_
              refine TriOps.q .move ?_
              refine TriOps.split (t := 142) rfl (fun g22_16 => ?_) (fun g22_16 => ?_)
              · skip
                refine TriOps.gT g22_16 ?_
                refine TriOps.q .move ?_
                refine TriOps.gT g22_16 ?_
                refine TriOps.q (.lenO hO9) ?_
                refine TriOps.gT g22_16 ?_
                refine TriOps.q .eqI ?_
                refine TriOps.gt rfl ?_
                refine TriOps.q (.pickTh g22_16) ?_
                refine TriOps.q .pickF ?_
                refine TriOps.q .move ?_
                refine TriOps.split (t := 148) rfl (fun g22_22 => ?_) (fun g22_22 => ?_)
                · skip
                  refine TriOps.gT g22_22 ?_
                  refine TriOps.callR (lives12_spec _) (fun v hv => ?_)
                  subst hv
                  refine TriOps.q (.pickTh g22_22) ?_
                  refine TriOps.q .assign ?_
                  refine .nil ?_
                  refine seqQ_n ?_
                  refine .ret (retQ_r _ (.one (.tmp rfl)) (.none _) ?_)
                  exact ⟨rfl, rfl⟩
                · skip
                  simp at g22_22
              · skip
                exact absurd (of_decide_eq_false g22_16) (by omega)
            · skip
              rw [hs1] at g22_10; simp at g22_10
end Go.Proofs.Ytkepgbimlolemaa
