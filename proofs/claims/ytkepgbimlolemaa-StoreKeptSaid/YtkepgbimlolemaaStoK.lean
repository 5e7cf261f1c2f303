/- Calls upon a store; the document's cut of them; lives. No condition. -/
import Derived.Test.YtkepgbimlolemaaStoG
import Derived.Test.YtkepgbimlolemaaStoH
set_option linter.unusedVariables false
set_option linter.unusedSimpArgs false
set_option maxRecDepth 4000
namespace Go.Proofs.Ytkepgbimlolemaa
structure SCall where
  kind : Int
  wm : Value
  wn : Value
  wc : Value
  f : Tpl
  rev : Int
  must : List Tpl
  no : List Tpl
  cs : List Chg
def SCall.enc (c : SCall) : List Value := [.int .i64 c.kind, c.wm, c.wn, c.wc] ++ c.f.enc ++ [.int .u64 c.rev]
structure SCall.is (R : Rds) (c : SCall) : Prop where
  hm : RS R 7 Tpl.enc c.wm c.must
  hn : RS R 7 Tpl.enc c.wn c.no
  hc : RS R 8 Chg.enc c.wc c.cs
  fm : ∀ t ∈ c.must, t.fits
  fn : ∀ t ∈ c.no, t.fits
  fc : ∀ d ∈ c.cs, d.t.fits
  r0 : 0 ≤ c.rev
  r1 : c.rev ≤ 18446744073709551615
def SCall.few (c : SCall) : Prop := c.must.length ≤ 34 ∧ c.no.length ≤ 34 ∧ c.cs.length ≤ 34
theorem SCall.is.mono {R R' : Rds} {c : SCall} (h : c.is R) (hR : ∀ b o, R b o → R' b o) : c.is R' := ⟨h.hm.mono hR, h.hn.mono hR, h.hc.mono hR, h.fm, h.fn, h.fc, h.r0, h.r1⟩
theorem SCall.is.ones {R : Rds} {c : SCall} (h : c.is R) : Ones c.enc := ⟨by
  obtain ⟨p1, k1, e1⟩ := h.hm.val
  obtain ⟨p2, k2, e2⟩ := h.hn.val
  obtain ⟨p3, k3, e3⟩ := h.hc.val
  simp [SCall.enc, Tpl.enc, e1, e2, e3, oneCell]⟩
theorem few12_spec (v : Value) (cs : List SCall) (n : Nat) (hn : n ≤ 1000) (R RD : Rds) (h : RS R 12 SCall.enc v cs) (hD : ∀ c ∈ cs, c.is RD) :
    Spec Try.prog 35 [v, .int .i64 (n : Nat)] R [] fun u H' => ∃ T, H' = [T] ∧ ∃ ds, OS 75 12 SCall.enc u ds T ∧ (∀ d ∈ ds, d.is RD ∧ d.few) ∧ ds.length = min cs.length n := by
  have hl := h.le
  obtain ⟨pv, kv_, rfl⟩ := h.val
  refine Spec.segs (H' := [[]]) (by simp) ?_
  refine Spec.body Try.func35 rfl Try.results35 Try.ntmps35 rfl ?_
  refine .seq ?_
  refine .region ?_
  refine TriOps.q .assign ?_
  refine .nil ?_
  refine seqQ_n ?_
  refine .seq ?_
  refine .region ?_
  refine TriOps.q .assign ?_
  refine .nil ?_
  refine seqQ_n ?_
  refine .seq ?_
  refine .seq ?_
  refine .region ?_
  refine TriOps.q .assign ?_
  refine .nil ?_
  refine seqQ_n ?_
  refine .block ?_
  refine .loop (X := Nat × List SCall × Value × Seg) (fun y => (y.1 ≤ cs.length ∧ y.1 ≤ n ∧ y.2.1.length = y.1) ∧ OS 75 12 SCall.enc y.2.2.1 y.2.1 y.2.2.2 ∧ ∀ d ∈ y.2.1, d.is RD ∧ d.few) (fun y => [(0, .slice pv cs.length kv_), (1, .int .i64 (n : Nat)), (5, y.2.2.1), (6, .int .i64 (y.1 : Nat))]) (fun y => [y.2.2.2]) (fun y => cs.length - y.1) (0, [], .slice none 0 0, []) ⟨⟨Nat.zero_le _, Nat.zero_le _, rfl⟩, OS.nil, by simp⟩ (((((EnvLe.nil _).cons rfl).cons rfl).cons rfl).cons rfl) (HLe.refl _) ?_
  rintro ⟨i, ds, vo, To⟩ ⟨⟨hi, hin, hdl⟩, hO, hds⟩
  simp only at hi hin hdl hO hds ⊢
  have io := hO.oneCell
  refine .seq ?_
  refine .seq ?_
  refine .region ?_
  refine TriOps.q .move ?_
  refine TriOps.q .move ?_
  refine TriOps.q (.lenR h) ?_
  refine TriOps.q .lss ?_
  refine TriOps.q .move ?_
  refine TriOps.split (t := 12) rfl (fun g3_4 => ?_) (fun g3_4 => ?_)
  · skip
    refine TriOps.gT g3_4 ?_
    refine TriOps.q .move ?_
    refine TriOps.gT g3_4 ?_
    refine TriOps.q .move ?_
    refine TriOps.gT g3_4 ?_
    refine TriOps.q .lss ?_
    refine TriOps.q (.pickTh g3_4) ?_
    refine .nil ?_
    refine seqQ_n ?_
    refine .cond rfl (fun h1 => ?_) (fun h1 => ?_)
    · skip
      have hlt : i < cs.length ∧ i < n := by simp_all
      obtain ⟨c, hc⟩ : ∃ c, cs[i]? = some c := ⟨_, List.getElem?_eq_getElem hlt.1⟩
      have hcis := hD c (List.mem_of_getElem? hc)
      have icn := hcis.ones
      refine .skip ?_
      refine seqQ_n ?_
      refine .seq ?_
      refine .block ?_
      refine .seq ?_
      refine .region ?_
      refine TriOps.q .move ?_
      refine TriOps.q .move ?_
      refine TriOps.indexR i h hc (fun p21 => ?_)
      obtain ⟨kd, wm, wn, wc, f, rev, must, no, ss⟩ := c
      have hm : RS RD 7 Tpl.enc wm must := hcis.hm
      have hno : RS RD 7 Tpl.enc wn no := hcis.hn
      have hch : RS RD 8 Chg.enc wc ss := hcis.hc
      obtain ⟨pm, km, rfl⟩ := hm.val
      obtain ⟨pn, kn, rfl⟩ := hno.val
      obtain ⟨pc, kc, rfl⟩ := hch.val
      have ien : Ones (SCall.enc ⟨kd, .slice pm must.length km, .slice pn no.length kn, .slice pc ss.length kc, f, rev, must, no, ss⟩) := hcis.ones
      refine TriOps.q (.loadA rfl) ?_
      refine TriOps.allocA (fun b7 => ?_)
      refine TriOps.storeA rfl rfl ?_
      refine .nil ?_
      refine seqQ_n ?_
      refine .seq ?_
      refine .seq ?_
      refine .region ?_
      refine TriOps.q (.fieldAddr rfl) ?_
      refine TriOps.q (.load1 rfl) ?_
      refine TriOps.q (.lenR hm) ?_
      refine TriOps.q .gtr ?_
      refine .nil ?_
      refine seqQ_n ?_
      refine Tri.cut (X := SCall) (fun d => d.is RD ∧ d.must.length ≤ 34) (fun d => [(0, .slice pv cs.length kv_), (1, .int .i64 (n : Nat)), (5, vo), (6, .int .i64 (i : Nat)), (7, .pointer (some ⟨b7, 0, none⟩))]) (fun d => [[(b7, .cells d.enc.toArray 75 (0, 0))], To]) ?_ ?_
      ·
        refine .cond rfl (fun h2 => ?_) (fun h2 => ?_)
        · skip
          refine .region ?_
          refine TriOps.q (.fieldAddr rfl) ?_
          refine TriOps.q (.load1 rfl) ?_
          refine TriOps.sliceR (R' := RD) 0 34 hm rfl ⟨_, rfl⟩ (by omega) (by have := of_decide_eq_true h2; first | omega | (simp only at this; omega)) (fun v2 hv2 => ?_)
          have iv2 := hv2.oneCell
          refine TriOps.q (.fieldAddr rfl) ?_
          refine TriOps.store1 rfl rfl ?_
          refine .nil ?_
          first
            | exact joinQ_n ⟨kd, v2, .slice pn no.length kn, .slice pc ss.length kc, f, rev, (must.drop 0).take (34 - 0), no, ss⟩ ⟨⟨hv2, hno, hch, fun t ht => hcis.fm t (List.mem_of_mem_drop (List.mem_of_mem_take ht)), hcis.fn, hcis.fc, hcis.r0, hcis.r1⟩, by simp; omega⟩ ((((((EnvLe.nil _).cons rfl).cons rfl).cons rfl).cons rfl).cons rfl) (HLe.refl _)
            | exact joinQ_n _ ⟨hcis, by have := of_decide_eq_false h2; first | omega | (simp only at this; omega) | (simp only; omega)⟩ ((((((EnvLe.nil _).cons rfl).cons rfl).cons rfl).cons rfl).cons rfl) (HLe.refl _)
        · skip
          refine .skip ?_
          first
            | exact joinQ_n ⟨kd, v2, .slice pn no.length kn, .slice pc ss.length kc, f, rev, (must.drop 0).take (34 - 0), no, ss⟩ ⟨⟨hv2, hno, hch, fun t ht => hcis.fm t (List.mem_of_mem_drop (List.mem_of_mem_take ht)), hcis.fn, hcis.fc, hcis.r0, hcis.r1⟩, by simp; omega⟩ ((((((EnvLe.nil _).cons rfl).cons rfl).cons rfl).cons rfl).cons rfl) (HLe.refl _)
            | exact joinQ_n _ ⟨hcis, by have := of_decide_eq_false h2; first | omega | (simp only at this; omega) | (simp only; omega)⟩ ((((((EnvLe.nil _).cons rfl).cons rfl).cons rfl).cons rfl).cons rfl) (HLe.refl _)
      · intro x hx
        clear ien hm hno hch hcis
        obtain ⟨hcis, hl1⟩ := hx
        obtain ⟨kd, wm, wn, wc, f, rev, must, no, ss⟩ := x
        have hm : RS RD 7 Tpl.enc wm must := hcis.hm
        have hno : RS RD 7 Tpl.enc wn no := hcis.hn
        have hch : RS RD 8 Chg.enc wc ss := hcis.hc
        obtain ⟨pm, km, rfl⟩ := hm.val
        obtain ⟨pn, kn, rfl⟩ := hno.val
        obtain ⟨pc, kc, rfl⟩ := hch.val
        have ien : Ones (SCall.enc ⟨kd, .slice pm must.length km, .slice pn no.length kn, .slice pc ss.length kc, f, rev, must, no, ss⟩) := hcis.ones
        refine seqQ_n ?_
        refine .seq ?_
        refine .seq ?_
        refine .region ?_
        refine TriOps.q (.fieldAddr rfl) ?_
        refine TriOps.q (.load1 rfl) ?_
        refine TriOps.q (.lenR hno) ?_
        refine TriOps.q .gtr ?_
        refine .nil ?_
        refine seqQ_n ?_
        refine Tri.cut (X := SCall) (fun d => d.is RD ∧ d.must.length ≤ 34 ∧ d.no.length ≤ 34) (fun d => [(0, .slice pv cs.length kv_), (1, .int .i64 (n : Nat)), (5, vo), (6, .int .i64 (i : Nat)), (7, .pointer (some ⟨b7, 0, none⟩))]) (fun d => [[(b7, .cells d.enc.toArray 75 (0, 0))], To]) ?_ ?_
        ·
          refine .cond rfl (fun h3 => ?_) (fun h3 => ?_)
          · skip
            refine .region ?_
            refine TriOps.q (.fieldAddr rfl) ?_
            refine TriOps.q (.load1 rfl) ?_
            refine TriOps.sliceR (R' := RD) 0 34 hno rfl ⟨_, rfl⟩ (by omega) (by have := of_decide_eq_true h3; first | omega | (simp only at this; omega)) (fun v2 hv2 => ?_)
            have iv2 := hv2.oneCell
            refine TriOps.q (.fieldAddr rfl) ?_
            refine TriOps.store1 rfl rfl ?_
            refine .nil ?_
            first
              | exact joinQ_n ⟨kd, .slice pm must.length km, v2, .slice pc ss.length kc, f, rev, must, (no.drop 0).take (34 - 0), ss⟩ ⟨⟨hm, hv2, hch, hcis.fm, fun t ht => hcis.fn t (List.mem_of_mem_drop (List.mem_of_mem_take ht)), hcis.fc, hcis.r0, hcis.r1⟩, hl1, by simp; omega⟩ ((((((EnvLe.nil _).cons rfl).cons rfl).cons rfl).cons rfl).cons rfl) (HLe.refl _)
              | exact joinQ_n _ ⟨hcis, hl1, by have := of_decide_eq_false h3; first | omega | (simp only at this; omega) | (simp only; omega)⟩ ((((((EnvLe.nil _).cons rfl).cons rfl).cons rfl).cons rfl).cons rfl) (HLe.refl _)
          · skip
            refine .skip ?_
            first
              | exact joinQ_n ⟨kd, .slice pm must.length km, v2, .slice pc ss.length kc, f, rev, must, (no.drop 0).take (34 - 0), ss⟩ ⟨⟨hm, hv2, hch, hcis.fm, fun t ht => hcis.fn t (List.mem_of_mem_drop (List.mem_of_mem_take ht)), hcis.fc, hcis.r0, hcis.r1⟩, hl1, by simp; omega⟩ ((((((EnvLe.nil _).cons rfl).cons rfl).cons rfl).cons rfl).cons rfl) (HLe.refl _)
              | exact joinQ_n _ ⟨hcis, hl1, by have := of_decide_eq_false h3; first | omega | (simp only at this; omega) | (simp only; omega)⟩ ((((((EnvLe.nil _).cons rfl).cons rfl).cons rfl).cons rfl).cons rfl) (HLe.refl _)
        · intro x hx
          clear ien hm hno hch hcis hl1
          obtain ⟨hcis, hl1, hl2⟩ := hx
          obtain ⟨kd, wm, wn, wc, f, rev, must, no, ss⟩ := x
          have hm : RS RD 7 Tpl.enc wm must := hcis.hm
          have hno : RS RD 7 Tpl.enc wn no := hcis.hn
          have hch : RS RD 8 Chg.enc wc ss := hcis.hc
          obtain ⟨pm, km, rfl⟩ := hm.val
          obtain ⟨pn, kn, rfl⟩ := hno.val
          obtain ⟨pc, kc, rfl⟩ := hch.val
          have ien : Ones (SCall.enc ⟨kd, .slice pm must.length km, .slice pn no.length kn, .slice pc ss.length kc, f, rev, must, no, ss⟩) := hcis.ones
          refine seqQ_n ?_
          refine .seq ?_
          refine .seq ?_
          refine .region ?_
          refine TriOps.q (.fieldAddr rfl) ?_
          refine TriOps.q (.load1 rfl) ?_
          refine TriOps.q (.lenR hch) ?_
          refine TriOps.q .gtr ?_
          refine .nil ?_
          refine seqQ_n ?_
          refine Tri.cut (X := SCall) (fun d => d.is RD ∧ d.few) (fun d => [(0, .slice pv cs.length kv_), (1, .int .i64 (n : Nat)), (5, vo), (6, .int .i64 (i : Nat)), (7, .pointer (some ⟨b7, 0, none⟩))]) (fun d => [[(b7, .cells d.enc.toArray 75 (0, 0))], To]) ?_ ?_
          ·
            refine .cond rfl (fun h4 => ?_) (fun h4 => ?_)
            · skip
              refine .region ?_
              refine TriOps.q (.fieldAddr rfl) ?_
              refine TriOps.q (.load1 rfl) ?_
              refine TriOps.sliceR (R' := RD) 0 34 hch rfl ⟨_, rfl⟩ (by omega) (by have := of_decide_eq_true h4; first | omega | (simp only at this; omega)) (fun v2 hv2 => ?_)
              have iv2 := hv2.oneCell
              refine TriOps.q (.fieldAddr rfl) ?_
              refine TriOps.store1 rfl rfl ?_
              refine .nil ?_
              first
                | exact joinQ_n ⟨kd, .slice pm must.length km, .slice pn no.length kn, v2, f, rev, must, no, (ss.drop 0).take (34 - 0)⟩ ⟨⟨hm, hno, hv2, hcis.fm, hcis.fn, fun t ht => hcis.fc t (List.mem_of_mem_drop (List.mem_of_mem_take ht)), hcis.r0, hcis.r1⟩, hl1, hl2, by simp; omega⟩ ((((((EnvLe.nil _).cons rfl).cons rfl).cons rfl).cons rfl).cons rfl) (HLe.refl _)
                | exact joinQ_n _ ⟨hcis, hl1, hl2, by have := of_decide_eq_false h4; first | omega | (simp only at this; omega) | (simp only; omega)⟩ ((((((EnvLe.nil _).cons rfl).cons rfl).cons rfl).cons rfl).cons rfl) (HLe.refl _)
            · skip
              refine .skip ?_
              first
                | exact joinQ_n ⟨kd, .slice pm must.length km, .slice pn no.length kn, v2, f, rev, must, no, (ss.drop 0).take (34 - 0)⟩ ⟨⟨hm, hno, hv2, hcis.fm, hcis.fn, fun t ht => hcis.fc t (List.mem_of_mem_drop (List.mem_of_mem_take ht)), hcis.r0, hcis.r1⟩, hl1, hl2, by simp; omega⟩ ((((((EnvLe.nil _).cons rfl).cons rfl).cons rfl).cons rfl).cons rfl) (HLe.refl _)
                | exact joinQ_n _ ⟨hcis, hl1, hl2, by have := of_decide_eq_false h4; first | omega | (simp only at this; omega) | (simp only; omega)⟩ ((((((EnvLe.nil _).cons rfl).cons rfl).cons rfl).cons rfl).cons rfl) (HLe.refl _)
          · intro x hx
            clear ien hm hno hch hcis hl1 hl2
            obtain ⟨hcis, hfew⟩ := hx
            have ix := hcis.ones
            refine seqQ_n ?_
            refine .region ?_
            refine TriOps.q .move ?_
            refine TriOps.q (.loadA rfl) ?_
            refine TriOps.buildSlice1A (fun b49 => ?_)
            refine TriOps.append hO (RS.lits (xs := [x]) rfl (by simp [SCall.enc, Tpl.enc]) (by have := ix.h; simpa using this)) (by simp; omega) (fun v7 T7 hO7 => ?_)
            have i7 := hO7.oneCell
            refine TriOps.q .assign ?_
            refine .nil ?_
            refine blkQ_n (seqQ_n ?_)
            refine .region ?_
            refine TriOps.q .move ?_
            refine TriOps.q (.i64 ((i + 1 : Nat) : Int) .add ⟨by omega, by omega, by omega⟩) ?_
            refine TriOps.q .assign ?_
            refine .nil ?_
            exact loopQ_i (i + 1, ds ++ [x], v7, T7) ⟨⟨hlt.1, hlt.2, by simp [hdl]⟩, hO7, fun d hd => by
              rcases List.mem_append.1 hd with hd | hd
              · exact hds d hd
              · simp only [List.mem_singleton] at hd
                subst hd
                exact ⟨hcis, hfew⟩⟩ (by simp only; omega) (((((EnvLe.nil _).cons rfl).cons rfl).cons rfl).cons rfl) (HLe.pick [2] _)
    · skip
      refine .exit (seqQ_x (loopQ_x (blkQ_x ?_)))
      refine seqQ_n ?_
      refine .seq ?_
      refine .region ?_
      refine TriOps.q .move ?_
      refine TriOps.q .assign ?_
      refine .nil ?_
      refine seqQ_n ?_
      refine .ret (retQ_r _ (.one (.tmp rfl)) (.one [0] _) ?_)
      refine ⟨To, by simp [take], ds, hO, hds, ?_⟩
      simp_all
      omega
  · skip
    refine TriOps.gF g3_4 ?_
    refine TriOps.gF g3_4 ?_
    refine TriOps.gF g3_4 ?_
    refine TriOps.q (.pickFh g3_4) ?_
    refine .nil ?_
    refine seqQ_n ?_
    refine .condF ?_
    refine .exit (seqQ_x (loopQ_x (blkQ_x ?_)))
    refine seqQ_n ?_
    refine .seq ?_
    refine .region ?_
    refine TriOps.q .move ?_
    refine TriOps.q .assign ?_
    refine .nil ?_
    refine seqQ_n ?_
    refine .ret (retQ_r _ (.one (.tmp rfl)) (.one [0] _) ?_)
    refine ⟨To, by simp [take], ds, hO, hds, ?_⟩
    simp_all
    omega
end Go.Proofs.Ytkepgbimlolemaa
