/- What the law 'CoreNobody' uses of this prover's engine, facts and walks. No condition. -/
import Derived.Test.YtkagfkbkpiebjaaGreatDoorKCoreNobodyH
import Derived.Test.YtkagfkbkpiebjaaGreatDoorKCoreNobodyI
set_option linter.unusedVariables false
set_option maxRecDepth 4000
namespace Go.Proofs.YtkagfkbkpiebjaaGreatDoor
theorem cutB_spec (v : Value) (xs : List UInt8) (n : Nat) (R0 R : Rds) (h : RS R0 1 encU v xs) (hn : n ≤ 1000000) :
    Spec Tryz.prog 60 [v, .int .i64 (n : Nat)] R [] fun u H' => RS R0 1 encU u (xs.take n) ∧ H' = [] := by
  have hle := h.le
  have iv := h.oneCell
  refine Spec.body Tryz.func60 rfl Tryz.results60 Tryz.ntmps60 rfl ?_
  refine .seq (.region ?_)
  refine .q .assign ?_
  refine .nil (seqQ_n ?_)
  refine .seq ?_
  refine .seq (.region ?_)
  refine .q .move ?_
  refine .q (.lenR h) ?_
  refine .q .move ?_
  refine .q .gtr ?_
  refine .nil (seqQ_n ?_)
  refine .cond rfl (fun h1 => ?_) (fun h1 => ?_)
  have hlt : n < xs.length := by have := of_decide_eq_true h1; omega
  refine .seq (.region ?_)
  refine .q .move ?_
  refine .q .move ?_
  refine TriOps.sliceR 0 n h rfl ⟨_, rfl⟩ (by omega) (by omega) (fun v2 hv2 => ?_)
  have i2 := hv2.oneCell
  refine .q .assign ?_
  refine .nil (seqQ_n ?_)
  refine .ret (seqQ_r (retQ_r _ (.one (.tmp rfl)) (.none _) ?_))
  · exact ⟨by simpa using hv2, rfl⟩
  refine .skip ?_
  refine seqQ_n ?_
  refine .seq (.region ?_)
  refine .q .move ?_
  refine .q .assign ?_
  refine .nil (seqQ_n ?_)
  refine .ret (retQ_r _ (.one (.tmp rfl)) (.none _) ?_)
  · refine ⟨?_, rfl⟩
    rw [List.take_of_length_le (by have := of_decide_eq_false h1; omega)]
    exact h
theorem copyB_spec (v : Value) (xs : List UInt8) (R : Rds) (h : RS R 1 encU v xs) (hl : xs.length ≤ 1000000) :
    Spec Tryz.prog 59 [v] R [] fun u H' => ∃ T, H' = [T] ∧ OS 5 1 encU u xs T := by
  have iv := h.oneCell
  refine Spec.segs (H' := [[]]) (by simp) ?_
  refine Spec.body Tryz.func59 rfl Tryz.results59 Tryz.ntmps59 rfl ?_
  refine .seq (.region ?_)
  refine .q .assign ?_
  refine .nil (seqQ_n ?_)
  refine .seq (.region ?_)
  refine .q .assign ?_
  refine .nil (seqQ_n ?_)
  refine .seq (.region ?_)
  refine .q .move ?_
  refine .q .move ?_
  refine TriOps.append (OS.nil (enc := encU) (sz := 1)) h.rx (by simp; omega) (fun v' T' h3 => ?_)
  have i3 := h3.oneCell
  refine .q .assign ?_
  refine .nil (seqQ_n ?_)
  refine .ret (retQ_r _ (.one (.tmp rfl)) (.one [0] _) ?_)
  · exact ⟨T', by simp [take], by simpa using h3⟩
end Go.Proofs.YtkagfkbkpiebjaaGreatDoor
set_option linter.unusedVariables false
set_option maxRecDepth 4000
namespace Go.Proofs.YtkagfkbkpiebjaaGreatDoor
/-- A call, plainly. -/
structure OC where
  kind : Int
  n : Int
  cl : Cli
  user : ByteArray
  id : ByteArray
  secret : ByteArray
  uri : ByteArray
  scopes : List ByteArray
  word : ByteArray
  text : ByteArray
  a : List UInt8
  r : List UInt8
  rev : Int
/-- What a call's lists and texts are in memory. -/
structure OV where
  cr : CR
  vs : Value
  va : Value
  vr : Value
def encO (w : OV) (x : OC) : List Value := [.int .i64 x.kind, .int .i64 x.n, .string w.cr.id, .string w.cr.secret, w.cr.vu, w.cr.vs, .string x.user, .string x.id, .string x.secret, .string x.uri, w.vs, .string x.word, .string x.text, w.va, w.vr, .int .u64 x.rev]
def OR (R : Rds) (w : OV) (x : OC) : Prop := CliR R w.cr x.cl ∧ RS R 1 encS w.vs x.scopes ∧ RS R 1 encU w.va x.a ∧ RS R 1 encU w.vr x.r
theorem OR.mono {R R' : Rds} {w : OV} {x : OC} (h : OR R w x) (hr : ∀ b o, R b o → R' b o) : OR R' w x := ⟨h.1.mono hr, h.2.1.mono hr, h.2.2.1.mono hr, h.2.2.2.mono hr⟩
theorem OR.ones {R : Rds} {w : OV} {x : OC} (h : OR R w x) : ∀ u ∈ encO w x, oneCell u = true := by
  have h0 := h.1.ones
  have h1 := h.2.1.oneCell.h
  have h2 := h.2.2.1.oneCell.h
  have h3 := h.2.2.2.oneCell.h
  have h4 : oneCell w.cr.vu = true := h0 _ (by simp [CR.cells])
  have h5 : oneCell w.cr.vs = true := h0 _ (by simp [CR.cells])
  intro u hu
  simp only [encO, List.mem_cons, List.not_mem_nil, or_false] at hu
  rcases hu with rfl | rfl | rfl | rfl | rfl | rfl | rfl | rfl | rfl | rfl | rfl | rfl | rfl | rfl | rfl | rfl <;> first | rfl | assumption
def OC.brief (x : OC) : OC := ⟨x.kind, x.n, x.cl.short, short x.user 40, short x.id 40, short x.secret 70, short x.uri 210, texts x.scopes 6 40, short x.word 140, short x.text 60, x.a.take 30, x.r.take 30, x.rev⟩
theorem oshort_spec (w : OV) (x : OC) (R : Rds) (h : OR R w x) : Spec Tryz.prog 21 [.agg (encO w x).toArray] R [] fun v H' => ∃ T, H' = [T] ∧ ∃ w', v = .agg (encO w' x.brief).toArray ∧ OR (sg T) w' x.brief := by
  have i1 : Ones (encO w x) := ⟨h.ones⟩
  obtain ⟨⟨rid, rsec, vu, vs⟩, vt, va, vr⟩ := w
  obtain ⟨k, n, cl, c1, c2, c3, c4, sc, c5, c6, xa, xr, rev⟩ := x
  obtain ⟨hcl, hs, ha, hr⟩ := h
  simp only at hcl hs ha hr
  have i2 := hs.oneCell
  have i3 := ha.oneCell
  have i4 := hr.oneCell
  have i5 := hcl.u.oneCell
  have i6 := hcl.s.oneCell
  refine Spec.body Tryz.func21 rfl Tryz.results21 Tryz.ntmps21 rfl ?_
  refine .seq (.region ?_)
  refine TriOps.boxA rfl (fun b1 => ?_)
  refine TriOps.allocA (fun b2 => ?_)
  refine .nil (seqQ_n ?_)
  refine .seq (.region ?_)
  refine .q (.fieldAddr rfl) ?_
  refine .q (.loadT rfl) ?_
  refine TriOps.callN (cshort_spec ⟨rid, rsec, vu, vs⟩ cl _ (hcl.mono fun b o hb => .inl hb)) (fun u T1 hu => ?_)
  obtain ⟨⟨rid', rsec', vu', vs'⟩, rfl, hc1⟩ := hu
  have i7 := hc1.u.oneCell
  have i8 := hc1.s.oneCell
  have i9 : Ones (CR.cells ⟨rid', rsec', vu', vs'⟩) := ⟨hc1.ones⟩
  refine .q (.fieldAddr rfl) ?_
  refine TriOps.storeA rfl rfl ?_
  refine .nil (seqQ_n ?_)
  refine .seq ?_
  refine .region_all [19, 21, 23, 25, 27, 29] mixed ?_
  refine .takeO 0 rfl (.fieldAddr rfl) (by kernel_rfl) ?_
  refine .takeO 1 rfl (.load1 rfl) (by kernel_rfl) ?_
  refine .takeO 3 rfl (.fieldAddr rfl) (by kernel_rfl) ?_
  refine .takeO 4 rfl (.load1 rfl) (by kernel_rfl) ?_
  refine .takeO 6 rfl (.fieldAddr rfl) (by kernel_rfl) ?_
  refine .takeO 7 rfl (.load1 rfl) (by kernel_rfl) ?_
  refine .takeO 9 rfl (.fieldAddr rfl) (by kernel_rfl) ?_
  refine .takeO 10 rfl (.load1 rfl) (by kernel_rfl) ?_
  refine .takeO 12 rfl (.fieldAddr rfl) (by kernel_rfl) ?_
  refine .takeO 13 rfl (.load1 rfl) (by kernel_rfl) ?_
  refine .takeO 15 rfl (.fieldAddr rfl) (by kernel_rfl) ?_
  refine .takeO 16 rfl (.load1 rfl) (by kernel_rfl) ?_
  refine RA.step 2 rfl (by kernel_rfl) rfl ?_
  refine TriOps.callR (short_spec c1 40 _) (fun u hu => ?_)
  subst hu
  refine .nil (Next.sub ?_)
  refine .takeO 18 rfl (.fieldAddr rfl) (by kernel_rfl) ?_
  refine RA.step 5 rfl (by kernel_rfl) rfl ?_
  refine TriOps.callR (short_spec c2 40 _) (fun u hu => ?_)
  subst hu
  refine .nil (Next.sub ?_)
  refine RA.step 8 rfl (by kernel_rfl) rfl ?_
  refine TriOps.callR (short_spec c3 70 _) (fun u hu => ?_)
  subst hu
  refine .nil (Next.sub ?_)
  refine RA.step 11 rfl (by kernel_rfl) rfl ?_
  refine TriOps.callR (short_spec c4 210 _) (fun u hu => ?_)
  subst hu
  refine .nil (Next.sub ?_)
  refine RA.step 14 rfl (by kernel_rfl) rfl ?_
  refine TriOps.callR (short_spec c5 140 _) (fun u hu => ?_)
  subst hu
  refine .nil (Next.sub ?_)
  refine RA.step 17 rfl (by kernel_rfl) rfl ?_
  refine TriOps.callR (short_spec c6 60 _) (fun u hu => ?_)
  subst hu
  refine .nil (Next.sub ?_)
  refine RA.step 19 rfl (by kernel_rfl) rfl ?_
  refine TriOps.store1 rfl rfl ?_
  refine .nil (Next.mod rfl ?_)
  refine .take 20 rfl (.fieldAddrA rfl) (by kernel_rfl) ?_
  refine RA.step 21 rfl (by kernel_rfl) rfl ?_
  refine TriOps.store1 rfl rfl ?_
  refine .nil (Next.mod rfl ?_)
  refine .take 22 rfl (.fieldAddrA rfl) (by kernel_rfl) ?_
  refine RA.step 23 rfl (by kernel_rfl) rfl ?_
  refine TriOps.store1 rfl rfl ?_
  refine .nil (Next.mod rfl ?_)
  refine .take 24 rfl (.fieldAddrA rfl) (by kernel_rfl) ?_
  refine RA.step 25 rfl (by kernel_rfl) rfl ?_
  refine TriOps.store1 rfl rfl ?_
  refine .nil (Next.mod rfl ?_)
  refine .take 26 rfl (.fieldAddrA rfl) (by kernel_rfl) ?_
  refine RA.step 27 rfl (by kernel_rfl) rfl ?_
  refine TriOps.store1 rfl rfl ?_
  refine .nil (Next.mod rfl ?_)
  refine .take 28 rfl (.fieldAddrA rfl) (by kernel_rfl) ?_
  refine RA.step 29 rfl (by kernel_rfl) rfl ?_
  refine TriOps.store1 rfl rfl ?_
  refine .nil (Next.mod rfl ?_)
  refine RA.nil (by kernel_rfl) ?_
  refine seqQ_n ?_
  refine .seq (.region ?_)
  refine .q (.fieldAddr rfl) ?_
  refine .q (.load1 rfl) ?_
  refine TriOps.callN (texts_spec vt sc 6 40 (by omega) _ hs.rx) (fun v1 T2 hO1 => ?_)
  have j2 := hO1.oneCell
  refine .q (.fieldAddr rfl) ?_
  refine TriOps.store1 rfl rfl ?_
  refine .nil (seqQ_n ?_)
  refine .seq ?_
  refine .region_all [9, 11] mixed ?_
  refine .takeO 0 rfl (.fieldAddr rfl) (by kernel_rfl) ?_
  refine .takeO 1 rfl (.load1 rfl) (by kernel_rfl) ?_
  refine .takeO 4 rfl (.fieldAddr rfl) (by kernel_rfl) ?_
  refine .takeO 5 rfl (.load1 rfl) (by kernel_rfl) ?_
  refine RA.step 2 rfl (by kernel_rfl) rfl ?_
  refine TriOps.callR (cutB_spec va xa 30 R _ ha (by omega)) (fun u hu => ?_)
  have j3 := hu.oneCell
  refine .nil (Next.sub ?_)
  refine RA.step 3 rfl (by kernel_rfl) rfl ?_
  refine TriOps.callN (copyB_spec _ (xa.take 30) _ hu.rx (by simp; omega)) (fun v3 T3 hO3 => ?_)
  have j4 := hO3.oneCell
  refine .nil (Next.sub ?_)
  refine .takeO 8 rfl (.fieldAddr rfl) (by kernel_rfl) ?_
  refine RA.step 6 rfl (by kernel_rfl) rfl ?_
  refine TriOps.callR (cutB_spec vr xr 30 R _ hr (by omega)) (fun u2 hu2 => ?_)
  have j5 := hu2.oneCell
  refine .nil (Next.sub ?_)
  refine RA.step 7 rfl (by kernel_rfl) rfl ?_
  refine TriOps.callN (copyB_spec _ (xr.take 30) _ hu2.rx (by simp; omega)) (fun v4 T4 hO4 => ?_)
  have j6 := hO4.oneCell
  refine .nil (Next.sub ?_)
  refine RA.step 9 rfl (by kernel_rfl) rfl ?_
  refine TriOps.store1 rfl rfl ?_
  refine .nil (Next.mod rfl ?_)
  refine .take 10 rfl (.fieldAddrA rfl) (by kernel_rfl) ?_
  refine RA.step 11 rfl (by kernel_rfl) rfl ?_
  refine TriOps.store1 rfl rfl ?_
  refine .nil (Next.mod rfl ?_)
  refine RA.nil (by kernel_rfl) ?_
  refine seqQ_n ?_
  refine .seq (.region ?_)
  refine .q (.loadA rfl) ?_
  refine TriOps.storeA rfl rfl ?_
  refine .nil (seqQ_n ?_)
  refine .ret (retQ_r _ (.one (.cellA rfl rfl)) (.one [0, 0, 0, 0] _) ?_)
  · exact ⟨T4 ++ (T3 ++ (T2 ++ T1)), by simp [take, dropAt], ⟨⟨rid', rsec', vu', vs'⟩, v1, v3, v4⟩, rfl, hc1.mono fun b o hb => sg_right (sg_right (sg_right hb)), hO1.sg.mono fun b o hb => sg_right (sg_right (sg_left hb)), hO3.sg.mono fun b o hb => sg_right (sg_left hb), hO4.sg.mono fun b o hb => sg_left hb⟩
end Go.Proofs.YtkagfkbkpiebjaaGreatDoor
set_option linter.unusedVariables false
set_option maxRecDepth 4000
namespace Go.Proofs.YtkagfkbkpiebjaaGreatDoor
def deadE (k : Int) : Int := if 0 ≤ k ∧ k ≤ 8 then 1 else 0
theorem odDo_spec (p : Value) (w : OV) (x : OC) (R : Rds) (hp : DeadO R p) (h : OR R w x) : Spec Tryz.prog 10 [p, .agg (encO w x).toArray] R [] fun v H' => v = .tuple [.string ⟨#[]⟩, .string ⟨#[]⟩, .int .i64 (deadE x.kind)].toArray ∧ H' = [] := by
  have i1 : Ones (encO w x) := ⟨h.ones⟩
  have i2 := hp.one
  refine Spec.body Tryz.func10 rfl Tryz.results10 Tryz.ntmps10 rfl ?_
  refine .seq (.region ?_)
  refine TriOps.boxA rfl (fun b3 => ?_)
  refine .q .assign ?_
  refine .q .assign ?_
  refine .q .assign ?_
  refine .nil (seqQ_n ?_)
  refine .seq (.region ?_)
  refine .q (.loadA rfl) ?_
  refine TriOps.callN (oshort_spec w x _ (h.mono fun b o hb => .inl hb)) (fun u T1 hu => ?_)
  obtain ⟨w', rfl, hc1⟩ := hu
  have i3 : Ones (encO w' x.brief) := ⟨hc1.ones⟩
  refine TriOps.storeA rfl rfl ?_
  refine .nil (seqQ_n ?_)
  refine .seq ?_
  refine .seq (.region ?_)
  refine .q (.fieldAddr rfl) ?_
  refine .q (.load1 rfl) ?_
  refine .nil (seqQ_n ?_)
  refine .block ?_
  refine .seq (.region ?_)
  refine .q .eqI ?_
  refine .q .assign ?_
  refine .nil (seqQ_n ?_)
  refine .cond rfl (fun h1 => ?_) (fun h1 => ?_)
  refine .seq (.region ?_)
  refine .q .move ?_
  refine .q (.fieldAddr rfl) ?_
  refine .q (.load1 rfl) ?_
  refine TriOps.callR (odTick_spec p _ _ hp.rx) (fun v hv => ?_)
  subst hv
  refine .q .assign ?_
  refine .q .assign ?_
  refine .q .assign ?_
  refine .nil (seqQ_n ?_)
  refine .ret (blkQ_r (seqQ_r (retQ_r _ (.three (.tmp rfl) (.tmp rfl) (.tmp rfl)) (.none _) ?_)))
  · refine ⟨?_, rfl⟩
    have e : x.brief.kind = x.kind := rfl
    simp only [e, beq_iff_eq, beq_eq_false_iff_ne] at *
    first
      | (rw [show deadE x.kind = 1 from by unfold deadE; rw [if_pos (by omega)]])
      | (rw [show deadE x.kind = 0 from by unfold deadE; rw [if_neg (by omega)]])
  refine .seq (.region ?_)
  refine .q .eqI ?_
  refine .q .assign ?_
  refine .nil (seqQ_n ?_)
  refine .cond rfl (fun h2 => ?_) (fun h2 => ?_)
  refine .seq (.region ?_)
  refine .q .move ?_
  refine .q (.fieldAddr rfl) ?_
  refine .q (.loadT rfl) ?_
  refine TriOps.callR (odAdd_spec p w'.cr.cells rfl hc1.1.ones _ hp.rx) (fun v hv => ?_)
  subst hv
  refine .q .assign ?_
  refine .q .assign ?_
  refine .q .assign ?_
  refine .nil (seqQ_n ?_)
  refine .ret (blkQ_r (seqQ_r (retQ_r _ (.three (.tmp rfl) (.tmp rfl) (.tmp rfl)) (.none _) ?_)))
  · refine ⟨?_, rfl⟩
    have e : x.brief.kind = x.kind := rfl
    simp only [e, beq_iff_eq, beq_eq_false_iff_ne] at *
    first
      | (rw [show deadE x.kind = 1 from by unfold deadE; rw [if_pos (by omega)]])
      | (rw [show deadE x.kind = 0 from by unfold deadE; rw [if_neg (by omega)]])
  refine .seq (.region ?_)
  refine .q .eqI ?_
  refine .q .assign ?_
  refine .nil (seqQ_n ?_)
  refine .cond rfl (fun h3 => ?_) (fun h3 => ?_)
  refine .seq (.region ?_)
  refine .q .move ?_
  refine .q (.fieldAddr rfl) ?_
  refine .q (.load1 rfl) ?_
  refine TriOps.callR (odRemove_spec p _ _ hp.rx) (fun v hv => ?_)
  subst hv
  refine .q .assign ?_
  refine .q .assign ?_
  refine .q .assign ?_
  refine .nil (seqQ_n ?_)
  refine .ret (blkQ_r (seqQ_r (retQ_r _ (.three (.tmp rfl) (.tmp rfl) (.tmp rfl)) (.none _) ?_)))
  · refine ⟨?_, rfl⟩
    have e : x.brief.kind = x.kind := rfl
    simp only [e, beq_iff_eq, beq_eq_false_iff_ne] at *
    first
      | (rw [show deadE x.kind = 1 from by unfold deadE; rw [if_pos (by omega)]])
      | (rw [show deadE x.kind = 0 from by unfold deadE; rw [if_neg (by omega)]])
  refine .seq (.region ?_)
  refine .q .eqI ?_
  refine .q .assign ?_
  refine .nil (seqQ_n ?_)
  refine .cond rfl (fun h4 => ?_) (fun h4 => ?_)
  refine .seq (.region ?_)
  refine .q .move ?_
  refine .q (.fieldAddr rfl) ?_
  refine .q (.load1 rfl) ?_
  refine .q (.fieldAddr rfl) ?_
  refine .q (.load1 rfl) ?_
  refine .q (.fieldAddr rfl) ?_
  refine .q (.load1 rfl) ?_
  refine TriOps.callR (odConsent_spec p _ _ _ _ hp.rx) (fun v hv => ?_)
  subst hv
  refine .q .assign ?_
  refine .q .assign ?_
  refine .q .assign ?_
  refine .nil (seqQ_n ?_)
  refine .ret (blkQ_r (seqQ_r (retQ_r _ (.three (.tmp rfl) (.tmp rfl) (.tmp rfl)) (.none _) ?_)))
  · refine ⟨?_, rfl⟩
    have e : x.brief.kind = x.kind := rfl
    simp only [e, beq_iff_eq, beq_eq_false_iff_ne] at *
    first
      | (rw [show deadE x.kind = 1 from by unfold deadE; rw [if_pos (by omega)]])
      | (rw [show deadE x.kind = 0 from by unfold deadE; rw [if_neg (by omega)]])
  refine .seq (.region ?_)
  refine .q .eqI ?_
  refine .q .assign ?_
  refine .nil (seqQ_n ?_)
  refine .cond rfl (fun h5 => ?_) (fun h5 => ?_)
  refine .seq (.region ?_)
  refine .q .move ?_
  refine .q (.fieldAddr rfl) ?_
  refine .q (.load1 rfl) ?_
  refine .q (.fieldAddr rfl) ?_
  refine .q (.load1 rfl) ?_
  refine TriOps.callR (odWithdraw_spec p _ _ _ hp.rx) (fun v hv => ?_)
  subst hv
  refine .q .assign ?_
  refine .q .assign ?_
  refine .q .assign ?_
  refine .nil (seqQ_n ?_)
  refine .ret (blkQ_r (seqQ_r (retQ_r _ (.three (.tmp rfl) (.tmp rfl) (.tmp rfl)) (.none _) ?_)))
  · refine ⟨?_, rfl⟩
    have e : x.brief.kind = x.kind := rfl
    simp only [e, beq_iff_eq, beq_eq_false_iff_ne] at *
    first
      | (rw [show deadE x.kind = 1 from by unfold deadE; rw [if_pos (by omega)]])
      | (rw [show deadE x.kind = 0 from by unfold deadE; rw [if_neg (by omega)]])
  refine .seq (.region ?_)
  refine .q .eqI ?_
  refine .q .assign ?_
  refine .nil (seqQ_n ?_)
  refine .cond rfl (fun h6 => ?_) (fun h6 => ?_)
  refine .seq (.region ?_)
  refine .q .move ?_
  refine .q (.fieldAddr rfl) ?_
  refine .q (.load1 rfl) ?_
  refine .q (.fieldAddr rfl) ?_
  refine .q (.load1 rfl) ?_
  refine .q (.fieldAddr rfl) ?_
  refine .q (.load1 rfl) ?_
  refine .q (.fieldAddr rfl) ?_
  refine .q (.load1 rfl) ?_
  refine .q (.fieldAddr rfl) ?_
  refine .q (.load1 rfl) ?_
  refine .q (.fieldAddr rfl) ?_
  refine .q (.load1 rfl) ?_
  refine TriOps.callR (odAuthorize_spec p _ _ _ _ _ _ _ hp.rx) (fun v hv => ?_)
  subst hv
  refine .q .move ?_
  refine .q .extract ?_
  refine .q .extract ?_
  refine .q .assign ?_
  refine .q .assign ?_
  refine .nil (seqQ_n ?_)
  refine .seq (.region ?_)
  refine .q .move ?_
  refine .q .move ?_
  refine .q .assign ?_
  refine .q .assign ?_
  refine .q .assign ?_
  refine .nil (seqQ_n ?_)
  refine .ret (blkQ_r (seqQ_r (retQ_r _ (.three (.tmp rfl) (.tmp rfl) (.tmp rfl)) (.none _) ?_)))
  · refine ⟨?_, rfl⟩
    have e : x.brief.kind = x.kind := rfl
    simp only [e, beq_iff_eq, beq_eq_false_iff_ne] at *
    first
      | (rw [show deadE x.kind = 1 from by unfold deadE; rw [if_pos (by omega)]])
      | (rw [show deadE x.kind = 0 from by unfold deadE; rw [if_neg (by omega)]])
  refine .seq (.region ?_)
  refine .q .eqI ?_
  refine .q .assign ?_
  refine .nil (seqQ_n ?_)
  refine .cond rfl (fun h7 => ?_) (fun h7 => ?_)
  refine .seq (.region ?_)
  refine .q .move ?_
  refine .q (.fieldAddr rfl) ?_
  refine .q (.load1 rfl) ?_
  refine .q (.fieldAddr rfl) ?_
  refine .q (.load1 rfl) ?_
  refine .q (.fieldAddr rfl) ?_
  refine .q (.load1 rfl) ?_
  refine .q (.fieldAddr rfl) ?_
  refine .q (.load1 rfl) ?_
  refine .q (.fieldAddr rfl) ?_
  refine .q (.load1 rfl) ?_
  refine .q (.fieldAddr rfl) ?_
  refine .q (.load1 rfl) ?_
  refine .q (.fieldAddr rfl) ?_
  refine .q (.load1 rfl) ?_
  refine .q (.fieldAddr rfl) ?_
  refine .q (.load1 rfl) ?_
  refine TriOps.callR (odExchange_spec p _ _ _ _ _ _ _ _ _ hp.rx) (fun v hv => ?_)
  subst hv
  refine .q .extract ?_
  refine .q .extract ?_
  refine .q .extract ?_
  refine .q .assign ?_
  refine .q .assign ?_
  refine .q .assign ?_
  refine .nil (seqQ_n ?_)
  refine .ret (blkQ_r (seqQ_r (retQ_r _ (.three (.tmp rfl) (.tmp rfl) (.tmp rfl)) (.none _) ?_)))
  · refine ⟨?_, rfl⟩
    have e : x.brief.kind = x.kind := rfl
    simp only [e, beq_iff_eq, beq_eq_false_iff_ne] at *
    first
      | (rw [show deadE x.kind = 1 from by unfold deadE; rw [if_pos (by omega)]])
      | (rw [show deadE x.kind = 0 from by unfold deadE; rw [if_neg (by omega)]])
  refine .seq (.region ?_)
  refine .q .eqI ?_
  refine .q .assign ?_
  refine .nil (seqQ_n ?_)
  refine .cond rfl (fun h8 => ?_) (fun h8 => ?_)
  refine .seq (.region ?_)
  refine .q .move ?_
  refine .q (.fieldAddr rfl) ?_
  refine .q (.load1 rfl) ?_
  refine .q (.fieldAddr rfl) ?_
  refine .q (.load1 rfl) ?_
  refine .q (.fieldAddr rfl) ?_
  refine .q (.load1 rfl) ?_
  refine .q (.fieldAddr rfl) ?_
  refine .q (.load1 rfl) ?_
  refine .q (.fieldAddr rfl) ?_
  refine .q (.load1 rfl) ?_
  refine .q (.fieldAddr rfl) ?_
  refine .q (.load1 rfl) ?_
  refine .q (.fieldAddr rfl) ?_
  refine .q (.load1 rfl) ?_
  refine TriOps.callR (odRefresh_spec p _ _ _ _ _ _ _ _ hp.rx) (fun v hv => ?_)
  subst hv
  refine .q .extract ?_
  refine .q .extract ?_
  refine .q .extract ?_
  refine .q .assign ?_
  refine .q .assign ?_
  refine .q .assign ?_
  refine .nil (seqQ_n ?_)
  refine .ret (blkQ_r (seqQ_r (retQ_r _ (.three (.tmp rfl) (.tmp rfl) (.tmp rfl)) (.none _) ?_)))
  · refine ⟨?_, rfl⟩
    have e : x.brief.kind = x.kind := rfl
    simp only [e, beq_iff_eq, beq_eq_false_iff_ne] at *
    first
      | (rw [show deadE x.kind = 1 from by unfold deadE; rw [if_pos (by omega)]])
      | (rw [show deadE x.kind = 0 from by unfold deadE; rw [if_neg (by omega)]])
  refine .seq (.region ?_)
  refine .q .eqI ?_
  refine .q .assign ?_
  refine .nil (seqQ_n ?_)
  refine .cond rfl (fun h9 => ?_) (fun h9 => ?_)
  refine .seq (.region ?_)
  refine .q .move ?_
  refine .q (.fieldAddr rfl) ?_
  refine .q (.load1 rfl) ?_
  refine .q (.fieldAddr rfl) ?_
  refine .q (.load1 rfl) ?_
  refine .q (.fieldAddr rfl) ?_
  refine .q (.load1 rfl) ?_
  refine TriOps.callR (odRevoke_spec p _ _ _ _ hp.rx) (fun v hv => ?_)
  subst hv
  refine .q .assign ?_
  refine .q .assign ?_
  refine .q .assign ?_
  refine .nil (seqQ_n ?_)
  refine .ret (blkQ_r (seqQ_r (retQ_r _ (.three (.tmp rfl) (.tmp rfl) (.tmp rfl)) (.none _) ?_)))
  · refine ⟨?_, rfl⟩
    have e : x.brief.kind = x.kind := rfl
    simp only [e, beq_iff_eq, beq_eq_false_iff_ne] at *
    first
      | (rw [show deadE x.kind = 1 from by unfold deadE; rw [if_pos (by omega)]])
      | (rw [show deadE x.kind = 0 from by unfold deadE; rw [if_neg (by omega)]])
  refine .skip ?_
  refine blkQ_n (seqQ_n ?_)
  refine .seq (.region ?_)
  refine .q .assign ?_
  refine .q .assign ?_
  refine .q .assign ?_
  refine .nil (seqQ_n ?_)
  refine .ret (retQ_r _ (.three (.tmp rfl) (.tmp rfl) (.tmp rfl)) (.none _) ?_)
  · refine ⟨?_, rfl⟩
    have e : x.brief.kind = x.kind := rfl
    simp only [e, beq_iff_eq, beq_eq_false_iff_ne] at *
    first
      | (rw [show deadE x.kind = 1 from by unfold deadE; rw [if_pos (by omega)]])
      | (rw [show deadE x.kind = 0 from by unfold deadE; rw [if_neg (by omega)]])
end Go.Proofs.YtkagfkbkpiebjaaGreatDoor
