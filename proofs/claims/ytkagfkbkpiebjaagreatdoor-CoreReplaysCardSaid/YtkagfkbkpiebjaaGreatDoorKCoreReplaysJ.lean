/- What the law 'CoreReplays' uses of this prover's engine, facts and walks. No condition. -/
import Derived.Test.YtkagfkbkpiebjaaGreatDoorKCoreReplaysB
import Derived.Test.YtkagfkbkpiebjaaGreatDoorKCoreReplaysG
import Derived.Test.YtkagfkbkpiebjaaGreatDoorKCoreReplaysH
import Derived.Test.YtkagfkbkpiebjaaGreatDoorKCoreReplaysI
set_option linter.unusedVariables false
set_option maxRecDepth 4000
namespace Go.Proofs.YtkagfkbkpiebjaaGreatDoor
theorem cutB_spec (v : Value) (xs : List UInt8) (n : Nat) (R0 R : Rds) (h : RS R0 1 encU v xs) (hn : n ≤ 1000000) :
  Spec Tryz.prog 60 [v, .int .i64 (n : Nat)] R [] fun u H' => RS R0 1 encU u (xs.take n) ∧ H' = [] := by
 have hle := h.le
 have iv := h.oneCell
 refine Spec.body Tryz.func60 rfl Tryz.results60 Tryz.ntmps60 rfl ?_
 refine .sr<|.ag rfl<|.zs<|.sr<|.mo rfl<|.q (.lenR h) ?_
 refine .mo rfl<|.q .gtr<|.zn ?_
 refine .cond rfl (fun h1 => ?_) (fun h1 => ?_)
 have hlt : n < xs.length := by have := of_decide_eq_true h1; omega
 refine .sr<|.mo rfl<|.mo rfl ?_
 refine .sliceR 0 n h rfl ⟨_, rfl⟩ (by omega) (by omega) (fun v2 hv2 => ?_)
 have i2 := hv2.oneCell
 refine .ag rfl<|.zn ?_
 refine .ret (seqQ_r (retQ_r _ (.one (.tmp rfl)) (.none _) ?_))
 ·exact ⟨by simpa using hv2, rfl⟩
 refine .kn<|.sr<|.mo rfl<|.ag rfl<|.zn ?_
 refine .ret (retQ_r _ (.one (.tmp rfl)) (.none _) ?_)
 ·refine ⟨?_, rfl⟩
  rw [List.take_of_length_le (by have := of_decide_eq_false h1; omega)]
  exact h
theorem copyB_spec (v : Value) (xs : List UInt8) (R : Rds) (h : RS R 1 encU v xs) (hl : xs.length ≤ 1000000) :
  Spec Tryz.prog 59 [v] R [] fun u H' => ∃ T, H' = [T] ∧ OS 5 1 encU u xs T := by
 have iv := h.oneCell
 refine Spec.segs (H' := [[]]) (by simp) ?_
 refine Spec.body Tryz.func59 rfl Tryz.results59 Tryz.ntmps59 rfl ?_
 refine .sr<|.ag rfl<|.z<|.ag rfl<|.z<|.mo rfl<|.mo rfl ?_
 refine .append (OS.nil (enc := encU) (sz := 1)) h.rx (by simp; omega) (fun v' T' h3 => ?_)
 have i3 := h3.oneCell
 refine .ag rfl<|.zn ?_
 refine .ret (retQ_r _ (.one (.tmp rfl)) (.one [0] _) ?_)
 ·exact ⟨T', by simp [take], by simpa using h3⟩
structure OC where
 kind : Int
 n : Int
 cl : Cli
 user : ByteArray
 id : ByteArray
 secret : ByteArray
 uri : ByteArray
 scopes : List ByteArray
 word : ByteArray
 text : ByteArray
 a : List UInt8
 r : List UInt8
 rev : Int
structure OV where
 cr : CR
 vs : Value
 va : Value
 vr : Value
def encO (w : OV) (x : OC) : List Value := [.int .i64 x.kind, .int .i64 x.n, .string w.cr.id, .string w.cr.secret, w.cr.vu, w.cr.vs, .string x.user, .string x.id, .string x.secret, .string x.uri, w.vs, .string x.word, .string x.text, w.va, w.vr, .int .u64 x.rev]
def OR (R : Rds) (w : OV) (x : OC) : Prop := CliR R w.cr x.cl ∧ RS R 1 encS w.vs x.scopes ∧ RS R 1 encU w.va x.a ∧ RS R 1 encU w.vr x.r
theorem OR.mono {R R' : Rds} {w : OV} {x : OC} (h : OR R w x) (hr : ∀ b o, R b o → R' b o) : OR R' w x := ⟨h.1.mono hr, h.2.1.mono hr, h.2.2.1.mono hr, h.2.2.2.mono hr⟩
theorem OR.ones {R : Rds} {w : OV} {x : OC} (h : OR R w x) : ∀ u ∈ encO w x, oneCell u = true := by
 have h0 := h.1.ones
 have h1 := h.2.1.oneCell.h
 have h2 := h.2.2.1.oneCell.h
 have h3 := h.2.2.2.oneCell.h
 have h4 : oneCell w.cr.vu = true := h0 _ (by simp [CR.cells])
 have h5 : oneCell w.cr.vs = true := h0 _ (by simp [CR.cells])
 intro u hu
 simp only [encO, List.mem_cons, List.not_mem_nil, or_false] at hu
 rcases hu with rfl | rfl | rfl | rfl | rfl | rfl | rfl | rfl | rfl | rfl | rfl | rfl | rfl | rfl | rfl | rfl <;> first | rfl | assumption
def OC.brief (x : OC) : OC := ⟨x.kind, x.n, x.cl.short, short x.user 40, short x.id 40, short x.secret 70, short x.uri 210, texts x.scopes 6 40, short x.word 140, short x.text 60, x.a.take 30, x.r.take 30, x.rev⟩
theorem oshort_spec (w : OV) (x : OC) (R : Rds) (h : OR R w x) : Spec Tryz.prog 21 [.agg (encO w x).toArray] R [] fun v H' => ∃ T, H' = [T] ∧ ∃ w', v = .agg (encO w' x.brief).toArray ∧ OR (sg T) w' x.brief := by
 have i1 : Ones (encO w x) := ⟨h.ones⟩
 obtain ⟨⟨rid, rsec, vu, vs⟩, vt, va, vr⟩ := w
 obtain ⟨k, n, cl, c1, c2, c3, c4, sc, c5, c6, xa, xr, rev⟩ := x
 obtain ⟨hcl, hs, ha, hr⟩ := h
 simp only at hcl hs ha hr
 have i2 := hs.oneCell
 have i3 := ha.oneCell
 have i4 := hr.oneCell
 have i5 := hcl.u.oneCell
 have i6 := hcl.s.oneCell
 refine Spec.body Tryz.func21 rfl Tryz.results21 Tryz.ntmps21 rfl ?_
 refine .sr ?_
 refine .boxA rfl (fun b1 => ?_)
 refine .allocA (fun b2 => ?_)
 refine .z<|.fa rfl<|.q (.loadT rfl) ?_
 refine .callN (cshort_spec ⟨rid, rsec, vu, vs⟩ cl _ (hcl.mono fun b o hb => .inl hb)) (fun u T1 hu => ?_)
 obtain ⟨⟨rid', rsec', vu', vs'⟩, rfl, hc1⟩ := hu
 have i7 := hc1.u.oneCell
 have i8 := hc1.s.oneCell
 have i9 : Ones (CR.cells ⟨rid', rsec', vu', vs'⟩) := ⟨hc1.ones⟩
 refine .fa rfl<|.storeA rfl rfl<|.zs<|.region_all [19, 21, 23, 25, 27, 29] mixed ?_
 refine .takeO 0 rfl (.fieldAddr rfl) (by kernel_rfl)<|.takeO 1 rfl (.load1 rfl) (by kernel_rfl)<|.takeO 3 rfl (.fieldAddr rfl) (by kernel_rfl)<|.takeO 4 rfl (.load1 rfl) (by kernel_rfl)<|.takeO 6 rfl (.fieldAddr rfl) (by kernel_rfl)<|.takeO 7 rfl (.load1 rfl) (by kernel_rfl)<|.takeO 9 rfl (.fieldAddr rfl) (by kernel_rfl)<|.takeO 10 rfl (.load1 rfl) (by kernel_rfl)<|.takeO 12 rfl (.fieldAddr rfl) (by kernel_rfl)<|.takeO 13 rfl (.load1 rfl) (by kernel_rfl)<|.takeO 15 rfl (.fieldAddr rfl) (by kernel_rfl)<|.takeO 16 rfl (.load1 rfl) (by kernel_rfl) ?_
 refine RA.step 2 rfl (by kernel_rfl) rfl ?_
 refine .callR (short_spec c1 40 _) (fun u hu => ?_)
 subst hu
 refine .nil (Next.sub ?_)
 refine .takeO 18 rfl (.fieldAddr rfl) (by kernel_rfl) ?_
 refine RA.step 5 rfl (by kernel_rfl) rfl ?_
 refine .callR (short_spec c2 40 _) (fun u hu => ?_)
 subst hu
 refine .nil (Next.sub ?_)
 refine RA.step 8 rfl (by kernel_rfl) rfl ?_
 refine .callR (short_spec c3 70 _) (fun u hu => ?_)
 subst hu
 refine .nil (Next.sub ?_)
 refine RA.step 11 rfl (by kernel_rfl) rfl ?_
 refine .callR (short_spec c4 210 _) (fun u hu => ?_)
 subst hu
 refine .nil (Next.sub ?_)
 refine RA.step 14 rfl (by kernel_rfl) rfl ?_
 refine .callR (short_spec c5 140 _) (fun u hu => ?_)
 subst hu
 refine .nil (Next.sub ?_)
 refine RA.step 17 rfl (by kernel_rfl) rfl ?_
 refine .callR (short_spec c6 60 _) (fun u hu => ?_)
 subst hu
 refine .nil (Next.sub ?_)
 refine RA.step 19 rfl (by kernel_rfl) rfl ?_
 refine .store1 rfl rfl ?_
 refine .nil (Next.mod rfl ?_)
 refine .take 20 rfl (.fieldAddrA rfl) (by kernel_rfl) ?_
 refine RA.step 21 rfl (by kernel_rfl) rfl ?_
 refine .store1 rfl rfl ?_
 refine .nil (Next.mod rfl ?_)
 refine .take 22 rfl (.fieldAddrA rfl) (by kernel_rfl) ?_
 refine RA.step 23 rfl (by kernel_rfl) rfl ?_
 refine .store1 rfl rfl ?_
 refine .nil (Next.mod rfl ?_)
 refine .take 24 rfl (.fieldAddrA rfl) (by kernel_rfl) ?_
 refine RA.step 25 rfl (by kernel_rfl) rfl ?_
 refine .store1 rfl rfl ?_
 refine .nil (Next.mod rfl ?_)
 refine .take 26 rfl (.fieldAddrA rfl) (by kernel_rfl) ?_
 refine RA.step 27 rfl (by kernel_rfl) rfl ?_
 refine .store1 rfl rfl ?_
 refine .nil (Next.mod rfl ?_)
 refine .take 28 rfl (.fieldAddrA rfl) (by kernel_rfl) ?_
 refine RA.step 29 rfl (by kernel_rfl) rfl ?_
 refine .store1 rfl rfl ?_
 refine .nil (Next.mod rfl ?_)
 refine RA.nil (by kernel_rfl) ?_
 refine seqQ_n<|.sr<|.fa rfl<|.lo rfl ?_
 refine .callN (texts_spec vt sc 6 40 (by omega) _ hs.rx) (fun v1 T2 hO1 => ?_)
 have j2 := hO1.oneCell
 refine .fa rfl<|.store1 rfl rfl<|.zs<|.region_all [9, 11] mixed ?_
 refine .takeO 0 rfl (.fieldAddr rfl) (by kernel_rfl)<|.takeO 1 rfl (.load1 rfl) (by kernel_rfl)<|.takeO 4 rfl (.fieldAddr rfl) (by kernel_rfl)<|.takeO 5 rfl (.load1 rfl) (by kernel_rfl) ?_
 refine RA.step 2 rfl (by kernel_rfl) rfl ?_
 refine .callR (cutB_spec va xa 30 R _ ha (by omega)) (fun u hu => ?_)
 have j3 := hu.oneCell
 refine .nil (Next.sub ?_)
 refine RA.step 3 rfl (by kernel_rfl) rfl ?_
 refine .callN (copyB_spec _ (xa.take 30) _ hu.rx (by simp; omega)) (fun v3 T3 hO3 => ?_)
 have j4 := hO3.oneCell
 refine .nil (Next.sub ?_)
 refine .takeO 8 rfl (.fieldAddr rfl) (by kernel_rfl) ?_
 refine RA.step 6 rfl (by kernel_rfl) rfl ?_
 refine .callR (cutB_spec vr xr 30 R _ hr (by omega)) (fun u2 hu2 => ?_)
 have j5 := hu2.oneCell
 refine .nil (Next.sub ?_)
 refine RA.step 7 rfl (by kernel_rfl) rfl ?_
 refine .callN (copyB_spec _ (xr.take 30) _ hu2.rx (by simp; omega)) (fun v4 T4 hO4 => ?_)
 have j6 := hO4.oneCell
 refine .nil (Next.sub ?_)
 refine RA.step 9 rfl (by kernel_rfl) rfl ?_
 refine .store1 rfl rfl ?_
 refine .nil (Next.mod rfl ?_)
 refine .take 10 rfl (.fieldAddrA rfl) (by kernel_rfl) ?_
 refine RA.step 11 rfl (by kernel_rfl) rfl ?_
 refine .store1 rfl rfl ?_
 refine .nil (Next.mod rfl ?_)
 refine RA.nil (by kernel_rfl) ?_
 refine seqQ_n<|.sr<|.q (.loadA rfl)<|.storeA rfl rfl<|.zn ?_
 refine .ret (retQ_r _ (.one (.cellA rfl rfl)) (.one [0, 0, 0, 0] _) ?_)
 ·exact ⟨T4 ++ (T3 ++ (T2 ++ T1)), by simp [take, dropAt], ⟨⟨rid', rsec', vu', vs'⟩, v1, v3, v4⟩, rfl, hc1.mono fun b o hb => sg_right (sg_right (sg_right hb)), hO1.sg.mono fun b o hb => sg_right (sg_right (sg_left hb)), hO3.sg.mono fun b o hb => sg_right (sg_left hb), hO4.sg.mono fun b o hb => sg_left hb⟩
set_option linter.unusedSimpArgs false
def zPlain (z : Int) : Bool := (decide (97 ≤ z) && decide (z ≤ 122)) || ((decide (65 ≤ z) && decide (z ≤ 90)) || ((decide (48 ≤ z) && decide (z ≤ 57)) || (z == 45 || (z == 46 || (z == 95 || z == 126)))))
def isVer (s : ByteArray) : Bool := bAll s zPlain && (decide (43 ≤ s.size) && decide (s.size ≤ 128))
def PLB : ByteArray := ⟨#[65, 66, 67, 68, 69, 70, 71, 72, 73, 74, 75, 76, 77, 78, 79, 80, 81, 82, 83, 84, 85, 86, 87, 88, 89, 90, 97, 98, 99, 100, 101, 102, 103, 104, 105, 106, 107, 108, 109, 110, 111, 112, 113, 114, 115, 116, 117, 118, 119, 120, 121, 122, 48, 49, 50, 51, 52, 53, 54, 55, 56, 57, 45, 46, 95, 126]⟩
theorem PLB_idx (c : UInt8) : decide (Lib.indexByte PLB.data.toList c < 0) = !zPlain (c.toNat : Int) := by
 have e : ∀ k : Fin 256, decide (Lib.indexByte PLB.data.toList (UInt8.ofNat k.val) < 0) = !zPlain (((UInt8.ofNat k.val).toNat : Nat) : Int) := by decide +kernel
 have h := e ⟨c.toNat, c.toNat_lt⟩
 simpa using h
theorem sindexByte_spec (s : ByteArray) (c : Int) (R : Rds) : Spec Tryz.prog 268 [.string s, .int .u8 c] R [] fun v H' => v = .int .i64 (Lib.indexByte s.data.toList c.toNat.toUInt8) ∧ H' = [] := by
 refine Spec.body Tryz.func268 rfl Tryz.results268 Tryz.ntmps268 rfl ?_
 refine .sr<|.ag rfl<|.z<|.mo rfl<|.mo rfl ?_
 refine .callR (Spec.ofCalls (Tryz.stringslite_IndexByte s c) _) (fun v hv => ?_)
 subst hv
 refine .ag rfl<|.zn ?_
 refine .ret (retQ_r _ (.one (.tmp rfl)) (.none _) ?_)
 ·exact ⟨rfl, rfl⟩
theorem verifier_spec (s : ByteArray) (hs : s.size ≤ 9223372036854775807) (R : Rds) : Spec Tryz.prog 218 [.string s] R [] fun v H' => v = .bool (isVer s) ∧ H' = [] := by
  refine Spec.body Tryz.func218 rfl Tryz.results218 Tryz.ntmps218 rfl ?_
  refine .sr<|.ag rfl<|.zs<|.sr<|.mo rfl<|.q .lenS<|.mo rfl<|.zn<|.block ?_
  refine .loop (X := Nat) (fun i => i ≤ s.size ∧ ∀ j (hj : j < s.size), j < i → zPlain (s[j]'hj).toNat = true) (fun i => [(0, .string s), (5, .int .i64 (s.size : Nat)), (6, .int .i64 (i : Nat))]) (fun _ => []) (fun i => s.size - i) 0 ⟨Nat.zero_le _, fun _ _ h => by omega⟩ (EnvLe.k3 rfl rfl rfl) (HLe.refl _) ?_
  rintro i ⟨hi, hall⟩
  refine .sr<|.q .lss<|.zs ?_
  refine .cond rfl (fun h1 => ?_) (fun h1 => ?_)
  have hlt : i < s.size := by have := of_decide_eq_true h1; omega
  refine .kn<|.seq<|.block<|.sr<|.mo rfl<|.ag rfl<|.z<|.mo rfl<|.mo rfl<|.q (.indexS (p := s) i hlt) ?_
  refine .callR (sindexByte_spec PLB _ _) (fun v hv => ?_)
  subst hv
  have hb : ((s[i]'hlt).toNat : Int).toNat.toUInt8 = s[i]'hlt := by simp
  rw [hb]
  refine .q .lss<|.zn ?_
  refine .cond rfl (fun h2 => ?_) (fun h2 => ?_)
  have hz := (PLB_idx (s[i]'hlt)).symm.trans h2
  have hbad : bAll s zPlain = false := bAll_false hlt (by simpa using hz)
  refine .sr<|.ag rfl<|.zn ?_
  refine .ret (blkQ_r (seqQ_r (loopQ_r (blkQ_r (seqQ_r (retQ_r _ (.one (.tmp rfl)) (.none _) ?_))))))
  · refine ⟨congrArg Value.bool ?_, rfl⟩
    unfold isVer
    (rw [hbad]; rfl)
  have hz := (PLB_idx (s[i]'hlt)).symm.trans h2
  refine .skip<|blkQ_n<|seqQ_n<|.region ?_
  refine .q (.i64 ((i + 1 : Nat) : Int) .add ⟨by omega, by omega, by omega⟩) ?_
  refine .mo rfl<|.nil ?_
  · exact loopQ_i (i + 1) ⟨hlt, fun j hj hj2 => by
      rcases Nat.lt_or_ge j i with h9 | h9
      · exact hall j hj h9
      · obtain rfl : j = i := by omega
        simpa using hz⟩ (by omega) (EnvLe.k3 rfl rfl rfl) (HLe.refl _)
  have hgood : bAll s zPlain = true := bAll_true fun j hj => hall j hj (by have := of_decide_eq_false h1; omega)
  refine .exit<|seqQ_x<|loopQ_x<|blkQ_x<|seqQ_n<|.sr<|.mo rfl<|.q .lenS<|.q .geq<|.mo rfl ?_
  refine .split (t := 18) rfl (fun g7_3 => ?_) (fun g7_3 => ?_)
  refine .gT g7_3<|.mo rfl<|.gT g7_3<|.q .lenS<|.gT g7_3<|.q .leq<|.q (.pickTh g7_3) ?_
  refine .ag rfl<|.zn ?_
  refine .ret (retQ_r _ (.one (.tmp rfl)) (.none _) ?_)
  · refine ⟨congrArg Value.bool ?_, rfl⟩
    unfold isVer
    (rw [hgood, Bool.true_and]
     have e : decide (43 ≤ s.size) = true := (by
       have := of_decide_eq_true g7_3
       exact decide_eq_true (by omega))
     rw [e, Bool.true_and]
     by_cases h9 : s.size ≤ 128
     · rw [decide_eq_true h9]; exact decide_eq_true (by omega)
     · rw [decide_eq_false h9]; exact decide_eq_false (by omega))
  refine .gF g7_3<|.gF g7_3<|.gF g7_3<|.q (.pickFh g7_3) ?_
  refine .ag rfl<|.zn ?_
  refine .ret (retQ_r _ (.one (.tmp rfl)) (.none _) ?_)
  · refine ⟨congrArg Value.bool ?_, rfl⟩
    unfold isVer
    (rw [hgood, Bool.true_and]
     have e : decide (43 ≤ s.size) = false := (by
       have := of_decide_eq_false g7_3
       exact decide_eq_false (by omega))
     rw [e]; rfl)
def chal (s : ByteArray) : ByteArray := ⟨(e64 (shaOf s.data.toList)).toArray⟩
theorem sha32 (l : List UInt8) : (shaOf l).length = 32 := rfl
theorem data_len (s : ByteArray) : s.data.toList.length = s.size := Array.length_toList
theorem challenge_spec (s : ByteArray) (hs : s.size ≤ 9223372036854775807) (R : Rds) (hg : PC R (.pointer (some ⟨1, 0, none⟩)) (wv ks)) :
  Spec Tryz.prog 219 [.string s] R [] fun v H' => v = .string (if isVer s then chal s else ⟨#[]⟩) ∧ H' = [] := by
 refine Spec.body Tryz.func219 rfl Tryz.results219 Tryz.ntmps219 rfl ?_
 refine .sr<|.ag rfl<|.zs<|.sr<|.mo rfl ?_
 refine .callR (verifier_spec s hs _) (fun v hv => ?_)
 subst hv
 refine .q .not<|.zn ?_
 refine .cond rfl (fun h1 => ?_) (fun h1 => ?_)
 refine .sr<|.ag rfl<|.zn ?_
 refine .ret (seqQ_r (retQ_r _ (.one (.tmp rfl)) (.none _) ?_))
 ·exact ⟨by rw [if_neg (by simpa using h1)], rfl⟩
 have hv : isVer s = true := by simpa using h1
 have hsz : s.size ≤ 128 := by
  have h9 := hv
  unfold isVer at h9
  simp at h9
  omega
 refine .kn<|.sr<|.mo rfl ?_
 refine .strBytes (s := s) (by unfold maxLen; omega) (fun v8 T8 hb => ?_)
 have i8 := hb.oneCell
 refine .callR (shaof_spec v8 s.data.toList _ (hb.mono fun b o hb' => .inr (by have hb2 : (b, o) ∈ T8 := hb'; simp [hb2])) (by rw [data_len]; omega) hg.rx) (fun v hv' => ?_)
 subst hv'
 refine .allocA (fun b3 => ?_)
 refine .storeA rfl rfl ?_ rfl (Nat.le_of_ble_eq_true rfl)
 rw [setL_all (by rfl)]
 refine .z ?_
 refine .q (.sliceArr 0 32 rfl rfl rfl (by decide) (by decide) (by decide)) ?_
 refine .callR (benc_spec _ (shaOf s.data.toList) _ (RS.lits (n := 32) (flat_encU _) (fun _ _ => rfl) (fun x _ u hu => by simp only [encU, List.mem_singleton] at hu; subst hu; rfl)) (by rw [sha32]; omega)) (fun v hv' => ?_)
 subst hv'
 refine .ag rfl<|.zn ?_
 refine .ret (retQ_r _ (.one (.tmp rfl)) (.none _) ?_)
 ·exact ⟨by rw [if_pos hv]; rfl, rfl⟩
def pmatch (s c : ByteArray) : Bool := isVer s && decide (chal s = c)
theorem match_spec (s c : ByteArray) (hs : s.size ≤ 9223372036854775807) (R : Rds) (hg : PC R (.pointer (some ⟨1, 0, none⟩)) (wv ks)) :
    Spec Tryz.prog 160 [.string s, .string c] R [] fun v H' => v = .bool (pmatch s c) ∧ H' = [] := by
  refine Spec.body Tryz.func160 rfl Tryz.results160 Tryz.ntmps160 rfl ?_
  refine .sr<|.ag rfl<|.z<|.mo rfl ?_
  refine .callR (verifier_spec s hs _) (fun v hv => ?_)
  subst hv
  refine .mo rfl ?_
  refine .split (t := 7) rfl (fun g1_2 => ?_) (fun g1_2 => ?_)
  refine .gT g1_2<|.mo rfl<|.gT g1_2 ?_
  refine .callR (challenge_spec s hs _ hg.rx) (fun v hv => ?_)
  subst hv
  refine .gT g1_2<|.mo rfl<|.gT g1_2<|.q .eqS<|.q (.pickTh g1_2) ?_
  refine .ag rfl<|.zn ?_
  refine .ret (retQ_r _ (.one (.tmp rfl)) (.none _) ?_)
  · refine ⟨congrArg Value.bool ?_, rfl⟩
    unfold pmatch
    (have h9 : isVer s = true := g1_2
     simp [h9])
  refine .gF g1_2<|.gF g1_2<|.gF g1_2<|.gF g1_2<|.q (.pickFh g1_2) ?_
  refine .ag rfl<|.zn ?_
  refine .ret (retQ_r _ (.one (.tmp rfl)) (.none _) ?_)
  · refine ⟨congrArg Value.bool ?_, rfl⟩
    unfold pmatch
    (have h9 : isVer s = false := g1_2
     simp [h9])
def Cod.mark (t : Cod) : Cod := ⟨t.text, t.client, t.user, t.uri, t.scopes, t.chall, t.expires, t.family, true⟩
def gredeem (A : List (ByteArray × Cod)) (k client uri ver : ByteArray) (now : Int) : Cod × Int × List (ByteArray × Cod) :=
 match mget k A with
 | none => (Cod.zero, 18, A)
 | some t => if t.client ≠ client then (Cod.zero, 18, A) else if t.used then (t, 10, A) else if t.expires ≤ now ∨ t.uri ≠ uri ∨ pmatch ver t.chall = false then (Cod.zero, 18, A) else (t.mark, 0, kset k t.mark A)
theorem gredeem_spec (g : Nat) (C : List (Who × List ByteArray)) (A : List (ByteArray × Cod)) (T : Seg) (h : GI g C A T) (k client uri ver : ByteArray) (now : Int) (hv : ver.size ≤ 9223372036854775807) (R : Rds) (hg : PC R (.pointer (some ⟨1, 0, none⟩)) (wv ks)) :
  Spec Tryz.prog 99 [.pointer (some ⟨g, 0, none⟩), .string k, .string client, .string uri, .string ver, .int .i64 now] R [T] fun v H' => ∃ T' Tn, H' = [T', Tn] ∧ ∃ w, v = .tuple [.agg (encG (w, (gredeem A k client uri ver now).1)).toArray, .int .i64 (gredeem A k client uri ver now).2.1].toArray ∧ CodR (sg0 Tn) (w, (gredeem A k client uri ver now).1) ∧ GI g C (gredeem A k client uri ver now).2.2 T' := by
 have hAn := h.nd
 have h0 := h
 obtain ⟨Td, _, rfl, vc, MC, vm, M, q, Tc, Tm, Tq, rfl, ⟨hMC, hIC, hC⟩, hM, hI, hA, hQ⟩ := h
 obtain ⟨bm, rfl⟩ : ∃ b, vm = .map (some b) := by obtain ⟨b, es, clock, h1, _⟩ := hM; exact ⟨b, h1⟩
 have ic : One vc := ⟨by obtain ⟨b, es, clock, h1, _⟩ := hMC; subst h1; rfl⟩
 obtain ⟨w0, t0, hr0, hc0, hf0, hs0, hz0, hu0⟩ := gi_get hM.nd hI hA k
 have i0 : Ones (encG (w0, t0)) := ⟨hc0.ones⟩
 have iw : One w0 := hc0.oneCell
 have hsm : (mget k A).isSome = true → mget k A = some t0 := fun e => by
  obtain ⟨u, hu⟩ := Option.isSome_iff_exists.1 e
  rw [hu, (hu0 u hu).1]
 refine Spec.segs (H' := [[(g, .cells [vc, .map (some bm), .pointer (some ⟨q, 0, none⟩)].toArray 110 (0, 0))], Tc, Tm, Tq, Td]) (by simp) ?_
 refine Spec.body Tryz.func99 rfl Tryz.results99 Tryz.ntmps99 rfl ?_
 refine .sr ?_
 refine .allocA (fun b12 => ?_)
 refine .ag rfl<|.zs<|.sr<|.mo rfl ?_
 refine .callR (gok_spec g bm _ _ _) (fun v hv => ?_)
 subst hv
 refine .q .not<|.zn<|.condF<|.kn<|.sr<|.mo rfl<|.nc rfl<|.fa rfl<|.lo rfl<|.mo rfl ?_
 refine .q (Quiet.cast (v' := .tuple [.agg (encG (w0, t0)).toArray, .bool (mget k A).isSome].toArray) (.lookup2 hM.rx rfl (show _ = some (Value.string k) from rfl)) (by rw [← hs0, ← hr0]; rfl)) ?_
 refine .mo rfl<|.q .extract<|.q .extract ?_
 refine .allocA (fun b14 => ?_)
 refine .storeA rfl rfl<|.ag rfl<|.zs<|.block<|.sr<|.mo rfl<|.q .not<|.mo rfl ?_
 refine .split (t := 32) rfl (fun g4_2 => ?_) (fun g4_2 => ?_)
 refine .gF g4_2<|.gF g4_2<|.gF g4_2<|.gF g4_2<|.q (.pickTh g4_2) ?_
 refine .ag rfl<|.zn<|.condT<|.sr ?_
 refine .q .bld ?_
 refine .storeA rfl rfl<|.ag rfl<|.zn ?_
 refine .ret (blkQ_r (seqQ_r (retQ_r _ (.two (.cellA rfl rfl) (.tmp rfl)) ((HLe.pick [2, 2, 2, 2, 2] _).trans (HLe.ofPerm (H' := [((g, .cells [vc, .map (some bm), .pointer (some ⟨q, 0, none⟩)].toArray 110 (0, 0)) :: (Tc ++ (Tm ++ Tq))) ++ Td, []]) (by simp [take, dropAt]))) ?_)))
 ·have hm : mget k A = none := by simpa using g4_2
  have e : gredeem A k client uri ver now = (Cod.zero, 18, A) := by unfold gredeem; rw [hm]
  rw [e]; exact ⟨_, _, rfl, .slice none 0 0, rfl, CodR.zero _, h0⟩
 refine .gT g4_2<|.fa rfl<|.gT g4_2<|.lo rfl<|.gT g4_2<|.mo rfl<|.gT g4_2<|.q .neS<|.q (.pickFh g4_2) ?_
 refine .ag rfl<|.zn ?_
 refine .cond rfl (fun h2 => ?_) (fun h2 => ?_)
 refine .sr ?_
 refine .q .bld ?_
 refine .storeA rfl rfl<|.ag rfl<|.zn ?_
 refine .ret (blkQ_r (seqQ_r (retQ_r _ (.two (.cellA rfl rfl) (.tmp rfl)) ((HLe.pick [2, 2, 2, 2, 2] _).trans (HLe.ofPerm (H' := [((g, .cells [vc, .map (some bm), .pointer (some ⟨q, 0, none⟩)].toArray 110 (0, 0)) :: (Tc ++ (Tm ++ Tq))) ++ Td, []]) (by simp [take, dropAt]))) ?_)))
 ·have hm := hsm (by simpa using g4_2)
  have e : gredeem A k client uri ver now = (Cod.zero, 18, A) := by unfold gredeem; rw [hm]; simp only; rw [if_pos (by simpa using h2)]
  rw [e]; exact ⟨_, _, rfl, .slice none 0 0, rfl, CodR.zero _, h0⟩
 refine .sr<|.fa rfl<|.lo rfl<|.ag rfl<|.zn ?_
 refine .cond rfl (fun h3 => ?_) (fun h3 => ?_)
 refine .sr<|.q (.loadA rfl) ?_
 refine .callN (gcopied_spec w0 t0 _ (hc0.mono fun b o hb => .inr (by have hb' : (b, o) ∈ Td := hb.1; simp [hb'])) hf0) (fun v T1 hv => ?_)
 obtain ⟨w1, rfl, hc1⟩ := hv
 have i1 : Ones (encG (w1, t0)) := ⟨hc1.ones⟩
 refine .storeA rfl rfl<|.ag rfl<|.zn ?_
 refine .ret (blkQ_r (seqQ_r (retQ_r _ (.two (.cellA rfl rfl) (.tmp rfl)) ((HLe.pick [3, 3, 3, 3, 3, 0] _).trans (HLe.ofPerm (H' := [((g, .cells [vc, .map (some bm), .pointer (some ⟨q, 0, none⟩)].toArray 110 (0, 0)) :: (Tc ++ (Tm ++ Tq))) ++ Td, T1]) (by simp [take, dropAt]))) ?_)))
 ·have hm := hsm (by simpa using g4_2)
  have hcl : ¬ t0.client ≠ client := by simpa using h2
  have e : gredeem A k client uri ver now = (t0, 10, A) := by unfold gredeem; rw [hm]; simp only; rw [if_neg hcl, if_pos h3]
  rw [e]; exact ⟨_, _, rfl, w1, rfl, hc1, h0⟩
 refine .sr<|.fa rfl<|.lo rfl<|.mo rfl<|.q .leq<|.mo rfl ?_
 refine .split (t := 49) rfl (fun g8_4 => ?_) (fun g8_4 => ?_)
 refine .gF g8_4<|.gF g8_4<|.gF g8_4<|.gF g8_4<|.q (.pickTh g8_4) ?_
 refine .mo rfl<|.gf rfl rfl<|.gf rfl rfl<|.gf rfl rfl<|.gf rfl rfl<|.gf rfl rfl<|.q .pickT<|.ag rfl<|.zn<|.condT<|.sr ?_
 refine .q .bld ?_
 refine .storeA rfl rfl<|.ag rfl<|.zn ?_
 refine .ret (blkQ_r (seqQ_r (retQ_r _ (.two (.cellA rfl rfl) (.tmp rfl)) ((HLe.pick [2, 2, 2, 2, 2] _).trans (HLe.ofPerm (H' := [((g, .cells [vc, .map (some bm), .pointer (some ⟨q, 0, none⟩)].toArray 110 (0, 0)) :: (Tc ++ (Tm ++ Tq))) ++ Td, []]) (by simp [take, dropAt]))) ?_)))
 ·have hm := hsm (by simpa using g4_2)
  have hcl : ¬ t0.client ≠ client := by simpa using h2
  have e : gredeem A k client uri ver now = (Cod.zero, 18, A) := by unfold gredeem; rw [hm]; simp only; rw [if_neg hcl, if_neg (by rw [h3]; simp), if_pos (.inl (by simpa using g8_4))]
  rw [e]; exact ⟨_, _, rfl, .slice none 0 0, rfl, CodR.zero _, h0⟩
 refine .gT g8_4<|.fa rfl<|.gT g8_4<|.lo rfl<|.gT g8_4<|.mo rfl<|.gT g8_4<|.q .neS<|.q (.pickFh g8_4) ?_
 refine .mo rfl ?_
 refine .split (t := 55) rfl (fun g8_10 => ?_) (fun g8_10 => ?_)
 refine .gF g8_10<|.gF g8_10<|.gF g8_10<|.gF g8_10<|.gF g8_10<|.q (.pickTh g8_10) ?_
 refine .ag rfl<|.zn<|.condT<|.sr ?_
 refine .q .bld ?_
 refine .storeA rfl rfl<|.ag rfl<|.zn ?_
 refine .ret (blkQ_r (seqQ_r (retQ_r _ (.two (.cellA rfl rfl) (.tmp rfl)) ((HLe.pick [2, 2, 2, 2, 2] _).trans (HLe.ofPerm (H' := [((g, .cells [vc, .map (some bm), .pointer (some ⟨q, 0, none⟩)].toArray 110 (0, 0)) :: (Tc ++ (Tm ++ Tq))) ++ Td, []]) (by simp [take, dropAt]))) ?_)))
 ·have hm := hsm (by simpa using g4_2)
  have hcl : ¬ t0.client ≠ client := by simpa using h2
  have e : gredeem A k client uri ver now = (Cod.zero, 18, A) := by unfold gredeem; rw [hm]; simp only; rw [if_neg hcl, if_neg (by rw [h3]; simp), if_pos (.inr (.inl (by simpa using g8_10)))]
  rw [e]; exact ⟨_, _, rfl, .slice none 0 0, rfl, CodR.zero _, h0⟩
 refine .gT g8_10<|.mo rfl<|.gT g8_10<|.fa rfl<|.gT g8_10<|.lo rfl<|.gT g8_10 ?_
 refine .callR (match_spec ver t0.chall hv _ hg.rx) (fun v hv9 => ?_)
 subst hv9
 refine .gT g8_10<|.q .not<|.q (.pickFh g8_10) ?_
 refine .ag rfl<|.zn ?_
 refine .cond rfl (fun h4 => ?_) (fun h4 => ?_)
 refine .sr ?_
 refine .q .bld ?_
 refine .storeA rfl rfl<|.ag rfl<|.zn ?_
 refine .ret (blkQ_r (seqQ_r (retQ_r _ (.two (.cellA rfl rfl) (.tmp rfl)) ((HLe.pick [2, 2, 2, 2, 2] _).trans (HLe.ofPerm (H' := [((g, .cells [vc, .map (some bm), .pointer (some ⟨q, 0, none⟩)].toArray 110 (0, 0)) :: (Tc ++ (Tm ++ Tq))) ++ Td, []]) (by simp [take, dropAt]))) ?_)))
 ·have hm := hsm (by simpa using g4_2)
  have hcl : ¬ t0.client ≠ client := by simpa using h2
  have e : gredeem A k client uri ver now = (Cod.zero, 18, A) := by unfold gredeem; rw [hm]; simp only; rw [if_neg hcl, if_neg (by rw [h3]; simp), if_pos (.inr (.inr (by simpa using h4)))]
  rw [e]; exact ⟨_, _, rfl, .slice none 0 0, rfl, CodR.zero _, h0⟩
 refine .skip<|blkQ_n<|seqQ_n<|.sr<|.fa rfl<|.store1 rfl rfl<|.zs ?_
 refine .region_tail 6 mixed (by kernel_rfl) ?_
 conv => arg 6; dsimp only [List.take]
 refine .mo rfl<|.nc rfl<|.fa rfl<|.lo rfl<|.mo rfl<|.q (.loadA rfl)<|.nil ?_
 refine .update (u := ((w0, t0.mark) : GP)) hM rfl (show _ = some (Value.string k) from rfl) rfl (fun Tm2 hM2 _ => ?_)
 refine .z<|.q (.loadA rfl) ?_
 refine .callN (gcopied_spec w0 t0.mark _ (CodR.mono (p := (w0, t0)) hc0 fun b o hb => .inr (by have hb' : (b, o) ∈ Td := hb.1; simp [hb'])) hf0) (fun v T1 hv => ?_)
 obtain ⟨w1, rfl, hc1⟩ := hv
 have i1 : Ones (encG (w1, t0.mark)) := ⟨hc1.ones⟩
 refine .storeA rfl rfl<|.ag rfl<|.zn ?_
 refine .ret (retQ_r _ (.two (.cellA rfl rfl) (.tmp rfl)) ((HLe.pick [3, 3, 3, 3, 3, 0] _).trans (HLe.ofPerm (H' := [((g, .cells [vc, .map (some bm), .pointer (some ⟨q, 0, none⟩)].toArray 110 (0, 0)) :: (Tc ++ (Tm2 ++ Tq))) ++ Td, T1]) (by simp [take, dropAt]))) ?_)
 ·have hm := hsm (by simpa using g4_2)
  have hcl : ¬ t0.client ≠ client := by simpa using h2
  have hno : ¬ (t0.expires ≤ now ∨ t0.uri ≠ uri ∨ pmatch ver t0.chall = false) := by
   have q1 : ¬ t0.expires ≤ now := by simpa using g8_4
   have q2 : t0.uri = uri := by simpa using g8_10
   have q3 : pmatch ver t0.chall = true := by simpa using h4
   simp [q2, q3]; omega
  have e : gredeem A k client uri ver now = (t0.mark, 0, kset k t0.mark A) := by unfold gredeem; rw [hm]; simp only; rw [if_neg hcl, if_neg (by rw [h3]; simp), if_neg hno]
  have hk : k = t0.text := (hu0 t0 hm).2.1.symm
  rw [e]
  refine ⟨_, _, rfl, w1, rfl, hc1, Td, _, rfl, _, MC, _, _, q, Tc, Tm2, Tq, rfl, ⟨hMC, hIC, hC⟩, hM2, fun p hp => ?_, ?_, ?_⟩
  ·rcases mset_mem hM.nd hp with hp | rfl
   ·exact hI p hp
   ·exact ⟨hk, CodR.mono (p := (w0, t0)) hc0 fun b o hb => hb, hf0⟩
  ·exact (kmap_perm (mset_perm hM.nd)).trans (by rw [kmap_set]; exact kset_perm hA)
  ·refine hQ.perm ?_
   rw [kmap_set]
   exact (kset_same (by rw [kmap_keys]; exact hAn) (by rw [kmap_get, hm]; rfl)).symm
end Go.Proofs.YtkagfkbkpiebjaaGreatDoor
