/- What the law 'CoreIssued' uses of this prover's engine, facts and walks. No condition. -/
import Derived.Test.YtkagfkbkpiebjaaGreatDoorKCoreIssuedR
import Derived.Test.YtkagfkbkpiebjaaGreatDoorKCoreIssuedU
set_option linter.unusedVariables false
set_option maxRecDepth 4000
namespace Go.Proofs.YtkagfkbkpiebjaaGreatDoor
theorem pTick_spec (q : Nat) (s : OSt) (T : Seg) (h : CIs q s T) (h0 : 0 ≤ s.now) (h1 : s.now ≤ 1125899906842624) (n : Int) (R : Rds) :
  Spec Tryz.prog 35 [.pointer (some ⟨q, 0, none⟩), .int .i64 n] R [T] fun v H' => ∃ T', H' = [T'] ∧ v = .int .i64 (pTick s n).1 ∧ CIs q (pTick s n).2 T' :=
 (otick_spec q s.cs s.C s.A s.V s.last s.now T h h0 h1 n R).mono fun v H' ⟨T', e1, e2, e3, e4⟩ => by
  refine ⟨T', e1, ?_⟩
  unfold pTick
  by_cases e : otickE n s.now = 0
  ·rw [if_neg (by simp [e])]
   exact ⟨by rw [e2, e], (e4 e).2⟩
  ·rw [if_pos e]
   exact ⟨e2, e3 e⟩
theorem pConsent_spec (q : Nat) (s : OSt) (T : Seg) (h : CIs q s T) (user id : ByteArray) (hu : user.size ≤ 9223372036854775807) (vs : Value) (scopes : List ByteArray) (R : Rds) (hs : RS R 1 encS vs scopes) (hsl : scopes.length ≤ 100000) (hb : ∀ p ∈ s.C, p.2.length ≤ 1000000) :
  Spec Tryz.prog 38 [.pointer (some ⟨q, 0, none⟩), .string user, .string id, vs] R [T] fun v H' => ∃ T', H' = [T'] ∧ v = .int .i64 (pConsent s user id scopes).1 ∧ CIs q (pConsent s user id scopes).2 T' :=
 (oconsent_spec q s.cs s.C s.A s.V s.last s.now T h user id hu vs scopes R hs hsl hb).mono fun v H' ⟨T', e1, e2, C', e3, e4, e5⟩ => by
  refine ⟨T', e1, ?_⟩
  unfold pConsent
  by_cases e : oconE s.cs user id scopes = 0
  ·rw [if_neg (by simp [e])]
   obtain ⟨l, hl1, hl2, hl3, hl4⟩ := e4 e
   have hl : l = uni (scopesOf s.C user id) scopes := uni_of hl1 hl2
   have hne : l ≠ [] := fun e9 => by
    obtain ⟨_, _, h9⟩ := oconE_zero e
    have h10 : 0 < scopes.length := by unfold casks at h9; simp only [Bool.and_eq_true, decide_eq_true_eq] at h9; exact h9.2.1
    obtain ⟨x, hx⟩ := List.exists_mem_of_length_pos h10
    have := (hl2 x).2 (.inr hx)
    rw [e9] at this; cases this
   rw [if_neg hne, hl] at hl4
   subst hl4
   exact ⟨by rw [e2, e], e5⟩
  ·rw [if_pos e]
   rw [e3 e] at e5
   exact ⟨e2, e5⟩
theorem short_le (s : ByteArray) (n : Nat) : (short s n).size ≤ n := by
 unfold short
 split
 ·simp; omega
 ·omega
theorem pDo0 {s : OSt} {x : OC} (h : x.kind = 0) : pDo s x = (e0, e0, pTick s x.n) := by
 unfold pDo
 rw [if_pos h]
theorem pDo1 {s : OSt} {x : OC} (h : x.kind = 1) : pDo s x = (e0, e0, pAdd s x.cl) := by
 unfold pDo
 rw [if_neg (by omega), if_pos h]
theorem pDo2 {s : OSt} {x : OC} (h : x.kind = 2) : pDo s x = (e0, e0, pRemove s x.id) := by
 unfold pDo
 rw [if_neg (by omega), if_neg (by omega), if_pos h]
theorem pDo3 {s : OSt} {x : OC} (h : x.kind = 3) : pDo s x = (e0, e0, pConsent s x.user x.id x.scopes) := by
 unfold pDo
 rw [if_neg (by omega), if_neg (by omega), if_neg (by omega), if_pos h]
theorem pDo4 {s : OSt} {x : OC} (h : x.kind = 4) : pDo s x = (e0, e0, pWithdraw s x.user x.id) := by
 unfold pDo
 rw [if_neg (by omega), if_neg (by omega), if_neg (by omega), if_neg (by omega), if_pos h]
theorem pDo5 {s : OSt} {x : OC} (h : x.kind = 5) : pDo s x = ((pAuth s x.user x.id x.uri x.scopes x.word x.a).1, e0, (pAuth s x.user x.id x.uri x.scopes x.word x.a).2) := by
 unfold pDo
 rw [if_neg (by omega), if_neg (by omega), if_neg (by omega), if_neg (by omega), if_neg (by omega), if_pos h]
theorem pDo6 {s : OSt} {x : OC} (h : x.kind = 6) : pDo s x = pExch s x.id x.secret x.text x.uri x.word x.a x.r x.rev := by
 unfold pDo
 rw [if_neg (by omega), if_neg (by omega), if_neg (by omega), if_neg (by omega), if_neg (by omega), if_neg (by omega), if_pos h]
theorem pDo7 {s : OSt} {x : OC} (h : x.kind = 7) : pDo s x = pRefr s x.id x.secret x.text x.scopes x.a x.r x.rev := by
 unfold pDo
 rw [if_neg (by omega), if_neg (by omega), if_neg (by omega), if_neg (by omega), if_neg (by omega), if_neg (by omega), if_neg (by omega), if_pos h]
theorem pDo8 {s : OSt} {x : OC} (h : x.kind = 8) : pDo s x = (e0, e0, pRevoke s x.id x.secret x.text) := by
 unfold pDo
 rw [if_neg (by omega), if_neg (by omega), if_neg (by omega), if_neg (by omega), if_neg (by omega), if_neg (by omega), if_neg (by omega), if_neg (by omega), if_pos h]
theorem pDo9 {s : OSt} {x : OC} (h : x.kind < 0 ∨ 8 < x.kind) : pDo s x = (e0, e0, 0, s) := by
 unfold pDo
 rw [if_neg (by omega), if_neg (by omega), if_neg (by omega), if_neg (by omega), if_neg (by omega), if_neg (by omega), if_neg (by omega), if_neg (by omega), if_neg (by omega)]
theorem odo_spec (q : Nat) (s : OSt) (T : Seg) (h : CIs q s T) (k : Nat) (hb : OB s k) (hk : k ≤ 1000) (w : OV) (x : OC) (R : Rds) (hx : OR R w x) (hg : PC R (.pointer (some ⟨1, 0, none⟩)) (wv ks)) :
  Spec Tryz.prog 10 [.pointer (some ⟨q, 0, none⟩), .agg (encO w x).toArray] R [T] fun v H' => ∃ T', H' = [T'] ∧ v = .tuple [.string (pDo s x.brief).1, .string (pDo s x.brief).2.1, .int .i64 (pDo s x.brief).2.2.1].toArray ∧ CIs q (pDo s x.brief).2.2.2 T' := by
 have i1 : Ones (encO w x) := ⟨hx.ones⟩
 have hbC : ∀ p ∈ s.C, p.2.length ≤ 1000000 := fun p hp => by have := hb.cl p hp; omega
 have z1 : x.brief.user.size ≤ 40 := short_le _ _
 have z2 : x.brief.word.size ≤ 140 := short_le _ _
 have z3 : x.brief.scopes.length ≤ 6 := by show (texts x.scopes 6 40).length ≤ 6; simp [texts]; omega
 have z4 : x.brief.a.length ≤ 30 := by show (x.a.take 30).length ≤ 30; simp; omega
 have z5 : x.brief.r.length ≤ 30 := by show (x.r.take 30).length ≤ 30; simp; omega
 refine Spec.body Tryz.func10 rfl Tryz.results10 Tryz.ntmps10 rfl ?_
 refine .sr ?_
 refine .boxA rfl (fun b3 => ?_)
 refine .ag rfl<|.ag rfl<|.ag rfl<|.z<|.q (.loadA rfl) ?_
 refine .callN (oshort_spec w x _ (hx.mono fun b o hb => .inl hb)) (fun u T1 hu => ?_)
 obtain ⟨w', rfl, hc1⟩ := hu
 have i3 : Ones (encO w' x.brief) := ⟨hc1.ones⟩
 have hin : ∀ (R' : Rds) (H' : Segs), T1 ∈ H' → ∀ b o, sg T1 b o → Rx R' H' b o := fun R' H' hm b o hb => .inr (List.mem_flatten.2 ⟨_, hm, hb⟩)
 refine .storeA rfl rfl<|.zs<|.sr<|.fa rfl<|.lo rfl<|.zn<|.block<|.sr<|.q .eqI<|.ag rfl<|.zn ?_
 refine .cond rfl (fun h1 => ?_) (fun h1 => ?_)
 refine .sr<|.mo rfl<|.fa rfl<|.lo rfl ?_
 refine .callM (pTick_spec q s T h hb.n0 hb.n1 x.brief.n R) (fun v T2 hv => ?_)
 obtain ⟨rfl, hv⟩ := hv
 refine .ag rfl<|.ag rfl<|.ag rfl<|.zn ?_
 refine .ret (blkQ_r (seqQ_r (retQ_r _ (.three (.tmp rfl) (.tmp rfl) (.tmp rfl)) (.one [2] _) ?_)))
 ·rw [pDo0 (x := x.brief) (by have h9 := h1; simp only [beq_iff_eq] at h9; exact h9)]
  exact ⟨_, rfl, rfl, by simpa [take, dropAt] using hv⟩
 refine .sr<|.q .eqI<|.ag rfl<|.zn ?_
 refine .cond rfl (fun h2 => ?_) (fun h2 => ?_)
 refine .sr<|.mo rfl<|.fa rfl<|.q (.loadT rfl) ?_
 refine .callW (oadd_spec q s.cs s.C s.A s.V s.last s.now T h w'.cr x.brief.cl _ (hc1.1.mono (hin _ _ (by simp))) (Cli.short_fits x.cl) (Cli.short_few x.cl)) (fun v T2 hv => ?_)
 obtain ⟨rfl, hv⟩ := hv
 have hv : CIs q (pAdd s x.brief.cl).2 T2 := hv
 refine .ag rfl<|.ag rfl<|.ag rfl<|.zn ?_
 refine .ret (blkQ_r (seqQ_r (retQ_r _ (.three (.tmp rfl) (.tmp rfl) (.tmp rfl)) (.one [2] _) ?_)))
 ·rw [pDo1 (x := x.brief) (by have h9 := h2; simp only [beq_iff_eq] at h9; exact h9)]
  exact ⟨_, rfl, rfl, by simpa [take, dropAt] using hv⟩
 refine .sr<|.q .eqI<|.ag rfl<|.zn ?_
 refine .cond rfl (fun h3 => ?_) (fun h3 => ?_)
 refine .sr<|.mo rfl<|.fa rfl<|.lo rfl ?_
 refine .callM (oremove_spec q s T h x.brief.id R) (fun v T2 hv => ?_)
 obtain ⟨rfl, hv⟩ := hv
 refine .ag rfl<|.ag rfl<|.ag rfl<|.zn ?_
 refine .ret (blkQ_r (seqQ_r (retQ_r _ (.three (.tmp rfl) (.tmp rfl) (.tmp rfl)) (.one [2] _) ?_)))
 ·rw [pDo2 (x := x.brief) (by have h9 := h3; simp only [beq_iff_eq] at h9; exact h9)]
  exact ⟨_, rfl, rfl, by simpa [take, dropAt] using hv⟩
 refine .sr<|.q .eqI<|.ag rfl<|.zn ?_
 refine .cond rfl (fun h4 => ?_) (fun h4 => ?_)
 refine .sr<|.mo rfl<|.fa rfl<|.lo rfl<|.fa rfl<|.lo rfl<|.fa rfl<|.lo rfl ?_
 refine .callW (pConsent_spec q s T h x.brief.user x.brief.id (by omega) w'.vs x.brief.scopes _ (hc1.2.1.mono (hin _ _ (by simp))) (by omega) hbC) (fun v T2 hv => ?_)
 obtain ⟨rfl, hv⟩ := hv
 refine .ag rfl<|.ag rfl<|.ag rfl<|.zn ?_
 refine .ret (blkQ_r (seqQ_r (retQ_r _ (.three (.tmp rfl) (.tmp rfl) (.tmp rfl)) (.one [2] _) ?_)))
 ·rw [pDo3 (x := x.brief) (by have h9 := h4; simp only [beq_iff_eq] at h9; exact h9)]
  exact ⟨_, rfl, rfl, by simpa [take, dropAt] using hv⟩
 refine .sr<|.q .eqI<|.ag rfl<|.zn ?_
 refine .cond rfl (fun h5 => ?_) (fun h5 => ?_)
 refine .sr<|.mo rfl<|.fa rfl<|.lo rfl<|.fa rfl<|.lo rfl ?_
 refine .callM (owithdraw_spec q s T h x.brief.user x.brief.id R) (fun v T2 hv => ?_)
 obtain ⟨rfl, hv⟩ := hv
 refine .ag rfl<|.ag rfl<|.ag rfl<|.zn ?_
 refine .ret (blkQ_r (seqQ_r (retQ_r _ (.three (.tmp rfl) (.tmp rfl) (.tmp rfl)) (.one [2] _) ?_)))
 ·rw [pDo4 (x := x.brief) (by have h9 := h5; simp only [beq_iff_eq] at h9; exact h9)]
  exact ⟨_, rfl, rfl, by simpa [take, dropAt] using hv⟩
 refine .sr<|.q .eqI<|.ag rfl<|.zn ?_
 refine .cond rfl (fun h6 => ?_) (fun h6 => ?_)
 refine .sr<|.mo rfl<|.fa rfl<|.lo rfl<|.fa rfl<|.lo rfl<|.fa rfl<|.lo rfl<|.fa rfl<|.lo rfl<|.fa rfl<|.lo rfl<|.fa rfl<|.lo rfl ?_
 refine .callW (oauth_spec q s T h k hb hk x.brief.user x.brief.id x.brief.uri w'.vs x.brief.scopes x.brief.word w'.va x.brief.a (by omega) (by omega) (by omega) (by omega) _ (hc1.2.1.mono (hin _ _ (by simp))) (hc1.2.2.1.mono (hin _ _ (by simp)))) (fun v T2 hv => ?_)
 obtain ⟨rfl, hv⟩ := hv
 refine .mo rfl<|.q .extract<|.q .extract<|.ag rfl<|.ag rfl<|.z<|.mo rfl<|.mo rfl<|.ag rfl<|.ag rfl<|.ag rfl<|.zn ?_
 refine .ret (blkQ_r (seqQ_r (retQ_r _ (.three (.tmp rfl) (.tmp rfl) (.tmp rfl)) (.one [2] _) ?_)))
 ·rw [pDo5 (x := x.brief) (by have h9 := h6; simp only [beq_iff_eq] at h9; exact h9)]
  exact ⟨_, rfl, rfl, by simpa [take, dropAt] using hv⟩
 refine .sr<|.q .eqI<|.ag rfl<|.zn ?_
 refine .cond rfl (fun h7 => ?_) (fun h7 => ?_)
 refine .sr<|.mo rfl<|.fa rfl<|.lo rfl<|.fa rfl<|.lo rfl<|.fa rfl<|.lo rfl<|.fa rfl<|.lo rfl<|.fa rfl<|.lo rfl<|.fa rfl<|.lo rfl<|.fa rfl<|.lo rfl<|.fa rfl<|.lo rfl ?_
 refine .callW (oexch_spec q s T h k hb hk x.brief.id x.brief.secret x.brief.text x.brief.uri x.brief.word w'.va w'.vr x.brief.a x.brief.r x.brief.rev (by omega) (by omega) (by omega) _ (hc1.2.2.1.mono (hin _ _ (by simp))) (hc1.2.2.2.mono (hin _ _ (by simp))) (hg.mono fun b o hb => .inl hb)) (fun v T2 hv => ?_)
 obtain ⟨rfl, hv⟩ := hv
 refine .q .extract<|.q .extract<|.q .extract<|.ag rfl<|.ag rfl<|.ag rfl<|.zn ?_
 refine .ret (blkQ_r (seqQ_r (retQ_r _ (.three (.tmp rfl) (.tmp rfl) (.tmp rfl)) (.one [2] _) ?_)))
 ·rw [pDo6 (x := x.brief) (by have h9 := h7; simp only [beq_iff_eq] at h9; exact h9)]
  exact ⟨_, rfl, rfl, by simpa [take, dropAt] using hv⟩
 refine .sr<|.q .eqI<|.ag rfl<|.zn ?_
 refine .cond rfl (fun h8 => ?_) (fun h8 => ?_)
 refine .sr<|.mo rfl<|.fa rfl<|.lo rfl<|.fa rfl<|.lo rfl<|.fa rfl<|.lo rfl<|.fa rfl<|.lo rfl<|.fa rfl<|.lo rfl<|.fa rfl<|.lo rfl<|.fa rfl<|.lo rfl ?_
 refine .callW (orefr_spec q s T h k hb hk x.brief.id x.brief.secret x.brief.text w'.vs x.brief.scopes w'.va w'.vr x.brief.a x.brief.r x.brief.rev (by omega) (by omega) (by omega) _ (hc1.2.1.mono (hin _ _ (by simp))) (hc1.2.2.1.mono (hin _ _ (by simp))) (hc1.2.2.2.mono (hin _ _ (by simp)))) (fun v T2 hv => ?_)
 obtain ⟨rfl, hv⟩ := hv
 refine .q .extract<|.q .extract<|.q .extract<|.ag rfl<|.ag rfl<|.ag rfl<|.zn ?_
 refine .ret (blkQ_r (seqQ_r (retQ_r _ (.three (.tmp rfl) (.tmp rfl) (.tmp rfl)) (.one [2] _) ?_)))
 ·rw [pDo7 (x := x.brief) (by have h9 := h8; simp only [beq_iff_eq] at h9; exact h9)]
  exact ⟨_, rfl, rfl, by simpa [take, dropAt] using hv⟩
 refine .sr<|.q .eqI<|.ag rfl<|.zn ?_
 refine .cond rfl (fun h9 => ?_) (fun h9 => ?_)
 refine .sr<|.mo rfl<|.fa rfl<|.lo rfl<|.fa rfl<|.lo rfl<|.fa rfl<|.lo rfl ?_
 refine .callM (orevoke_spec q s T h x.brief.id x.brief.secret x.brief.text R) (fun v T2 hv => ?_)
 obtain ⟨rfl, hv⟩ := hv
 refine .ag rfl<|.ag rfl<|.ag rfl<|.zn ?_
 refine .ret (blkQ_r (seqQ_r (retQ_r _ (.three (.tmp rfl) (.tmp rfl) (.tmp rfl)) (.one [2] _) ?_)))
 ·rw [pDo8 (x := x.brief) (by have h9 := h9; simp only [beq_iff_eq] at h9; exact h9)]
  exact ⟨_, rfl, rfl, by simpa [take, dropAt] using hv⟩
 refine .skip<|blkQ_n<|seqQ_n<|.sr<|.ag rfl<|.ag rfl<|.ag rfl<|.zn ?_
 refine .ret (retQ_r _ (.three (.tmp rfl) (.tmp rfl) (.tmp rfl)) (.one [2] _) ?_)
 ·have hk9 : x.brief.kind < 0 ∨ 8 < x.brief.kind := by
   simp only [beq_eq_false_iff_ne, ne_eq] at h1 h2 h3 h4 h5 h6 h7 h8 h9
   omega
  rw [pDo9 (x := x.brief) hk9]
  exact ⟨_, rfl, rfl, by simpa [take, dropAt] using h⟩
theorem ovault_spec (q a g : Nat) (b d : Value) (R : Rds) [pc : PC R (.pointer (some ⟨q, 0, none⟩)) [.pointer (some ⟨a, 0, none⟩), b, .pointer (some ⟨g, 0, none⟩), d]] : Spec Tryz.prog 11 [.pointer (some ⟨q, 0, none⟩)] R [] fun v H' => v = .pointer (some ⟨g, 0, none⟩) ∧ H' = [] := by
 refine Spec.body Tryz.func11 rfl Tryz.results11 Tryz.ntmps11 rfl ?_
 refine .sr<|.ag rfl<|.zs<|.sr<|.mo rfl ?_
 refine .callR (ook_spec q a b _ d _) (fun v hv => ?_)
 subst hv
 refine .q .not<|.zn<|.condF<|.kn<|.sr<|.mo rfl<|.nc rfl<|.fa rfl<|.lo rfl<|.ag rfl<|.zn ?_
 refine .ret (retQ_r _ (.one (.tmp rfl)) (.none _) ?_)
 ·exact ⟨rfl, rfl⟩
abbrev OD : Type := OV × OC
def encD (d : OD) : List Value := encO d.1 d.2
theorem pInspect_key {s : OSt} {text : ByteArray} (h : (pInspect s text).isSome = true) : ∃ p ∈ s.V, p.1 = text := by
 obtain ⟨t, ht⟩ := Option.isSome_iff_exists.1 h
 unfold pInspect at ht
 obtain ⟨h1, _⟩ := Option.filter_eq_some_iff.1 ht
 exact ⟨_, mget_some (tfind_some h1).1, rfl⟩
theorem oissued_spec (v : Value) (ds : List OD) (R : Rds) (hS : RS R 16 encD v ds) (hD : ∀ d ∈ ds, OR R d.1 d.2) (hg : PC R (.pointer (some ⟨1, 0, none⟩)) (wv ks)) :
  Spec Tryz.prog 5 [v] R [] fun u H' => u = .bool true ∧ H' = [] := by
 have iv := hS.oneCell
 have hle := hS.le
 refine Spec.body Tryz.func5 rfl Tryz.results5 Tryz.ntmps5 rfl ?_
 refine .sr<|.ag rfl<|.z ?_
 refine .callN (onew_spec _) (fun u T hu => ?_)
 obtain ⟨q, rfl, hC0⟩ := hu
 refine .ag rfl<|.zs<|.sr<|.mo rfl<|.q (.eqNilA rfl rfl) ?_
 refine .zn<|.condF<|.kn<|.sr<|.ag rfl<|.zs<|.sr<|.ag rfl<|.zn<|.block ?_
 refine .loop (X := Nat × OSt × Seg × List ByteArray × Value × Seg) (fun y => (y.1 ≤ ds.length ∧ y.1 ≤ 30) ∧ CIs q y.2.1 y.2.2.1 ∧ OB y.2.1 y.1 ∧ II y.2.1 y.2.2.2.1 ∧ OS 9 1 encS y.2.2.2.2.1 y.2.2.2.1 y.2.2.2.2.2 ∧ y.2.2.2.1.length = 2 * y.1) (fun y => [(0, v), (3, .pointer (some ⟨q, 0, none⟩)), (4, y.2.2.2.2.1), (5, .int .i64 (y.1 : Nat))]) (fun y => [y.2.2.1, y.2.2.2.2.2]) (fun y => 30 - y.1) (0, OSt.zero, T, [], .slice none 0 0, []) ⟨⟨Nat.zero_le _, Nat.zero_le _⟩, hC0, OB.zero, II.zero, OS.nil, rfl⟩ (EnvLe.k4 rfl rfl rfl rfl) (HLe.ofPerm (by simp)) ?_
 rintro ⟨i, s, T, l, vi, Ti⟩ ⟨⟨hi, hi30⟩, hC, hB, hI, hL, hll⟩
 simp only at hi hi30 hC hB hI hL hll ⊢
 have ivi := hL.oneCell
 refine .seq<|.sr<|.mo rfl<|.mo rfl<|.q (.lenR hS) ?_
 refine .q .lss<|.mo rfl ?_
 refine .split (t := 21) rfl (fun g6_4 => ?_) (fun g6_4 => ?_)
 refine .gT g6_4<|.mo rfl<|.gT g6_4<|.q .lss<|.q (.pickTh g6_4) ?_
 refine .zn ?_
 refine .cond rfl (fun h2 => ?_) (fun h2 => ?_)
 have hlt : i < ds.length := by
  have := of_decide_eq_true g6_4
  omega
 have hl30 : i < 30 := by have := of_decide_eq_true h2; omega
 obtain ⟨d, hd⟩ : ∃ d, ds[i]? = some d := ⟨_, List.getElem?_eq_getElem hlt⟩
 obtain ⟨w, x⟩ := d
 have hdR := hD _ (List.mem_of_getElem? hd)
 have id1 : Ones (encO w x) := ⟨hdR.ones⟩
 obtain ⟨gc, gb, gv, Tc, Tb, Tv, hT, hR, hG, hV⟩ := id hC
 have ps2 : PS T (.pointer (some ⟨q, 0, none⟩)) [.pointer (some ⟨gc, 0, none⟩), .pointer (some ⟨gb, 0, none⟩), .pointer (some ⟨gv, 0, none⟩), .int .i64 s.now] := PS.of (E := 63) (fr := (0, 0)) (by rw [hT]; simp)
 have hinv : ∀ (R' : Rds) (H' : Segs), T ∈ H' → ∀ p ∈ Tv, Rx R' H' p.1 p.2 := fun R' H' hm p hp => .inr (List.mem_flatten.2 ⟨_, hm, by rw [hT]; simp [hp]⟩)
 refine .kn<|.seq<|.block<|.sr<|.mo rfl<|.mo rfl ?_
 refine .indexR i hS hd (fun p29 => ?_)
 refine .q (.loadA rfl) ?_
 refine .callN (oshort_spec w x _ (hdR.mono fun b o hb => .inl hb)) (fun u T1 hu => ?_)
 obtain ⟨w', rfl, hc1⟩ := hu
 have i3 : Ones (encO w' x.brief) := ⟨hc1.ones⟩
 refine .allocA (fun b6 => ?_)
 refine .storeA rfl rfl<|.z<|.mo rfl ?_
 refine .callR (ovault_spec q gc gv _ _ _) (fun u hu => ?_)
 subst hu
 refine .callN (vlist_spec gv s.V s.last Tv hV (by have := hB.V; omega) _ (hinv _ _ (by simp))) (fun w7 T7 hw7 => ?_)
 obtain ⟨ps, To, Tj, rfl, hO, hps, hperm, _⟩ := hw7
 have iw7 := hO.oneCell
 have hOl := hO.le
 refine .ag rfl<|.z<|.mo rfl<|.mo rfl<|.mo rfl ?_
 refine .indexR i hS hd (fun p39 => ?_)
 refine .q (.loadA rfl) ?_
 refine .callM (odo_spec q s T hC i hB (by omega) w x R hdR hg) (fun u T2 hu => ?_)
 obtain ⟨rfl, hC2⟩ := hu
 have hB2 := hB.step x.brief (by show (texts x.scopes 6 40).length ≤ 6; simp [texts]; omega)
 have hI2 := hI.step x.brief
 have hci := callI s x.brief
 obtain ⟨a, ha⟩ : ∃ a, a = (pDo s x.brief).1 := ⟨_, rfl⟩
 obtain ⟨b, hb⟩ : ∃ b, b = (pDo s x.brief).2.1 := ⟨_, rfl⟩
 obtain ⟨e, he⟩ : ∃ e, e = (pDo s x.brief).2.2.1 := ⟨_, rfl⟩
 obtain ⟨s2, hs2⟩ : ∃ s2, s2 = (pDo s x.brief).2.2.2 := ⟨_, rfl⟩
 rw [← ha, ← hb, ← he, ← hs2] at hci
 rw [← hs2] at hC2 hB2
 rw [← hs2, ← ha, ← hb] at hI2
 rw [← ha, ← hb, ← he]
 have hop : e = 0 → x.brief.kind = 6 ∨ x.brief.kind = 7 → x.brief.text ∈ l := fun h1 h2 => by
  rcases hci.opens h1 h2 with ⟨p, hp, e9⟩ | ⟨p, hp, e9⟩
  ·rw [← e9]; exact hI.a p hp
  ·rw [← e9]; exact (hI.v p hp).1
 have hins : (pInspect s2 x.brief.text).isSome = true → x.brief.text ∈ l ++ [a, b] := fun h9 => by
  obtain ⟨p, hp, e9⟩ := pInspect_key h9
  rw [← e9]; exact (hI2.v p hp).1
 clear ha hb he hs2
 refine .sub (HLe.ofPerm (H' := [To, Tj, [(b6, .cells (encO w' x.brief).toArray 34 (0, 0))], T1, T2, Ti]) (by simp [setL, encO])) ?_
 refine .mo rfl<|.q .extract<|.q .extract<|.q .extract<|.ag rfl<|.ag rfl<|.ag rfl<|.zs<|.sr<|.mo rfl<|.q .eqI<|.mo rfl ?_
 refine .split (t := 47) rfl (fun g11_2 => ?_) (fun g11_2 => ?_)
 refine .gT g11_2<|.fa rfl<|.gT g11_2<|.lo rfl<|.gT g11_2<|.q .eqI<|.gT g11_2<|.mo rfl ?_
 refine .split (t := 51) rfl (fun g11_6 => ?_) (fun g11_6 => ?_)
 refine .gF g11_6<|.gF g11_6<|.gF g11_6<|.gT g11_2<|.q (.pickTh g11_6) ?_
 refine .q (.pickTh g11_2) ?_
 refine .mo rfl<|.gt rfl ?_
 refine .mo rfl<|.gt rfl ?_
 refine .fa rfl<|.gt rfl ?_
 refine .lo rfl<|.gt rfl ?_
 refine .callR (has_spec vi l x.brief.text _ hL.rx) (fun u hu => ?_)
 subst hu
 refine .gt rfl ?_
 refine .q .not<|.q .pickT<|.zn ?_
 refine .cond rfl (fun h3 => ?_) (fun h3 => ?_)
 ·exfalso
  exact absurd (hop (by simpa using g11_2) (by first | exact .inl (by simpa using g11_6) | exact .inr (by simpa using g11_12))) (by simpa using h3)
 refine .kn<|.seq<|.sr<|.ag rfl<|.zn<|.block ?_
 refine .loop (X := Nat) (fun k => k ≤ ps.length) (fun k => [(0, v), (3, .pointer (some ⟨q, 0, none⟩)), (4, vi), (5, .int .i64 (i : Nat)), (6, .pointer (some ⟨b6, 0, none⟩)), (7, w7), (8, .string a), (9, .string b), (10, .int .i64 e), (11, .int .i64 (k : Nat))]) (fun _ => [To, Tj, [(b6, .cells (encO w' x.brief).toArray 34 (0, 0))], T1, T2, Ti]) (fun k => ps.length - k) 0 (Nat.zero_le _) (EnvLe.k10 rfl rfl rfl rfl rfl rfl rfl rfl rfl rfl) (HLe.refl _) ?_
 intro k hk
 refine .seq<|.sr<|.mo rfl<|.mo rfl<|.q (.lenO hO) ?_
 refine .q .lss<|.zn ?_
 refine .cond rfl (fun h4 => ?_) (fun h4 => ?_)
 have hlt4 : k < ps.length := by have := of_decide_eq_true h4; omega
 obtain ⟨z, hz⟩ : ∃ z, ps[k]? = some z := ⟨_, List.getElem?_eq_getElem hlt4⟩
 obtain ⟨wt, t⟩ := z
 have hzm := List.mem_of_getElem? hz
 have ht := hps _ hzm
 have htV : (t.text, t) ∈ s.V := hperm.mem_iff.1 (List.mem_map.2 ⟨t, List.mem_map.2 ⟨_, hzm, rfl⟩, rfl⟩)
 have hnew := hci.new _ htV (hI.v _ htV).2
 have it1 : Ones (encT (wt, t)) := ⟨ht.ones⟩
 refine .kn<|.seq<|.block<|.sr<|.mo rfl<|.q .neS<|.mo rfl ?_
 refine .split (t := 72) rfl (fun g16_2 => ?_) (fun g16_2 => ?_)
 refine .gT g16_2<|.mo rfl<|.gT g16_2<|.mo rfl<|.gT g16_2 ?_
 refine .indexO k hO hz (fun p75 => ?_)
 refine .gT g16_2<|.fa rfl<|.gT g16_2<|.lo rfl<|.gT g16_2<|.mo rfl<|.gT g16_2<|.q .eqS<|.q (.pickTh g16_2) ?_
 refine .mo rfl ?_
 refine .split (t := 81) rfl (fun g16_11 => ?_) (fun g16_11 => ?_)
 refine .gF g16_11<|.gF g16_11<|.gF g16_11<|.gfU rfl ?_
 refine .gfU rfl ?_
 refine .gfU rfl ?_
 refine .gfU rfl ?_
 refine .gfU rfl ?_
 refine .gfU rfl ?_
 refine .gfU rfl ?_
 refine .gF g16_11<|.q (.pickTh g16_11) ?_
 refine .zn<|.condT ?_
 ·exfalso
  first
   |exact hnew.1 (by simpa using g16_2) (by simpa using g16_11)
   |exact hnew.2 (by simpa using g16_14) (by simpa using h5)
 refine .gT g16_11<|.mo rfl<|.gT g16_11<|.q .neS<|.gT g16_11<|.mo rfl ?_
 refine .split (t := 84) rfl (fun g16_14 => ?_) (fun g16_14 => ?_)
 refine .gT g16_14<|.mo rfl<|.gT g16_14<|.mo rfl<|.gT g16_14 ?_
 refine .indexO k hO hz (fun p87 => ?_)
 refine .gT g16_14<|.fa rfl<|.gT g16_14<|.lo rfl<|.gT g16_14<|.mo rfl<|.gT g16_14<|.q .eqS<|.gT g16_11<|.q (.pickTh g16_14) ?_
 refine .q (.pickFh g16_11) ?_
 refine .zn ?_
 refine .cond rfl (fun h5 => ?_) (fun h5 => ?_)
 ·exfalso
  first
   |exact hnew.1 (by simpa using g16_2) (by simpa using g16_11)
   |exact hnew.2 (by simpa using g16_14) (by simpa using h5)
 refine .skip<|blkQ_n<|seqQ_n<|.region<|.mo rfl ?_
 refine .q (.i64 ((k + 1 : Nat) : Int) .add ⟨by omega, by omega, by omega⟩) ?_
 refine .ag rfl<|.nil ?_
 ·exact loopQ_i (k + 1) hlt4 (by omega) (EnvLe.k10 rfl rfl rfl rfl rfl rfl rfl rfl rfl rfl) (HLe.refl _)
 refine .gF g16_14<|.gF g16_14<|.gF g16_14<|.gF g16_14<|.gF g16_14<|.gF g16_14<|.gF g16_14<|.gT g16_11<|.q (.pickFh g16_14) ?_
 refine .q (.pickFh g16_11) ?_
 refine .zn<|.condF<|.skip<|blkQ_n<|seqQ_n<|.region<|.mo rfl ?_
 refine .q (.i64 ((k + 1 : Nat) : Int) .add ⟨by omega, by omega, by omega⟩) ?_
 refine .ag rfl<|.nil ?_
 ·exact loopQ_i (k + 1) hlt4 (by omega) (EnvLe.k10 rfl rfl rfl rfl rfl rfl rfl rfl rfl rfl) (HLe.refl _)
 refine .gF g16_2<|.gF g16_2<|.gF g16_2<|.gF g16_2<|.gF g16_2<|.gF g16_2<|.gF g16_2<|.q (.pickFh g16_2) ?_
 refine .mo rfl<|.gt rfl ?_
 refine .mo rfl<|.gt rfl ?_
 refine .q .neS<|.gt rfl ?_
 refine .mo rfl ?_
 refine .split (t := 84) rfl (fun g16_14 => ?_) (fun g16_14 => ?_)
 refine .gT g16_14<|.mo rfl<|.gT g16_14<|.mo rfl<|.gT g16_14 ?_
 refine .indexO k hO hz (fun p87 => ?_)
 refine .gT g16_14<|.fa rfl<|.gT g16_14<|.lo rfl<|.gT g16_14<|.mo rfl<|.gT g16_14<|.q .eqS<|.gt rfl ?_
 refine .q (.pickTh g16_14) ?_
 refine .q .pickF<|.zn ?_
 refine .cond rfl (fun h5 => ?_) (fun h5 => ?_)
 ·exfalso
  first
   |exact hnew.1 (by simpa using g16_2) (by simpa using g16_11)
   |exact hnew.2 (by simpa using g16_14) (by simpa using h5)
 refine .skip<|blkQ_n<|seqQ_n<|.region<|.mo rfl ?_
 refine .q (.i64 ((k + 1 : Nat) : Int) .add ⟨by omega, by omega, by omega⟩) ?_
 refine .ag rfl<|.nil ?_
 ·exact loopQ_i (k + 1) hlt4 (by omega) (EnvLe.k10 rfl rfl rfl rfl rfl rfl rfl rfl rfl rfl) (HLe.refl _)
 refine .gF g16_14<|.gF g16_14<|.gF g16_14<|.gF g16_14<|.gF g16_14<|.gF g16_14<|.gF g16_14<|.gt rfl ?_
 refine .q (.pickFh g16_14) ?_
 refine .q .pickF<|.zn<|.condF<|.skip<|blkQ_n<|seqQ_n<|.region<|.mo rfl ?_
 refine .q (.i64 ((k + 1 : Nat) : Int) .add ⟨by omega, by omega, by omega⟩) ?_
 refine .ag rfl<|.nil ?_
 ·exact loopQ_i (k + 1) hlt4 (by omega) (EnvLe.k10 rfl rfl rfl rfl rfl rfl rfl rfl rfl rfl) (HLe.refl _)
 refine .exit<|seqQ_x<|loopQ_x<|blkQ_x<|seqQ_n<|.seq<|.sr<|.mo rfl<|.q .neI<|.mo rfl ?_
 refine .split (t := 96) rfl (fun g18_2 => ?_) (fun g18_2 => ?_)
 obtain ⟨ea, eb⟩ := hci.err (by simpa using g18_2)
 refine .gT g18_2<|.mo rfl<|.gT g18_2<|.q .neS<|.gT g18_2<|.mo rfl ?_
 refine .split (t := 99) rfl (fun g18_5 => ?_) (fun g18_5 => ?_)
 refine .gF g18_5<|.gF g18_5<|.gT g18_2<|.q (.pickTh g18_5) ?_
 refine .q (.pickTh g18_2) ?_
 refine .zn<|.condT ?_
 ·exfalso
  first
   | (rw [ea] at g18_5; simp at g18_5; done)
   | (rw [eb] at h6; simp at h6; done)
 refine .gT g18_5<|.mo rfl<|.gT g18_5<|.q .neS<|.gT g18_2<|.q (.pickFh g18_5) ?_
 refine .q (.pickTh g18_2) ?_
 refine .zn ?_
 refine .cond rfl (fun h6 => ?_) (fun h6 => ?_)
 ·exfalso
  first
   | (rw [ea] at g18_5; simp at g18_5; done)
   | (rw [eb] at h6; simp at h6; done)
 refine .kn<|.sr<|.mo rfl<|.mo rfl<|.mo rfl ?_
 refine .buildSliceN1 [_, _] (fun b107 => ?_)
 refine .append hL (RS.lits (xs := [a, b]) rfl (by simp [encS]) (by simp [encS, oneCell])) (by simp; omega) (fun v5 T5 hO5 => ?_)
 have i5 := hO5.oneCell
 refine .ag rfl<|.z<|.mo rfl<|.fa rfl<|.lo rfl ?_
 refine .callN (oinspect_spec q s2 T2 hC2 x.brief.text _ (fun p hp => .inr (List.mem_flatten.2 ⟨T2, by simp, hp⟩))) (fun u T9 hu => ?_)
 obtain ⟨w9, rfl, ht9⟩ := hu
 have j9 : Ones (encT (w9, (pInspect s2 x.brief.text).getD Tok.zero)) := ⟨ht9.ones⟩
 refine .mo rfl<|.q .extract<|.q .extract ?_
 refine .allocA (fun b12 => ?_)
 refine .storeA rfl rfl<|.ag rfl<|.z<|.mo rfl<|.mo rfl ?_
 refine .split (t := 117) rfl (fun g22_1 => ?_) (fun g22_1 => ?_)
 refine .gT g22_1<|.mo rfl<|.gT g22_1<|.fa rfl<|.gT g22_1<|.lo rfl<|.gT g22_1 ?_
 refine .callR (has_spec v5 (l ++ [a, b]) x.brief.text _ hO5.rx) (fun u hu => ?_)
 subst hu
 refine .gT g22_1<|.q .not<|.q (.pickTh g22_1) ?_
 refine .zn ?_
 refine .cond rfl (fun h7 => ?_) (fun h7 => ?_)
 ·exfalso
  exact absurd (hins (by simpa using g22_1)) (by simpa using h7)
 refine .skip<|blkQ_n<|seqQ_n<|.region<|.mo rfl ?_
 refine .q (.i64 ((i + 1 : Nat) : Int) .add ⟨by omega, by omega, by omega⟩) ?_
 refine .ag rfl<|.nil ?_
 ·exact loopQ_i (i + 1, s2, T2, l ++ [a, b], v5, T5) ⟨⟨hlt, hl30⟩, hC2, hB2, hI2, hO5, by simp; omega⟩ (by simp only; omega) (EnvLe.k4 rfl rfl rfl rfl) (HLe.pick [7, 7] _)
 refine .gF g22_1<|.gF g22_1<|.gF g22_1<|.gF g22_1<|.gF g22_1<|.q (.pickFh g22_1) ?_
 refine .zn<|.condF<|.skip<|blkQ_n<|seqQ_n<|.region<|.mo rfl ?_
 refine .q (.i64 ((i + 1 : Nat) : Int) .add ⟨by omega, by omega, by omega⟩) ?_
 refine .ag rfl<|.nil ?_
 ·exact loopQ_i (i + 1, s2, T2, l ++ [a, b], v5, T5) ⟨⟨hlt, hl30⟩, hC2, hB2, hI2, hO5, by simp; omega⟩ (by simp only; omega) (EnvLe.k4 rfl rfl rfl rfl) (HLe.pick [7, 7] _)
 refine .gF g18_2<|.gF g18_2<|.gF g18_2<|.gfU rfl ?_
 refine .gfU rfl ?_
 refine .gF g18_2<|.q (.pickFh g18_2) ?_
 refine .zn<|.condF<|.kn<|.sr<|.mo rfl<|.mo rfl<|.mo rfl ?_
 refine .buildSliceN1 [_, _] (fun b107 => ?_)
 refine .append hL (RS.lits (xs := [a, b]) rfl (by simp [encS]) (by simp [encS, oneCell])) (by simp; omega) (fun v5 T5 hO5 => ?_)
 have i5 := hO5.oneCell
 refine .ag rfl<|.z<|.mo rfl<|.fa rfl<|.lo rfl ?_
 refine .callN (oinspect_spec q s2 T2 hC2 x.brief.text _ (fun p hp => .inr (List.mem_flatten.2 ⟨T2, by simp, hp⟩))) (fun u T9 hu => ?_)
 obtain ⟨w9, rfl, ht9⟩ := hu
 have j9 : Ones (encT (w9, (pInspect s2 x.brief.text).getD Tok.zero)) := ⟨ht9.ones⟩
 refine .mo rfl<|.q .extract<|.q .extract ?_
 refine .allocA (fun b12 => ?_)
 refine .storeA rfl rfl<|.ag rfl<|.z<|.mo rfl<|.mo rfl ?_
 refine .split (t := 117) rfl (fun g22_1 => ?_) (fun g22_1 => ?_)
 refine .gT g22_1<|.mo rfl<|.gT g22_1<|.fa rfl<|.gT g22_1<|.lo rfl<|.gT g22_1 ?_
 refine .callR (has_spec v5 (l ++ [a, b]) x.brief.text _ hO5.rx) (fun u hu => ?_)
 subst hu
 refine .gT g22_1<|.q .not<|.q (.pickTh g22_1) ?_
 refine .zn ?_
 refine .cond rfl (fun h7 => ?_) (fun h7 => ?_)
 ·exfalso
  exact absurd (hins (by simpa using g22_1)) (by simpa using h7)
 refine .skip<|blkQ_n<|seqQ_n<|.region<|.mo rfl ?_
 refine .q (.i64 ((i + 1 : Nat) : Int) .add ⟨by omega, by omega, by omega⟩) ?_
 refine .ag rfl<|.nil ?_
 ·exact loopQ_i (i + 1, s2, T2, l ++ [a, b], v5, T5) ⟨⟨hlt, hl30⟩, hC2, hB2, hI2, hO5, by simp; omega⟩ (by simp only; omega) (EnvLe.k4 rfl rfl rfl rfl) (HLe.pick [7, 7] _)
 refine .gF g22_1<|.gF g22_1<|.gF g22_1<|.gF g22_1<|.gF g22_1<|.q (.pickFh g22_1) ?_
 refine .zn<|.condF<|.skip<|blkQ_n<|seqQ_n<|.region<|.mo rfl ?_
 refine .q (.i64 ((i + 1 : Nat) : Int) .add ⟨by omega, by omega, by omega⟩) ?_
 refine .ag rfl<|.nil ?_
 ·exact loopQ_i (i + 1, s2, T2, l ++ [a, b], v5, T5) ⟨⟨hlt, hl30⟩, hC2, hB2, hI2, hO5, by simp; omega⟩ (by simp only; omega) (EnvLe.k4 rfl rfl rfl rfl) (HLe.pick [7, 7] _)
 refine .gT g11_6<|.fa rfl<|.gT g11_6<|.lo rfl<|.gT g11_6<|.q .eqI<|.gT g11_2<|.q (.pickFh g11_6) ?_
 refine .q (.pickTh g11_2) ?_
 refine .mo rfl ?_
 refine .split (t := 57) rfl (fun g11_12 => ?_) (fun g11_12 => ?_)
 refine .gT g11_12<|.mo rfl<|.gT g11_12<|.fa rfl<|.gT g11_12<|.lo rfl<|.gT g11_12 ?_
 refine .callR (has_spec vi l x.brief.text _ hL.rx) (fun u hu => ?_)
 subst hu
 refine .gT g11_12<|.q .not<|.q (.pickTh g11_12) ?_
 refine .zn ?_
 refine .cond rfl (fun h3 => ?_) (fun h3 => ?_)
 ·exfalso
  exact absurd (hop (by simpa using g11_2) (by first | exact .inl (by simpa using g11_6) | exact .inr (by simpa using g11_12))) (by simpa using h3)
 refine .kn<|.seq<|.sr<|.ag rfl<|.zn<|.block ?_
 refine .loop (X := Nat) (fun k => k ≤ ps.length) (fun k => [(0, v), (3, .pointer (some ⟨q, 0, none⟩)), (4, vi), (5, .int .i64 (i : Nat)), (6, .pointer (some ⟨b6, 0, none⟩)), (7, w7), (8, .string a), (9, .string b), (10, .int .i64 e), (11, .int .i64 (k : Nat))]) (fun _ => [To, Tj, [(b6, .cells (encO w' x.brief).toArray 34 (0, 0))], T1, T2, Ti]) (fun k => ps.length - k) 0 (Nat.zero_le _) (EnvLe.k10 rfl rfl rfl rfl rfl rfl rfl rfl rfl rfl) (HLe.refl _) ?_
 intro k hk
 refine .seq<|.sr<|.mo rfl<|.mo rfl<|.q (.lenO hO) ?_
 refine .q .lss<|.zn ?_
 refine .cond rfl (fun h4 => ?_) (fun h4 => ?_)
 have hlt4 : k < ps.length := by have := of_decide_eq_true h4; omega
 obtain ⟨z, hz⟩ : ∃ z, ps[k]? = some z := ⟨_, List.getElem?_eq_getElem hlt4⟩
 obtain ⟨wt, t⟩ := z
 have hzm := List.mem_of_getElem? hz
 have ht := hps _ hzm
 have htV : (t.text, t) ∈ s.V := hperm.mem_iff.1 (List.mem_map.2 ⟨t, List.mem_map.2 ⟨_, hzm, rfl⟩, rfl⟩)
 have hnew := hci.new _ htV (hI.v _ htV).2
 have it1 : Ones (encT (wt, t)) := ⟨ht.ones⟩
 refine .kn<|.seq<|.block<|.sr<|.mo rfl<|.q .neS<|.mo rfl ?_
 refine .split (t := 72) rfl (fun g16_2 => ?_) (fun g16_2 => ?_)
 refine .gT g16_2<|.mo rfl<|.gT g16_2<|.mo rfl<|.gT g16_2 ?_
 refine .indexO k hO hz (fun p75 => ?_)
 refine .gT g16_2<|.fa rfl<|.gT g16_2<|.lo rfl<|.gT g16_2<|.mo rfl<|.gT g16_2<|.q .eqS<|.q (.pickTh g16_2) ?_
 refine .mo rfl ?_
 refine .split (t := 81) rfl (fun g16_11 => ?_) (fun g16_11 => ?_)
 refine .gF g16_11<|.gF g16_11<|.gF g16_11<|.gfU rfl ?_
 refine .gfU rfl ?_
 refine .gfU rfl ?_
 refine .gfU rfl ?_
 refine .gfU rfl ?_
 refine .gfU rfl ?_
 refine .gfU rfl ?_
 refine .gF g16_11<|.q (.pickTh g16_11) ?_
 refine .zn<|.condT ?_
 ·exfalso
  first
   |exact hnew.1 (by simpa using g16_2) (by simpa using g16_11)
   |exact hnew.2 (by simpa using g16_14) (by simpa using h5)
 refine .gT g16_11<|.mo rfl<|.gT g16_11<|.q .neS<|.gT g16_11<|.mo rfl ?_
 refine .split (t := 84) rfl (fun g16_14 => ?_) (fun g16_14 => ?_)
 refine .gT g16_14<|.mo rfl<|.gT g16_14<|.mo rfl<|.gT g16_14 ?_
 refine .indexO k hO hz (fun p87 => ?_)
 refine .gT g16_14<|.fa rfl<|.gT g16_14<|.lo rfl<|.gT g16_14<|.mo rfl<|.gT g16_14<|.q .eqS<|.gT g16_11<|.q (.pickTh g16_14) ?_
 refine .q (.pickFh g16_11) ?_
 refine .zn ?_
 refine .cond rfl (fun h5 => ?_) (fun h5 => ?_)
 ·exfalso
  first
   |exact hnew.1 (by simpa using g16_2) (by simpa using g16_11)
   |exact hnew.2 (by simpa using g16_14) (by simpa using h5)
 refine .skip<|blkQ_n<|seqQ_n<|.region<|.mo rfl ?_
 refine .q (.i64 ((k + 1 : Nat) : Int) .add ⟨by omega, by omega, by omega⟩) ?_
 refine .ag rfl<|.nil ?_
 ·exact loopQ_i (k + 1) hlt4 (by omega) (EnvLe.k10 rfl rfl rfl rfl rfl rfl rfl rfl rfl rfl) (HLe.refl _)
 refine .gF g16_14<|.gF g16_14<|.gF g16_14<|.gF g16_14<|.gF g16_14<|.gF g16_14<|.gF g16_14<|.gT g16_11<|.q (.pickFh g16_14) ?_
 refine .q (.pickFh g16_11) ?_
 refine .zn<|.condF<|.skip<|blkQ_n<|seqQ_n<|.region<|.mo rfl ?_
 refine .q (.i64 ((k + 1 : Nat) : Int) .add ⟨by omega, by omega, by omega⟩) ?_
 refine .ag rfl<|.nil ?_
 ·exact loopQ_i (k + 1) hlt4 (by omega) (EnvLe.k10 rfl rfl rfl rfl rfl rfl rfl rfl rfl rfl) (HLe.refl _)
 refine .gF g16_2<|.gF g16_2<|.gF g16_2<|.gF g16_2<|.gF g16_2<|.gF g16_2<|.gF g16_2<|.q (.pickFh g16_2) ?_
 refine .mo rfl<|.gt rfl ?_
 refine .mo rfl<|.gt rfl ?_
 refine .q .neS<|.gt rfl ?_
 refine .mo rfl ?_
 refine .split (t := 84) rfl (fun g16_14 => ?_) (fun g16_14 => ?_)
 refine .gT g16_14<|.mo rfl<|.gT g16_14<|.mo rfl<|.gT g16_14 ?_
 refine .indexO k hO hz (fun p87 => ?_)
 refine .gT g16_14<|.fa rfl<|.gT g16_14<|.lo rfl<|.gT g16_14<|.mo rfl<|.gT g16_14<|.q .eqS<|.gt rfl ?_
 refine .q (.pickTh g16_14) ?_
 refine .q .pickF<|.zn ?_
 refine .cond rfl (fun h5 => ?_) (fun h5 => ?_)
 ·exfalso
  first
   |exact hnew.1 (by simpa using g16_2) (by simpa using g16_11)
   |exact hnew.2 (by simpa using g16_14) (by simpa using h5)
 refine .skip<|blkQ_n<|seqQ_n<|.region<|.mo rfl ?_
 refine .q (.i64 ((k + 1 : Nat) : Int) .add ⟨by omega, by omega, by omega⟩) ?_
 refine .ag rfl<|.nil ?_
 ·exact loopQ_i (k + 1) hlt4 (by omega) (EnvLe.k10 rfl rfl rfl rfl rfl rfl rfl rfl rfl rfl) (HLe.refl _)
 refine .gF g16_14<|.gF g16_14<|.gF g16_14<|.gF g16_14<|.gF g16_14<|.gF g16_14<|.gF g16_14<|.gt rfl ?_
 refine .q (.pickFh g16_14) ?_
 refine .q .pickF<|.zn<|.condF<|.skip<|blkQ_n<|seqQ_n<|.region<|.mo rfl ?_
 refine .q (.i64 ((k + 1 : Nat) : Int) .add ⟨by omega, by omega, by omega⟩) ?_
 refine .ag rfl<|.nil ?_
 ·exact loopQ_i (k + 1) hlt4 (by omega) (EnvLe.k10 rfl rfl rfl rfl rfl rfl rfl rfl rfl rfl) (HLe.refl _)
 refine .exit<|seqQ_x<|loopQ_x<|blkQ_x<|seqQ_n<|.seq<|.sr<|.mo rfl<|.q .neI<|.mo rfl ?_
 refine .split (t := 96) rfl (fun g18_2 => ?_) (fun g18_2 => ?_)
 obtain ⟨ea, eb⟩ := hci.err (by simpa using g18_2)
 refine .gT g18_2<|.mo rfl<|.gT g18_2<|.q .neS<|.gT g18_2<|.mo rfl ?_
 refine .split (t := 99) rfl (fun g18_5 => ?_) (fun g18_5 => ?_)
 refine .gF g18_5<|.gF g18_5<|.gT g18_2<|.q (.pickTh g18_5) ?_
 refine .q (.pickTh g18_2) ?_
 refine .zn<|.condT ?_
 ·exfalso
  first
   | (rw [ea] at g18_5; simp at g18_5; done)
   | (rw [eb] at h6; simp at h6; done)
 refine .gT g18_5<|.mo rfl<|.gT g18_5<|.q .neS<|.gT g18_2<|.q (.pickFh g18_5) ?_
 refine .q (.pickTh g18_2) ?_
 refine .zn ?_
 refine .cond rfl (fun h6 => ?_) (fun h6 => ?_)
 ·exfalso
  first
   | (rw [ea] at g18_5; simp at g18_5; done)
   | (rw [eb] at h6; simp at h6; done)
 refine .kn<|.sr<|.mo rfl<|.mo rfl<|.mo rfl ?_
 refine .buildSliceN1 [_, _] (fun b107 => ?_)
 refine .append hL (RS.lits (xs := [a, b]) rfl (by simp [encS]) (by simp [encS, oneCell])) (by simp; omega) (fun v5 T5 hO5 => ?_)
 have i5 := hO5.oneCell
 refine .ag rfl<|.z<|.mo rfl<|.fa rfl<|.lo rfl ?_
 refine .callN (oinspect_spec q s2 T2 hC2 x.brief.text _ (fun p hp => .inr (List.mem_flatten.2 ⟨T2, by simp, hp⟩))) (fun u T9 hu => ?_)
 obtain ⟨w9, rfl, ht9⟩ := hu
 have j9 : Ones (encT (w9, (pInspect s2 x.brief.text).getD Tok.zero)) := ⟨ht9.ones⟩
 refine .mo rfl<|.q .extract<|.q .extract ?_
 refine .allocA (fun b12 => ?_)
 refine .storeA rfl rfl<|.ag rfl<|.z<|.mo rfl<|.mo rfl ?_
 refine .split (t := 117) rfl (fun g22_1 => ?_) (fun g22_1 => ?_)
 refine .gT g22_1<|.mo rfl<|.gT g22_1<|.fa rfl<|.gT g22_1<|.lo rfl<|.gT g22_1 ?_
 refine .callR (has_spec v5 (l ++ [a, b]) x.brief.text _ hO5.rx) (fun u hu => ?_)
 subst hu
 refine .gT g22_1<|.q .not<|.q (.pickTh g22_1) ?_
 refine .zn ?_
 refine .cond rfl (fun h7 => ?_) (fun h7 => ?_)
 ·exfalso
  exact absurd (hins (by simpa using g22_1)) (by simpa using h7)
 refine .skip<|blkQ_n<|seqQ_n<|.region<|.mo rfl ?_
 refine .q (.i64 ((i + 1 : Nat) : Int) .add ⟨by omega, by omega, by omega⟩) ?_
 refine .ag rfl<|.nil ?_
 ·exact loopQ_i (i + 1, s2, T2, l ++ [a, b], v5, T5) ⟨⟨hlt, hl30⟩, hC2, hB2, hI2, hO5, by simp; omega⟩ (by simp only; omega) (EnvLe.k4 rfl rfl rfl rfl) (HLe.pick [7, 7] _)
 refine .gF g22_1<|.gF g22_1<|.gF g22_1<|.gF g22_1<|.gF g22_1<|.q (.pickFh g22_1) ?_
 refine .zn<|.condF<|.skip<|blkQ_n<|seqQ_n<|.region<|.mo rfl ?_
 refine .q (.i64 ((i + 1 : Nat) : Int) .add ⟨by omega, by omega, by omega⟩) ?_
 refine .ag rfl<|.nil ?_
 ·exact loopQ_i (i + 1, s2, T2, l ++ [a, b], v5, T5) ⟨⟨hlt, hl30⟩, hC2, hB2, hI2, hO5, by simp; omega⟩ (by simp only; omega) (EnvLe.k4 rfl rfl rfl rfl) (HLe.pick [7, 7] _)
 refine .gF g18_2<|.gF g18_2<|.gF g18_2<|.gfU rfl ?_
 refine .gfU rfl ?_
 refine .gF g18_2<|.q (.pickFh g18_2) ?_
 refine .zn<|.condF<|.kn<|.sr<|.mo rfl<|.mo rfl<|.mo rfl ?_
 refine .buildSliceN1 [_, _] (fun b107 => ?_)
 refine .append hL (RS.lits (xs := [a, b]) rfl (by simp [encS]) (by simp [encS, oneCell])) (by simp; omega) (fun v5 T5 hO5 => ?_)
 have i5 := hO5.oneCell
 refine .ag rfl<|.z<|.mo rfl<|.fa rfl<|.lo rfl ?_
 refine .callN (oinspect_spec q s2 T2 hC2 x.brief.text _ (fun p hp => .inr (List.mem_flatten.2 ⟨T2, by simp, hp⟩))) (fun u T9 hu => ?_)
 obtain ⟨w9, rfl, ht9⟩ := hu
 have j9 : Ones (encT (w9, (pInspect s2 x.brief.text).getD Tok.zero)) := ⟨ht9.ones⟩
 refine .mo rfl<|.q .extract<|.q .extract ?_
 refine .allocA (fun b12 => ?_)
 refine .storeA rfl rfl<|.ag rfl<|.z<|.mo rfl<|.mo rfl ?_
 refine .split (t := 117) rfl (fun g22_1 => ?_) (fun g22_1 => ?_)
 refine .gT g22_1<|.mo rfl<|.gT g22_1<|.fa rfl<|.gT g22_1<|.lo rfl<|.gT g22_1 ?_
 refine .callR (has_spec v5 (l ++ [a, b]) x.brief.text _ hO5.rx) (fun u hu => ?_)
 subst hu
 refine .gT g22_1<|.q .not<|.q (.pickTh g22_1) ?_
 refine .zn ?_
 refine .cond rfl (fun h7 => ?_) (fun h7 => ?_)
 ·exfalso
  exact absurd (hins (by simpa using g22_1)) (by simpa using h7)
 refine .skip<|blkQ_n<|seqQ_n<|.region<|.mo rfl ?_
 refine .q (.i64 ((i + 1 : Nat) : Int) .add ⟨by omega, by omega, by omega⟩) ?_
 refine .ag rfl<|.nil ?_
 ·exact loopQ_i (i + 1, s2, T2, l ++ [a, b], v5, T5) ⟨⟨hlt, hl30⟩, hC2, hB2, hI2, hO5, by simp; omega⟩ (by simp only; omega) (EnvLe.k4 rfl rfl rfl rfl) (HLe.pick [7, 7] _)
 refine .gF g22_1<|.gF g22_1<|.gF g22_1<|.gF g22_1<|.gF g22_1<|.q (.pickFh g22_1) ?_
 refine .zn<|.condF<|.skip<|blkQ_n<|seqQ_n<|.region<|.mo rfl ?_
 refine .q (.i64 ((i + 1 : Nat) : Int) .add ⟨by omega, by omega, by omega⟩) ?_
 refine .ag rfl<|.nil ?_
 ·exact loopQ_i (i + 1, s2, T2, l ++ [a, b], v5, T5) ⟨⟨hlt, hl30⟩, hC2, hB2, hI2, hO5, by simp; omega⟩ (by simp only; omega) (EnvLe.k4 rfl rfl rfl rfl) (HLe.pick [7, 7] _)
 refine .gF g11_12<|.gF g11_12<|.gF g11_12<|.gF g11_12<|.gF g11_12<|.q (.pickFh g11_12) ?_
 refine .zn<|.condF<|.kn<|.seq<|.sr<|.ag rfl<|.zn<|.block ?_
 refine .loop (X := Nat) (fun k => k ≤ ps.length) (fun k => [(0, v), (3, .pointer (some ⟨q, 0, none⟩)), (4, vi), (5, .int .i64 (i : Nat)), (6, .pointer (some ⟨b6, 0, none⟩)), (7, w7), (8, .string a), (9, .string b), (10, .int .i64 e), (11, .int .i64 (k : Nat))]) (fun _ => [To, Tj, [(b6, .cells (encO w' x.brief).toArray 34 (0, 0))], T1, T2, Ti]) (fun k => ps.length - k) 0 (Nat.zero_le _) (EnvLe.k10 rfl rfl rfl rfl rfl rfl rfl rfl rfl rfl) (HLe.refl _) ?_
 intro k hk
 refine .seq<|.sr<|.mo rfl<|.mo rfl<|.q (.lenO hO) ?_
 refine .q .lss<|.zn ?_
 refine .cond rfl (fun h4 => ?_) (fun h4 => ?_)
 have hlt4 : k < ps.length := by have := of_decide_eq_true h4; omega
 obtain ⟨z, hz⟩ : ∃ z, ps[k]? = some z := ⟨_, List.getElem?_eq_getElem hlt4⟩
 obtain ⟨wt, t⟩ := z
 have hzm := List.mem_of_getElem? hz
 have ht := hps _ hzm
 have htV : (t.text, t) ∈ s.V := hperm.mem_iff.1 (List.mem_map.2 ⟨t, List.mem_map.2 ⟨_, hzm, rfl⟩, rfl⟩)
 have hnew := hci.new _ htV (hI.v _ htV).2
 have it1 : Ones (encT (wt, t)) := ⟨ht.ones⟩
 refine .kn<|.seq<|.block<|.sr<|.mo rfl<|.q .neS<|.mo rfl ?_
 refine .split (t := 72) rfl (fun g16_2 => ?_) (fun g16_2 => ?_)
 refine .gT g16_2<|.mo rfl<|.gT g16_2<|.mo rfl<|.gT g16_2 ?_
 refine .indexO k hO hz (fun p75 => ?_)
 refine .gT g16_2<|.fa rfl<|.gT g16_2<|.lo rfl<|.gT g16_2<|.mo rfl<|.gT g16_2<|.q .eqS<|.q (.pickTh g16_2) ?_
 refine .mo rfl ?_
 refine .split (t := 81) rfl (fun g16_11 => ?_) (fun g16_11 => ?_)
 refine .gF g16_11<|.gF g16_11<|.gF g16_11<|.gfU rfl ?_
 refine .gfU rfl ?_
 refine .gfU rfl ?_
 refine .gfU rfl ?_
 refine .gfU rfl ?_
 refine .gfU rfl ?_
 refine .gfU rfl ?_
 refine .gF g16_11<|.q (.pickTh g16_11) ?_
 refine .zn<|.condT ?_
 ·exfalso
  first
   |exact hnew.1 (by simpa using g16_2) (by simpa using g16_11)
   |exact hnew.2 (by simpa using g16_14) (by simpa using h5)
 refine .gT g16_11<|.mo rfl<|.gT g16_11<|.q .neS<|.gT g16_11<|.mo rfl ?_
 refine .split (t := 84) rfl (fun g16_14 => ?_) (fun g16_14 => ?_)
 refine .gT g16_14<|.mo rfl<|.gT g16_14<|.mo rfl<|.gT g16_14 ?_
 refine .indexO k hO hz (fun p87 => ?_)
 refine .gT g16_14<|.fa rfl<|.gT g16_14<|.lo rfl<|.gT g16_14<|.mo rfl<|.gT g16_14<|.q .eqS<|.gT g16_11<|.q (.pickTh g16_14) ?_
 refine .q (.pickFh g16_11) ?_
 refine .zn ?_
 refine .cond rfl (fun h5 => ?_) (fun h5 => ?_)
 ·exfalso
  first
   |exact hnew.1 (by simpa using g16_2) (by simpa using g16_11)
   |exact hnew.2 (by simpa using g16_14) (by simpa using h5)
 refine .skip<|blkQ_n<|seqQ_n<|.region<|.mo rfl ?_
 refine .q (.i64 ((k + 1 : Nat) : Int) .add ⟨by omega, by omega, by omega⟩) ?_
 refine .ag rfl<|.nil ?_
 ·exact loopQ_i (k + 1) hlt4 (by omega) (EnvLe.k10 rfl rfl rfl rfl rfl rfl rfl rfl rfl rfl) (HLe.refl _)
 refine .gF g16_14<|.gF g16_14<|.gF g16_14<|.gF g16_14<|.gF g16_14<|.gF g16_14<|.gF g16_14<|.gT g16_11<|.q (.pickFh g16_14) ?_
 refine .q (.pickFh g16_11) ?_
 refine .zn<|.condF<|.skip<|blkQ_n<|seqQ_n<|.region<|.mo rfl ?_
 refine .q (.i64 ((k + 1 : Nat) : Int) .add ⟨by omega, by omega, by omega⟩) ?_
 refine .ag rfl<|.nil ?_
 ·exact loopQ_i (k + 1) hlt4 (by omega) (EnvLe.k10 rfl rfl rfl rfl rfl rfl rfl rfl rfl rfl) (HLe.refl _)
 refine .gF g16_2<|.gF g16_2<|.gF g16_2<|.gF g16_2<|.gF g16_2<|.gF g16_2<|.gF g16_2<|.q (.pickFh g16_2) ?_
 refine .mo rfl<|.gt rfl ?_
 refine .mo rfl<|.gt rfl ?_
 refine .q .neS<|.gt rfl ?_
 refine .mo rfl ?_
 refine .split (t := 84) rfl (fun g16_14 => ?_) (fun g16_14 => ?_)
 refine .gT g16_14<|.mo rfl<|.gT g16_14<|.mo rfl<|.gT g16_14 ?_
 refine .indexO k hO hz (fun p87 => ?_)
 refine .gT g16_14<|.fa rfl<|.gT g16_14<|.lo rfl<|.gT g16_14<|.mo rfl<|.gT g16_14<|.q .eqS<|.gt rfl ?_
 refine .q (.pickTh g16_14) ?_
 refine .q .pickF<|.zn ?_
 refine .cond rfl (fun h5 => ?_) (fun h5 => ?_)
 ·exfalso
  first
   |exact hnew.1 (by simpa using g16_2) (by simpa using g16_11)
   |exact hnew.2 (by simpa using g16_14) (by simpa using h5)
 refine .skip<|blkQ_n<|seqQ_n<|.region<|.mo rfl ?_
 refine .q (.i64 ((k + 1 : Nat) : Int) .add ⟨by omega, by omega, by omega⟩) ?_
 refine .ag rfl<|.nil ?_
 ·exact loopQ_i (k + 1) hlt4 (by omega) (EnvLe.k10 rfl rfl rfl rfl rfl rfl rfl rfl rfl rfl) (HLe.refl _)
 refine .gF g16_14<|.gF g16_14<|.gF g16_14<|.gF g16_14<|.gF g16_14<|.gF g16_14<|.gF g16_14<|.gt rfl ?_
 refine .q (.pickFh g16_14) ?_
 refine .q .pickF<|.zn<|.condF<|.skip<|blkQ_n<|seqQ_n<|.region<|.mo rfl ?_
 refine .q (.i64 ((k + 1 : Nat) : Int) .add ⟨by omega, by omega, by omega⟩) ?_
 refine .ag rfl<|.nil ?_
 ·exact loopQ_i (k + 1) hlt4 (by omega) (EnvLe.k10 rfl rfl rfl rfl rfl rfl rfl rfl rfl rfl) (HLe.refl _)
 refine .exit<|seqQ_x<|loopQ_x<|blkQ_x<|seqQ_n<|.seq<|.sr<|.mo rfl<|.q .neI<|.mo rfl ?_
 refine .split (t := 96) rfl (fun g18_2 => ?_) (fun g18_2 => ?_)
 obtain ⟨ea, eb⟩ := hci.err (by simpa using g18_2)
 refine .gT g18_2<|.mo rfl<|.gT g18_2<|.q .neS<|.gT g18_2<|.mo rfl ?_
 refine .split (t := 99) rfl (fun g18_5 => ?_) (fun g18_5 => ?_)
 refine .gF g18_5<|.gF g18_5<|.gT g18_2<|.q (.pickTh g18_5) ?_
 refine .q (.pickTh g18_2) ?_
 refine .zn<|.condT ?_
 ·exfalso
  first
   | (rw [ea] at g18_5; simp at g18_5; done)
   | (rw [eb] at h6; simp at h6; done)
 refine .gT g18_5<|.mo rfl<|.gT g18_5<|.q .neS<|.gT g18_2<|.q (.pickFh g18_5) ?_
 refine .q (.pickTh g18_2) ?_
 refine .zn ?_
 refine .cond rfl (fun h6 => ?_) (fun h6 => ?_)
 ·exfalso
  first
   | (rw [ea] at g18_5; simp at g18_5; done)
   | (rw [eb] at h6; simp at h6; done)
 refine .kn<|.sr<|.mo rfl<|.mo rfl<|.mo rfl ?_
 refine .buildSliceN1 [_, _] (fun b107 => ?_)
 refine .append hL (RS.lits (xs := [a, b]) rfl (by simp [encS]) (by simp [encS, oneCell])) (by simp; omega) (fun v5 T5 hO5 => ?_)
 have i5 := hO5.oneCell
 refine .ag rfl<|.z<|.mo rfl<|.fa rfl<|.lo rfl ?_
 refine .callN (oinspect_spec q s2 T2 hC2 x.brief.text _ (fun p hp => .inr (List.mem_flatten.2 ⟨T2, by simp, hp⟩))) (fun u T9 hu => ?_)
 obtain ⟨w9, rfl, ht9⟩ := hu
 have j9 : Ones (encT (w9, (pInspect s2 x.brief.text).getD Tok.zero)) := ⟨ht9.ones⟩
 refine .mo rfl<|.q .extract<|.q .extract ?_
 refine .allocA (fun b12 => ?_)
 refine .storeA rfl rfl<|.ag rfl<|.z<|.mo rfl<|.mo rfl ?_
 refine .split (t := 117) rfl (fun g22_1 => ?_) (fun g22_1 => ?_)
 refine .gT g22_1<|.mo rfl<|.gT g22_1<|.fa rfl<|.gT g22_1<|.lo rfl<|.gT g22_1 ?_
 refine .callR (has_spec v5 (l ++ [a, b]) x.brief.text _ hO5.rx) (fun u hu => ?_)
 subst hu
 refine .gT g22_1<|.q .not<|.q (.pickTh g22_1) ?_
 refine .zn ?_
 refine .cond rfl (fun h7 => ?_) (fun h7 => ?_)
 ·exfalso
  exact absurd (hins (by simpa using g22_1)) (by simpa using h7)
 refine .skip<|blkQ_n<|seqQ_n<|.region<|.mo rfl ?_
 refine .q (.i64 ((i + 1 : Nat) : Int) .add ⟨by omega, by omega, by omega⟩) ?_
 refine .ag rfl<|.nil ?_
 ·exact loopQ_i (i + 1, s2, T2, l ++ [a, b], v5, T5) ⟨⟨hlt, hl30⟩, hC2, hB2, hI2, hO5, by simp; omega⟩ (by simp only; omega) (EnvLe.k4 rfl rfl rfl rfl) (HLe.pick [7, 7] _)
 refine .gF g22_1<|.gF g22_1<|.gF g22_1<|.gF g22_1<|.gF g22_1<|.q (.pickFh g22_1) ?_
 refine .zn<|.condF<|.skip<|blkQ_n<|seqQ_n<|.region<|.mo rfl ?_
 refine .q (.i64 ((i + 1 : Nat) : Int) .add ⟨by omega, by omega, by omega⟩) ?_
 refine .ag rfl<|.nil ?_
 ·exact loopQ_i (i + 1, s2, T2, l ++ [a, b], v5, T5) ⟨⟨hlt, hl30⟩, hC2, hB2, hI2, hO5, by simp; omega⟩ (by simp only; omega) (EnvLe.k4 rfl rfl rfl rfl) (HLe.pick [7, 7] _)
 refine .gF g18_2<|.gF g18_2<|.gF g18_2<|.gfU rfl ?_
 refine .gfU rfl ?_
 refine .gF g18_2<|.q (.pickFh g18_2) ?_
 refine .zn<|.condF<|.kn<|.sr<|.mo rfl<|.mo rfl<|.mo rfl ?_
 refine .buildSliceN1 [_, _] (fun b107 => ?_)
 refine .append hL (RS.lits (xs := [a, b]) rfl (by simp [encS]) (by simp [encS, oneCell])) (by simp; omega) (fun v5 T5 hO5 => ?_)
 have i5 := hO5.oneCell
 refine .ag rfl<|.z<|.mo rfl<|.fa rfl<|.lo rfl ?_
 refine .callN (oinspect_spec q s2 T2 hC2 x.brief.text _ (fun p hp => .inr (List.mem_flatten.2 ⟨T2, by simp, hp⟩))) (fun u T9 hu => ?_)
 obtain ⟨w9, rfl, ht9⟩ := hu
 have j9 : Ones (encT (w9, (pInspect s2 x.brief.text).getD Tok.zero)) := ⟨ht9.ones⟩
 refine .mo rfl<|.q .extract<|.q .extract ?_
 refine .allocA (fun b12 => ?_)
 refine .storeA rfl rfl<|.ag rfl<|.z<|.mo rfl<|.mo rfl ?_
 refine .split (t := 117) rfl (fun g22_1 => ?_) (fun g22_1 => ?_)
 refine .gT g22_1<|.mo rfl<|.gT g22_1<|.fa rfl<|.gT g22_1<|.lo rfl<|.gT g22_1 ?_
 refine .callR (has_spec v5 (l ++ [a, b]) x.brief.text _ hO5.rx) (fun u hu => ?_)
 subst hu
 refine .gT g22_1<|.q .not<|.q (.pickTh g22_1) ?_
 refine .zn ?_
 refine .cond rfl (fun h7 => ?_) (fun h7 => ?_)
 ·exfalso
  exact absurd (hins (by simpa using g22_1)) (by simpa using h7)
 refine .skip<|blkQ_n<|seqQ_n<|.region<|.mo rfl ?_
 refine .q (.i64 ((i + 1 : Nat) : Int) .add ⟨by omega, by omega, by omega⟩) ?_
 refine .ag rfl<|.nil ?_
 ·exact loopQ_i (i + 1, s2, T2, l ++ [a, b], v5, T5) ⟨⟨hlt, hl30⟩, hC2, hB2, hI2, hO5, by simp; omega⟩ (by simp only; omega) (EnvLe.k4 rfl rfl rfl rfl) (HLe.pick [7, 7] _)
 refine .gF g22_1<|.gF g22_1<|.gF g22_1<|.gF g22_1<|.gF g22_1<|.q (.pickFh g22_1) ?_
 refine .zn<|.condF<|.skip<|blkQ_n<|seqQ_n<|.region<|.mo rfl ?_
 refine .q (.i64 ((i + 1 : Nat) : Int) .add ⟨by omega, by omega, by omega⟩) ?_
 refine .ag rfl<|.nil ?_
 ·exact loopQ_i (i + 1, s2, T2, l ++ [a, b], v5, T5) ⟨⟨hlt, hl30⟩, hC2, hB2, hI2, hO5, by simp; omega⟩ (by simp only; omega) (EnvLe.k4 rfl rfl rfl rfl) (HLe.pick [7, 7] _)
 refine .gF g11_2<|.gF g11_2<|.gF g11_2<|.gF g11_2<|.gfU rfl ?_
 refine .gfU rfl ?_
 refine .gfU rfl ?_
 refine .gF g11_2<|.q (.pickFh g11_2) ?_
 refine .mo rfl<|.gf rfl rfl<|.gf rfl rfl<|.gf rfl rfl<|.gf rfl rfl<|.gf rfl rfl<|.q .pickF<|.zn<|.condF<|.kn<|.seq<|.sr<|.ag rfl<|.zn<|.block ?_
 refine .loop (X := Nat) (fun k => k ≤ ps.length) (fun k => [(0, v), (3, .pointer (some ⟨q, 0, none⟩)), (4, vi), (5, .int .i64 (i : Nat)), (6, .pointer (some ⟨b6, 0, none⟩)), (7, w7), (8, .string a), (9, .string b), (10, .int .i64 e), (11, .int .i64 (k : Nat))]) (fun _ => [To, Tj, [(b6, .cells (encO w' x.brief).toArray 34 (0, 0))], T1, T2, Ti]) (fun k => ps.length - k) 0 (Nat.zero_le _) (EnvLe.k10 rfl rfl rfl rfl rfl rfl rfl rfl rfl rfl) (HLe.refl _) ?_
 intro k hk
 refine .seq<|.sr<|.mo rfl<|.mo rfl<|.q (.lenO hO) ?_
 refine .q .lss<|.zn ?_
 refine .cond rfl (fun h4 => ?_) (fun h4 => ?_)
 have hlt4 : k < ps.length := by have := of_decide_eq_true h4; omega
 obtain ⟨z, hz⟩ : ∃ z, ps[k]? = some z := ⟨_, List.getElem?_eq_getElem hlt4⟩
 obtain ⟨wt, t⟩ := z
 have hzm := List.mem_of_getElem? hz
 have ht := hps _ hzm
 have htV : (t.text, t) ∈ s.V := hperm.mem_iff.1 (List.mem_map.2 ⟨t, List.mem_map.2 ⟨_, hzm, rfl⟩, rfl⟩)
 have hnew := hci.new _ htV (hI.v _ htV).2
 have it1 : Ones (encT (wt, t)) := ⟨ht.ones⟩
 refine .kn<|.seq<|.block<|.sr<|.mo rfl<|.q .neS<|.mo rfl ?_
 refine .split (t := 72) rfl (fun g16_2 => ?_) (fun g16_2 => ?_)
 refine .gT g16_2<|.mo rfl<|.gT g16_2<|.mo rfl<|.gT g16_2 ?_
 refine .indexO k hO hz (fun p75 => ?_)
 refine .gT g16_2<|.fa rfl<|.gT g16_2<|.lo rfl<|.gT g16_2<|.mo rfl<|.gT g16_2<|.q .eqS<|.q (.pickTh g16_2) ?_
 refine .mo rfl ?_
 refine .split (t := 81) rfl (fun g16_11 => ?_) (fun g16_11 => ?_)
 refine .gF g16_11<|.gF g16_11<|.gF g16_11<|.gfU rfl ?_
 refine .gfU rfl ?_
 refine .gfU rfl ?_
 refine .gfU rfl ?_
 refine .gfU rfl ?_
 refine .gfU rfl ?_
 refine .gfU rfl ?_
 refine .gF g16_11<|.q (.pickTh g16_11) ?_
 refine .zn<|.condT ?_
 ·exfalso
  first
   |exact hnew.1 (by simpa using g16_2) (by simpa using g16_11)
   |exact hnew.2 (by simpa using g16_14) (by simpa using h5)
 refine .gT g16_11<|.mo rfl<|.gT g16_11<|.q .neS<|.gT g16_11<|.mo rfl ?_
 refine .split (t := 84) rfl (fun g16_14 => ?_) (fun g16_14 => ?_)
 refine .gT g16_14<|.mo rfl<|.gT g16_14<|.mo rfl<|.gT g16_14 ?_
 refine .indexO k hO hz (fun p87 => ?_)
 refine .gT g16_14<|.fa rfl<|.gT g16_14<|.lo rfl<|.gT g16_14<|.mo rfl<|.gT g16_14<|.q .eqS<|.gT g16_11<|.q (.pickTh g16_14) ?_
 refine .q (.pickFh g16_11) ?_
 refine .zn ?_
 refine .cond rfl (fun h5 => ?_) (fun h5 => ?_)
 ·exfalso
  first
   |exact hnew.1 (by simpa using g16_2) (by simpa using g16_11)
   |exact hnew.2 (by simpa using g16_14) (by simpa using h5)
 refine .skip<|blkQ_n<|seqQ_n<|.region<|.mo rfl ?_
 refine .q (.i64 ((k + 1 : Nat) : Int) .add ⟨by omega, by omega, by omega⟩) ?_
 refine .ag rfl<|.nil ?_
 ·exact loopQ_i (k + 1) hlt4 (by omega) (EnvLe.k10 rfl rfl rfl rfl rfl rfl rfl rfl rfl rfl) (HLe.refl _)
 refine .gF g16_14<|.gF g16_14<|.gF g16_14<|.gF g16_14<|.gF g16_14<|.gF g16_14<|.gF g16_14<|.gT g16_11<|.q (.pickFh g16_14) ?_
 refine .q (.pickFh g16_11) ?_
 refine .zn<|.condF<|.skip<|blkQ_n<|seqQ_n<|.region<|.mo rfl ?_
 refine .q (.i64 ((k + 1 : Nat) : Int) .add ⟨by omega, by omega, by omega⟩) ?_
 refine .ag rfl<|.nil ?_
 ·exact loopQ_i (k + 1) hlt4 (by omega) (EnvLe.k10 rfl rfl rfl rfl rfl rfl rfl rfl rfl rfl) (HLe.refl _)
 refine .gF g16_2<|.gF g16_2<|.gF g16_2<|.gF g16_2<|.gF g16_2<|.gF g16_2<|.gF g16_2<|.q (.pickFh g16_2) ?_
 refine .mo rfl<|.gt rfl ?_
 refine .mo rfl<|.gt rfl ?_
 refine .q .neS<|.gt rfl ?_
 refine .mo rfl ?_
 refine .split (t := 84) rfl (fun g16_14 => ?_) (fun g16_14 => ?_)
 refine .gT g16_14<|.mo rfl<|.gT g16_14<|.mo rfl<|.gT g16_14 ?_
 refine .indexO k hO hz (fun p87 => ?_)
 refine .gT g16_14<|.fa rfl<|.gT g16_14<|.lo rfl<|.gT g16_14<|.mo rfl<|.gT g16_14<|.q .eqS<|.gt rfl ?_
 refine .q (.pickTh g16_14) ?_
 refine .q .pickF<|.zn ?_
 refine .cond rfl (fun h5 => ?_) (fun h5 => ?_)
 ·exfalso
  first
   |exact hnew.1 (by simpa using g16_2) (by simpa using g16_11)
   |exact hnew.2 (by simpa using g16_14) (by simpa using h5)
 refine .skip<|blkQ_n<|seqQ_n<|.region<|.mo rfl ?_
 refine .q (.i64 ((k + 1 : Nat) : Int) .add ⟨by omega, by omega, by omega⟩) ?_
 refine .ag rfl<|.nil ?_
 ·exact loopQ_i (k + 1) hlt4 (by omega) (EnvLe.k10 rfl rfl rfl rfl rfl rfl rfl rfl rfl rfl) (HLe.refl _)
 refine .gF g16_14<|.gF g16_14<|.gF g16_14<|.gF g16_14<|.gF g16_14<|.gF g16_14<|.gF g16_14<|.gt rfl ?_
 refine .q (.pickFh g16_14) ?_
 refine .q .pickF<|.zn<|.condF<|.skip<|blkQ_n<|seqQ_n<|.region<|.mo rfl ?_
 refine .q (.i64 ((k + 1 : Nat) : Int) .add ⟨by omega, by omega, by omega⟩) ?_
 refine .ag rfl<|.nil ?_
 ·exact loopQ_i (k + 1) hlt4 (by omega) (EnvLe.k10 rfl rfl rfl rfl rfl rfl rfl rfl rfl rfl) (HLe.refl _)
 refine .exit<|seqQ_x<|loopQ_x<|blkQ_x<|seqQ_n<|.seq<|.sr<|.mo rfl<|.q .neI<|.mo rfl ?_
 refine .split (t := 96) rfl (fun g18_2 => ?_) (fun g18_2 => ?_)
 obtain ⟨ea, eb⟩ := hci.err (by simpa using g18_2)
 refine .gT g18_2<|.mo rfl<|.gT g18_2<|.q .neS<|.gT g18_2<|.mo rfl ?_
 refine .split (t := 99) rfl (fun g18_5 => ?_) (fun g18_5 => ?_)
 refine .gF g18_5<|.gF g18_5<|.gT g18_2<|.q (.pickTh g18_5) ?_
 refine .q (.pickTh g18_2) ?_
 refine .zn<|.condT ?_
 ·exfalso
  first
   | (rw [ea] at g18_5; simp at g18_5; done)
   | (rw [eb] at h6; simp at h6; done)
 refine .gT g18_5<|.mo rfl<|.gT g18_5<|.q .neS<|.gT g18_2<|.q (.pickFh g18_5) ?_
 refine .q (.pickTh g18_2) ?_
 refine .zn ?_
 refine .cond rfl (fun h6 => ?_) (fun h6 => ?_)
 ·exfalso
  first
   | (rw [ea] at g18_5; simp at g18_5; done)
   | (rw [eb] at h6; simp at h6; done)
 refine .kn<|.sr<|.mo rfl<|.mo rfl<|.mo rfl ?_
 refine .buildSliceN1 [_, _] (fun b107 => ?_)
 refine .append hL (RS.lits (xs := [a, b]) rfl (by simp [encS]) (by simp [encS, oneCell])) (by simp; omega) (fun v5 T5 hO5 => ?_)
 have i5 := hO5.oneCell
 refine .ag rfl<|.z<|.mo rfl<|.fa rfl<|.lo rfl ?_
 refine .callN (oinspect_spec q s2 T2 hC2 x.brief.text _ (fun p hp => .inr (List.mem_flatten.2 ⟨T2, by simp, hp⟩))) (fun u T9 hu => ?_)
 obtain ⟨w9, rfl, ht9⟩ := hu
 have j9 : Ones (encT (w9, (pInspect s2 x.brief.text).getD Tok.zero)) := ⟨ht9.ones⟩
 refine .mo rfl<|.q .extract<|.q .extract ?_
 refine .allocA (fun b12 => ?_)
 refine .storeA rfl rfl<|.ag rfl<|.z<|.mo rfl<|.mo rfl ?_
 refine .split (t := 117) rfl (fun g22_1 => ?_) (fun g22_1 => ?_)
 refine .gT g22_1<|.mo rfl<|.gT g22_1<|.fa rfl<|.gT g22_1<|.lo rfl<|.gT g22_1 ?_
 refine .callR (has_spec v5 (l ++ [a, b]) x.brief.text _ hO5.rx) (fun u hu => ?_)
 subst hu
 refine .gT g22_1<|.q .not<|.q (.pickTh g22_1) ?_
 refine .zn ?_
 refine .cond rfl (fun h7 => ?_) (fun h7 => ?_)
 ·exfalso
  exact absurd (hins (by simpa using g22_1)) (by simpa using h7)
 refine .skip<|blkQ_n<|seqQ_n<|.region<|.mo rfl ?_
 refine .q (.i64 ((i + 1 : Nat) : Int) .add ⟨by omega, by omega, by omega⟩) ?_
 refine .ag rfl<|.nil ?_
 ·exact loopQ_i (i + 1, s2, T2, l ++ [a, b], v5, T5) ⟨⟨hlt, hl30⟩, hC2, hB2, hI2, hO5, by simp; omega⟩ (by simp only; omega) (EnvLe.k4 rfl rfl rfl rfl) (HLe.pick [7, 7] _)
 refine .gF g22_1<|.gF g22_1<|.gF g22_1<|.gF g22_1<|.gF g22_1<|.q (.pickFh g22_1) ?_
 refine .zn<|.condF<|.skip<|blkQ_n<|seqQ_n<|.region<|.mo rfl ?_
 refine .q (.i64 ((i + 1 : Nat) : Int) .add ⟨by omega, by omega, by omega⟩) ?_
 refine .ag rfl<|.nil ?_
 ·exact loopQ_i (i + 1, s2, T2, l ++ [a, b], v5, T5) ⟨⟨hlt, hl30⟩, hC2, hB2, hI2, hO5, by simp; omega⟩ (by simp only; omega) (EnvLe.k4 rfl rfl rfl rfl) (HLe.pick [7, 7] _)
 refine .gF g18_2<|.gF g18_2<|.gF g18_2<|.gfU rfl ?_
 refine .gfU rfl ?_
 refine .gF g18_2<|.q (.pickFh g18_2) ?_
 refine .zn<|.condF<|.kn<|.sr<|.mo rfl<|.mo rfl<|.mo rfl ?_
 refine .buildSliceN1 [_, _] (fun b107 => ?_)
 refine .append hL (RS.lits (xs := [a, b]) rfl (by simp [encS]) (by simp [encS, oneCell])) (by simp; omega) (fun v5 T5 hO5 => ?_)
 have i5 := hO5.oneCell
 refine .ag rfl<|.z<|.mo rfl<|.fa rfl<|.lo rfl ?_
 refine .callN (oinspect_spec q s2 T2 hC2 x.brief.text _ (fun p hp => .inr (List.mem_flatten.2 ⟨T2, by simp, hp⟩))) (fun u T9 hu => ?_)
 obtain ⟨w9, rfl, ht9⟩ := hu
 have j9 : Ones (encT (w9, (pInspect s2 x.brief.text).getD Tok.zero)) := ⟨ht9.ones⟩
 refine .mo rfl<|.q .extract<|.q .extract ?_
 refine .allocA (fun b12 => ?_)
 refine .storeA rfl rfl<|.ag rfl<|.z<|.mo rfl<|.mo rfl ?_
 refine .split (t := 117) rfl (fun g22_1 => ?_) (fun g22_1 => ?_)
 refine .gT g22_1<|.mo rfl<|.gT g22_1<|.fa rfl<|.gT g22_1<|.lo rfl<|.gT g22_1 ?_
 refine .callR (has_spec v5 (l ++ [a, b]) x.brief.text _ hO5.rx) (fun u hu => ?_)
 subst hu
 refine .gT g22_1<|.q .not<|.q (.pickTh g22_1) ?_
 refine .zn ?_
 refine .cond rfl (fun h7 => ?_) (fun h7 => ?_)
 ·exfalso
  exact absurd (hins (by simpa using g22_1)) (by simpa using h7)
 refine .skip<|blkQ_n<|seqQ_n<|.region<|.mo rfl ?_
 refine .q (.i64 ((i + 1 : Nat) : Int) .add ⟨by omega, by omega, by omega⟩) ?_
 refine .ag rfl<|.nil ?_
 ·exact loopQ_i (i + 1, s2, T2, l ++ [a, b], v5, T5) ⟨⟨hlt, hl30⟩, hC2, hB2, hI2, hO5, by simp; omega⟩ (by simp only; omega) (EnvLe.k4 rfl rfl rfl rfl) (HLe.pick [7, 7] _)
 refine .gF g22_1<|.gF g22_1<|.gF g22_1<|.gF g22_1<|.gF g22_1<|.q (.pickFh g22_1) ?_
 refine .zn<|.condF<|.skip<|blkQ_n<|seqQ_n<|.region<|.mo rfl ?_
 refine .q (.i64 ((i + 1 : Nat) : Int) .add ⟨by omega, by omega, by omega⟩) ?_
 refine .ag rfl<|.nil ?_
 ·exact loopQ_i (i + 1, s2, T2, l ++ [a, b], v5, T5) ⟨⟨hlt, hl30⟩, hC2, hB2, hI2, hO5, by simp; omega⟩ (by simp only; omega) (EnvLe.k4 rfl rfl rfl rfl) (HLe.pick [7, 7] _)
 refine .exit<|seqQ_x<|loopQ_x<|blkQ_x<|seqQ_n<|.sr ?_
 refine .callR (olives_spec _) (fun u hu => ?_)
 subst hu
 refine .ag rfl<|.zn ?_
 refine .ret (retQ_r _ (.one (.tmp rfl)) (.none _) ?_)
 ·exact ⟨rfl, rfl⟩
 refine .gF g6_4<|.gF g6_4<|.q (.pickFh g6_4) ?_
 refine .zn<|.condF<|.exit<|seqQ_x<|loopQ_x<|blkQ_x<|seqQ_n<|.sr ?_
 refine .callR (olives_spec _) (fun u hu => ?_)
 subst hu
 refine .ag rfl<|.zn ?_
 refine .ret (retQ_r _ (.one (.tmp rfl)) (.none _) ?_)
 ·exact ⟨rfl, rfl⟩
end Go.Proofs.YtkagfkbkpiebjaaGreatDoor
