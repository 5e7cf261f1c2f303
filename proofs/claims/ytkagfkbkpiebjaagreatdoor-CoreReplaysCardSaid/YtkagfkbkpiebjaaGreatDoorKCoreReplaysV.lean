/- What the law 'CoreReplays' uses of this prover's engine, facts and walks. No condition. -/
import Derived.Test.YtkagfkbkpiebjaaGreatDoorKCoreReplaysD
import Derived.Test.YtkagfkbkpiebjaaGreatDoorKCoreReplaysR
import Derived.Test.YtkagfkbkpiebjaaGreatDoorKCoreReplaysU
set_option linter.unusedVariables false
set_option maxRecDepth 4000
namespace Go.Proofs.YtkagfkbkpiebjaaGreatDoor
theorem pTick_spec (q : Nat) (s : OSt) (T : Seg) (h : CIs q s T) (h0 : 0 ≤ s.now) (h1 : s.now ≤ 1125899906842624) (n : Int) (R : Rds) :
  Spec Tryz.prog 35 [.pointer (some ⟨q, 0, none⟩), .int .i64 n] R [T] fun v H' => ∃ T', H' = [T'] ∧ v = .int .i64 (pTick s n).1 ∧ CIs q (pTick s n).2 T' :=
 (otick_spec q s.cs s.C s.A s.V s.last s.now T h h0 h1 n R).mono fun v H' ⟨T', e1, e2, e3, e4⟩ => by
  refine ⟨T', e1, ?_⟩
  unfold pTick
  by_cases e : otickE n s.now = 0
  ·rw [if_neg (by simp [e])]
   exact ⟨by rw [e2, e], (e4 e).2⟩
  ·rw [if_pos e]
   exact ⟨e2, e3 e⟩
theorem pConsent_spec (q : Nat) (s : OSt) (T : Seg) (h : CIs q s T) (user id : ByteArray) (hu : user.size ≤ 9223372036854775807) (vs : Value) (scopes : List ByteArray) (R : Rds) (hs : RS R 1 encS vs scopes) (hsl : scopes.length ≤ 100000) (hb : ∀ p ∈ s.C, p.2.length ≤ 1000000) :
  Spec Tryz.prog 38 [.pointer (some ⟨q, 0, none⟩), .string user, .string id, vs] R [T] fun v H' => ∃ T', H' = [T'] ∧ v = .int .i64 (pConsent s user id scopes).1 ∧ CIs q (pConsent s user id scopes).2 T' :=
 (oconsent_spec q s.cs s.C s.A s.V s.last s.now T h user id hu vs scopes R hs hsl hb).mono fun v H' ⟨T', e1, e2, C', e3, e4, e5⟩ => by
  refine ⟨T', e1, ?_⟩
  unfold pConsent
  by_cases e : oconE s.cs user id scopes = 0
  ·rw [if_neg (by simp [e])]
   obtain ⟨l, hl1, hl2, hl3, hl4⟩ := e4 e
   have hl : l = uni (scopesOf s.C user id) scopes := uni_of hl1 hl2
   have hne : l ≠ [] := fun e9 => by
    obtain ⟨_, _, h9⟩ := oconE_zero e
    have h10 : 0 < scopes.length := by unfold casks at h9; simp only [Bool.and_eq_true, decide_eq_true_eq] at h9; exact h9.2.1
    obtain ⟨x, hx⟩ := List.exists_mem_of_length_pos h10
    have := (hl2 x).2 (.inr hx)
    rw [e9] at this; cases this
   rw [if_neg hne, hl] at hl4
   subst hl4
   exact ⟨by rw [e2, e], e5⟩
  ·rw [if_pos e]
   rw [e3 e] at e5
   exact ⟨e2, e5⟩
theorem short_le (s : ByteArray) (n : Nat) : (short s n).size ≤ n := by
 unfold short
 split
 ·simp; omega
 ·omega
theorem pDo0 {s : OSt} {x : OC} (h : x.kind = 0) : pDo s x = (e0, e0, pTick s x.n) := by
 unfold pDo
 rw [if_pos h]
theorem pDo1 {s : OSt} {x : OC} (h : x.kind = 1) : pDo s x = (e0, e0, pAdd s x.cl) := by
 unfold pDo
 rw [if_neg (by omega), if_pos h]
theorem pDo2 {s : OSt} {x : OC} (h : x.kind = 2) : pDo s x = (e0, e0, pRemove s x.id) := by
 unfold pDo
 rw [if_neg (by omega), if_neg (by omega), if_pos h]
theorem pDo3 {s : OSt} {x : OC} (h : x.kind = 3) : pDo s x = (e0, e0, pConsent s x.user x.id x.scopes) := by
 unfold pDo
 rw [if_neg (by omega), if_neg (by omega), if_neg (by omega), if_pos h]
theorem pDo4 {s : OSt} {x : OC} (h : x.kind = 4) : pDo s x = (e0, e0, pWithdraw s x.user x.id) := by
 unfold pDo
 rw [if_neg (by omega), if_neg (by omega), if_neg (by omega), if_neg (by omega), if_pos h]
theorem pDo5 {s : OSt} {x : OC} (h : x.kind = 5) : pDo s x = ((pAuth s x.user x.id x.uri x.scopes x.word x.a).1, e0, (pAuth s x.user x.id x.uri x.scopes x.word x.a).2) := by
 unfold pDo
 rw [if_neg (by omega), if_neg (by omega), if_neg (by omega), if_neg (by omega), if_neg (by omega), if_pos h]
theorem pDo6 {s : OSt} {x : OC} (h : x.kind = 6) : pDo s x = pExch s x.id x.secret x.text x.uri x.word x.a x.r x.rev := by
 unfold pDo
 rw [if_neg (by omega), if_neg (by omega), if_neg (by omega), if_neg (by omega), if_neg (by omega), if_neg (by omega), if_pos h]
theorem pDo7 {s : OSt} {x : OC} (h : x.kind = 7) : pDo s x = pRefr s x.id x.secret x.text x.scopes x.a x.r x.rev := by
 unfold pDo
 rw [if_neg (by omega), if_neg (by omega), if_neg (by omega), if_neg (by omega), if_neg (by omega), if_neg (by omega), if_neg (by omega), if_pos h]
theorem pDo8 {s : OSt} {x : OC} (h : x.kind = 8) : pDo s x = (e0, e0, pRevoke s x.id x.secret x.text) := by
 unfold pDo
 rw [if_neg (by omega), if_neg (by omega), if_neg (by omega), if_neg (by omega), if_neg (by omega), if_neg (by omega), if_neg (by omega), if_neg (by omega), if_pos h]
theorem pDo9 {s : OSt} {x : OC} (h : x.kind < 0 ∨ 8 < x.kind) : pDo s x = (e0, e0, 0, s) := by
 unfold pDo
 rw [if_neg (by omega), if_neg (by omega), if_neg (by omega), if_neg (by omega), if_neg (by omega), if_neg (by omega), if_neg (by omega), if_neg (by omega), if_neg (by omega)]
theorem odo_spec (q : Nat) (s : OSt) (T : Seg) (h : CIs q s T) (k : Nat) (hb : OB s k) (hk : k ≤ 1000) (w : OV) (x : OC) (R : Rds) (hx : OR R w x) (hg : PC R (.pointer (some ⟨1, 0, none⟩)) (wv ks)) :
  Spec Tryz.prog 10 [.pointer (some ⟨q, 0, none⟩), .agg (encO w x).toArray] R [T] fun v H' => ∃ T', H' = [T'] ∧ v = .tuple [.string (pDo s x.brief).1, .string (pDo s x.brief).2.1, .int .i64 (pDo s x.brief).2.2.1].toArray ∧ CIs q (pDo s x.brief).2.2.2 T' := by
 have i1 : Ones (encO w x) := ⟨hx.ones⟩
 have hbC : ∀ p ∈ s.C, p.2.length ≤ 1000000 := fun p hp => by have := hb.cl p hp; omega
 have z1 : x.brief.user.size ≤ 40 := short_le _ _
 have z2 : x.brief.word.size ≤ 140 := short_le _ _
 have z3 : x.brief.scopes.length ≤ 6 := by show (texts x.scopes 6 40).length ≤ 6; simp [texts]; omega
 have z4 : x.brief.a.length ≤ 30 := by show (x.a.take 30).length ≤ 30; simp; omega
 have z5 : x.brief.r.length ≤ 30 := by show (x.r.take 30).length ≤ 30; simp; omega
 refine Spec.body Tryz.func10 rfl Tryz.results10 Tryz.ntmps10 rfl ?_
 refine .sr ?_
 refine .boxA rfl (fun b3 => ?_)
 refine .ag rfl<|.ag rfl<|.ag rfl<|.z<|.q (.loadA rfl) ?_
 refine .callN (oshort_spec w x _ (hx.mono fun b o hb => .inl hb)) (fun u T1 hu => ?_)
 obtain ⟨w', rfl, hc1⟩ := hu
 have i3 : Ones (encO w' x.brief) := ⟨hc1.ones⟩
 have hin : ∀ (R' : Rds) (H' : Segs), T1 ∈ H' → ∀ b o, sg T1 b o → Rx R' H' b o := fun R' H' hm b o hb => .inr (List.mem_flatten.2 ⟨_, hm, hb⟩)
 refine .storeA rfl rfl<|.zs<|.sr<|.fa rfl<|.lo rfl<|.zn<|.block<|.sr<|.q .eqI<|.ag rfl<|.zn ?_
 refine .cond rfl (fun h1 => ?_) (fun h1 => ?_)
 refine .sr<|.mo rfl<|.fa rfl<|.lo rfl ?_
 refine .callM (pTick_spec q s T h hb.n0 hb.n1 x.brief.n R) (fun v T2 hv => ?_)
 obtain ⟨rfl, hv⟩ := hv
 refine .ag rfl<|.ag rfl<|.ag rfl<|.zn ?_
 refine .ret (blkQ_r (seqQ_r (retQ_r _ (.three (.tmp rfl) (.tmp rfl) (.tmp rfl)) (.one [2] _) ?_)))
 ·rw [pDo0 (x := x.brief) (by have h9 := h1; simp only [beq_iff_eq] at h9; exact h9)]
  exact ⟨_, rfl, rfl, by simpa [take, dropAt] using hv⟩
 refine .sr<|.q .eqI<|.ag rfl<|.zn ?_
 refine .cond rfl (fun h2 => ?_) (fun h2 => ?_)
 refine .sr<|.mo rfl<|.fa rfl<|.q (.loadT rfl) ?_
 refine .callW (oadd_spec q s.cs s.C s.A s.V s.last s.now T h w'.cr x.brief.cl _ (hc1.1.mono (hin _ _ (by simp))) (Cli.short_fits x.cl) (Cli.short_few x.cl)) (fun v T2 hv => ?_)
 obtain ⟨rfl, hv⟩ := hv
 have hv : CIs q (pAdd s x.brief.cl).2 T2 := hv
 refine .ag rfl<|.ag rfl<|.ag rfl<|.zn ?_
 refine .ret (blkQ_r (seqQ_r (retQ_r _ (.three (.tmp rfl) (.tmp rfl) (.tmp rfl)) (.one [2] _) ?_)))
 ·rw [pDo1 (x := x.brief) (by have h9 := h2; simp only [beq_iff_eq] at h9; exact h9)]
  exact ⟨_, rfl, rfl, by simpa [take, dropAt] using hv⟩
 refine .sr<|.q .eqI<|.ag rfl<|.zn ?_
 refine .cond rfl (fun h3 => ?_) (fun h3 => ?_)
 refine .sr<|.mo rfl<|.fa rfl<|.lo rfl ?_
 refine .callM (oremove_spec q s T h x.brief.id R) (fun v T2 hv => ?_)
 obtain ⟨rfl, hv⟩ := hv
 refine .ag rfl<|.ag rfl<|.ag rfl<|.zn ?_
 refine .ret (blkQ_r (seqQ_r (retQ_r _ (.three (.tmp rfl) (.tmp rfl) (.tmp rfl)) (.one [2] _) ?_)))
 ·rw [pDo2 (x := x.brief) (by have h9 := h3; simp only [beq_iff_eq] at h9; exact h9)]
  exact ⟨_, rfl, rfl, by simpa [take, dropAt] using hv⟩
 refine .sr<|.q .eqI<|.ag rfl<|.zn ?_
 refine .cond rfl (fun h4 => ?_) (fun h4 => ?_)
 refine .sr<|.mo rfl<|.fa rfl<|.lo rfl<|.fa rfl<|.lo rfl<|.fa rfl<|.lo rfl ?_
 refine .callW (pConsent_spec q s T h x.brief.user x.brief.id (by omega) w'.vs x.brief.scopes _ (hc1.2.1.mono (hin _ _ (by simp))) (by omega) hbC) (fun v T2 hv => ?_)
 obtain ⟨rfl, hv⟩ := hv
 refine .ag rfl<|.ag rfl<|.ag rfl<|.zn ?_
 refine .ret (blkQ_r (seqQ_r (retQ_r _ (.three (.tmp rfl) (.tmp rfl) (.tmp rfl)) (.one [2] _) ?_)))
 ·rw [pDo3 (x := x.brief) (by have h9 := h4; simp only [beq_iff_eq] at h9; exact h9)]
  exact ⟨_, rfl, rfl, by simpa [take, dropAt] using hv⟩
 refine .sr<|.q .eqI<|.ag rfl<|.zn ?_
 refine .cond rfl (fun h5 => ?_) (fun h5 => ?_)
 refine .sr<|.mo rfl<|.fa rfl<|.lo rfl<|.fa rfl<|.lo rfl ?_
 refine .callM (owithdraw_spec q s T h x.brief.user x.brief.id R) (fun v T2 hv => ?_)
 obtain ⟨rfl, hv⟩ := hv
 refine .ag rfl<|.ag rfl<|.ag rfl<|.zn ?_
 refine .ret (blkQ_r (seqQ_r (retQ_r _ (.three (.tmp rfl) (.tmp rfl) (.tmp rfl)) (.one [2] _) ?_)))
 ·rw [pDo4 (x := x.brief) (by have h9 := h5; simp only [beq_iff_eq] at h9; exact h9)]
  exact ⟨_, rfl, rfl, by simpa [take, dropAt] using hv⟩
 refine .sr<|.q .eqI<|.ag rfl<|.zn ?_
 refine .cond rfl (fun h6 => ?_) (fun h6 => ?_)
 refine .sr<|.mo rfl<|.fa rfl<|.lo rfl<|.fa rfl<|.lo rfl<|.fa rfl<|.lo rfl<|.fa rfl<|.lo rfl<|.fa rfl<|.lo rfl<|.fa rfl<|.lo rfl ?_
 refine .callW (oauth_spec q s T h k hb hk x.brief.user x.brief.id x.brief.uri w'.vs x.brief.scopes x.brief.word w'.va x.brief.a (by omega) (by omega) (by omega) (by omega) _ (hc1.2.1.mono (hin _ _ (by simp))) (hc1.2.2.1.mono (hin _ _ (by simp)))) (fun v T2 hv => ?_)
 obtain ⟨rfl, hv⟩ := hv
 refine .mo rfl<|.q .extract<|.q .extract<|.ag rfl<|.ag rfl<|.z<|.mo rfl<|.mo rfl<|.ag rfl<|.ag rfl<|.ag rfl<|.zn ?_
 refine .ret (blkQ_r (seqQ_r (retQ_r _ (.three (.tmp rfl) (.tmp rfl) (.tmp rfl)) (.one [2] _) ?_)))
 ·rw [pDo5 (x := x.brief) (by have h9 := h6; simp only [beq_iff_eq] at h9; exact h9)]
  exact ⟨_, rfl, rfl, by simpa [take, dropAt] using hv⟩
 refine .sr<|.q .eqI<|.ag rfl<|.zn ?_
 refine .cond rfl (fun h7 => ?_) (fun h7 => ?_)
 refine .sr<|.mo rfl<|.fa rfl<|.lo rfl<|.fa rfl<|.lo rfl<|.fa rfl<|.lo rfl<|.fa rfl<|.lo rfl<|.fa rfl<|.lo rfl<|.fa rfl<|.lo rfl<|.fa rfl<|.lo rfl<|.fa rfl<|.lo rfl ?_
 refine .callW (oexch_spec q s T h k hb hk x.brief.id x.brief.secret x.brief.text x.brief.uri x.brief.word w'.va w'.vr x.brief.a x.brief.r x.brief.rev (by omega) (by omega) (by omega) _ (hc1.2.2.1.mono (hin _ _ (by simp))) (hc1.2.2.2.mono (hin _ _ (by simp))) (hg.mono fun b o hb => .inl hb)) (fun v T2 hv => ?_)
 obtain ⟨rfl, hv⟩ := hv
 refine .q .extract<|.q .extract<|.q .extract<|.ag rfl<|.ag rfl<|.ag rfl<|.zn ?_
 refine .ret (blkQ_r (seqQ_r (retQ_r _ (.three (.tmp rfl) (.tmp rfl) (.tmp rfl)) (.one [2] _) ?_)))
 ·rw [pDo6 (x := x.brief) (by have h9 := h7; simp only [beq_iff_eq] at h9; exact h9)]
  exact ⟨_, rfl, rfl, by simpa [take, dropAt] using hv⟩
 refine .sr<|.q .eqI<|.ag rfl<|.zn ?_
 refine .cond rfl (fun h8 => ?_) (fun h8 => ?_)
 refine .sr<|.mo rfl<|.fa rfl<|.lo rfl<|.fa rfl<|.lo rfl<|.fa rfl<|.lo rfl<|.fa rfl<|.lo rfl<|.fa rfl<|.lo rfl<|.fa rfl<|.lo rfl<|.fa rfl<|.lo rfl ?_
 refine .callW (orefr_spec q s T h k hb hk x.brief.id x.brief.secret x.brief.text w'.vs x.brief.scopes w'.va w'.vr x.brief.a x.brief.r x.brief.rev (by omega) (by omega) (by omega) _ (hc1.2.1.mono (hin _ _ (by simp))) (hc1.2.2.1.mono (hin _ _ (by simp))) (hc1.2.2.2.mono (hin _ _ (by simp)))) (fun v T2 hv => ?_)
 obtain ⟨rfl, hv⟩ := hv
 refine .q .extract<|.q .extract<|.q .extract<|.ag rfl<|.ag rfl<|.ag rfl<|.zn ?_
 refine .ret (blkQ_r (seqQ_r (retQ_r _ (.three (.tmp rfl) (.tmp rfl) (.tmp rfl)) (.one [2] _) ?_)))
 ·rw [pDo7 (x := x.brief) (by have h9 := h8; simp only [beq_iff_eq] at h9; exact h9)]
  exact ⟨_, rfl, rfl, by simpa [take, dropAt] using hv⟩
 refine .sr<|.q .eqI<|.ag rfl<|.zn ?_
 refine .cond rfl (fun h9 => ?_) (fun h9 => ?_)
 refine .sr<|.mo rfl<|.fa rfl<|.lo rfl<|.fa rfl<|.lo rfl<|.fa rfl<|.lo rfl ?_
 refine .callM (orevoke_spec q s T h x.brief.id x.brief.secret x.brief.text R) (fun v T2 hv => ?_)
 obtain ⟨rfl, hv⟩ := hv
 refine .ag rfl<|.ag rfl<|.ag rfl<|.zn ?_
 refine .ret (blkQ_r (seqQ_r (retQ_r _ (.three (.tmp rfl) (.tmp rfl) (.tmp rfl)) (.one [2] _) ?_)))
 ·rw [pDo8 (x := x.brief) (by have h9 := h9; simp only [beq_iff_eq] at h9; exact h9)]
  exact ⟨_, rfl, rfl, by simpa [take, dropAt] using hv⟩
 refine .skip<|blkQ_n<|seqQ_n<|.sr<|.ag rfl<|.ag rfl<|.ag rfl<|.zn ?_
 refine .ret (retQ_r _ (.three (.tmp rfl) (.tmp rfl) (.tmp rfl)) (.one [2] _) ?_)
 ·have hk9 : x.brief.kind < 0 ∨ 8 < x.brief.kind := by
   simp only [beq_eq_false_iff_ne, ne_eq] at h1 h2 h3 h4 h5 h6 h7 h8 h9
   omega
  rw [pDo9 (x := x.brief) hk9]
  exact ⟨_, rfl, rfl, by simpa [take, dropAt] using h⟩
theorem oclients_spec (q a : Nat) (b c d : Value) (R : Rds) [pc : PC R (.pointer (some ⟨q, 0, none⟩)) [.pointer (some ⟨a, 0, none⟩), b, c, d]] : Spec Tryz.prog 15 [.pointer (some ⟨q, 0, none⟩)] R [] fun v H' => v = .pointer (some ⟨a, 0, none⟩) ∧ H' = [] := by
 refine Spec.body Tryz.func15 rfl Tryz.results15 Tryz.ntmps15 rfl ?_
 refine .sr<|.ag rfl<|.zs<|.sr<|.mo rfl ?_
 refine .callR (ook_spec q a b c d _) (fun v hv => ?_)
 subst hv
 refine .q .not<|.zn<|.condF<|.kn<|.sr<|.mo rfl<|.nc rfl<|.fa rfl<|.lo rfl<|.ag rfl<|.zn ?_
 refine .ret (retQ_r _ (.one (.tmp rfl)) (.none _) ?_)
 ·exact ⟨rfl, rfl⟩
theorem ovault_spec (q a g : Nat) (b d : Value) (R : Rds) [pc : PC R (.pointer (some ⟨q, 0, none⟩)) [.pointer (some ⟨a, 0, none⟩), b, .pointer (some ⟨g, 0, none⟩), d]] : Spec Tryz.prog 11 [.pointer (some ⟨q, 0, none⟩)] R [] fun v H' => v = .pointer (some ⟨g, 0, none⟩) ∧ H' = [] := by
 refine Spec.body Tryz.func11 rfl Tryz.results11 Tryz.ntmps11 rfl ?_
 refine .sr<|.ag rfl<|.zs<|.sr<|.mo rfl ?_
 refine .callR (ook_spec q a b _ d _) (fun v hv => ?_)
 subst hv
 refine .q .not<|.zn<|.condF<|.kn<|.sr<|.mo rfl<|.nc rfl<|.fa rfl<|.lo rfl<|.ag rfl<|.zn ?_
 refine .ret (retQ_r _ (.one (.tmp rfl)) (.none _) ?_)
 ·exact ⟨rfl, rfl⟩
abbrev OD : Type := OV × OC
def encD (d : OD) : List Value := encO d.1 d.2
theorem short_short (s : ByteArray) (n : Nat) : short (short s n) n = short s n := by
 have h := short_le s n
 obtain ⟨u, hu⟩ : ∃ u, u = short s n := ⟨_, rfl⟩
 rw [← hu] at h ⊢
 unfold short
 rw [if_neg (by omega)]
structure Done (x : OC) : Prop where
 kind : x.kind = 6 ∨ x.kind = 7
 id : short x.id 40 = x.id
 sec : short x.secret 70 = x.secret
 text : short x.text 60 = x.text
theorem Done.brief {x : OC} (h : x.kind = 6 ∨ x.kind = 7) : Done x.brief := ⟨h, short_short _ _, short_short _ _, short_short _ _⟩
def Fam (A : List (ByteArray × Cod)) (V : List (ByteArray × Tok)) (x : OC) (z : Int) : Prop :=
 (x.kind = 6 ∧ ∃ c, pUsed A x.text x.id = some c ∧ z = c.family) ∨ (x.kind = 7 ∧ ∃ t, pOwn V x.text x.id = some t ∧ t.used = true ∧ z = t.family) ∨ z = 0
theorem replay {s : OSt} {x : OC} {z : Int} (hd : Done x) (hf : Fam s.A s.V x z) (hz : z ≠ 0) (ha : cauthE x.id x.secret s.cs = 0) {a r : List UInt8} (h1 : a.length = 24) (h2 : r.length = 24) :
  pDo s (OC.brief { x with a := a, r := r }) = (e0, e0, 18, { s with V := s.V.filter fun p => !(p.2.family == z) }) := by
 have e1 : (OC.brief { x with a := a, r := r }).kind = x.kind := rfl
 have e2 : (OC.brief { x with a := a, r := r }).id = x.id := hd.id
 have e3 : (OC.brief { x with a := a, r := r }).secret = x.secret := hd.sec
 have e4 : (OC.brief { x with a := a, r := r }).text = x.text := hd.text
 have e5 : (OC.brief { x with a := a, r := r }).a = a := (show a.take 30 = a from List.take_of_length_le (by omega))
 have e6 : (OC.brief { x with a := a, r := r }).r = r := (show r.take 30 = r from List.take_of_length_le (by omega))
 have hbg : pBegin s x.id x.secret a r = 0 := by unfold pBegin; rw [if_neg (by omega)]; exact ha
 rcases hf with ⟨hk, c, hc, rfl⟩ | ⟨hk, t, ht, hu, rfl⟩ | h9
 ·rw [pDo6 (x := OC.brief { x with a := a, r := r }) (by rw [e1]; exact hk), e2, e3, e4, e5, e6]
  unfold pExch
  rw [if_neg (by simp [hbg]), hc]
 ·rw [pDo7 (x := OC.brief { x with a := a, r := r }) (by rw [e1]; exact hk), e2, e3, e4, e5, e6]
  unfold pRefr
  rw [if_neg (by simp [hbg]), ht]
  simp only
  rw [if_pos hu]
 ·exact absurd h9 hz
theorem OB.mono {s : OSt} {k k' : Nat} (h : OB s k) (hk : k ≤ k') : OB s k' := by
 obtain ⟨j, rfl⟩ := Nat.exists_eq_add_of_le hk
 clear hk
 induction j with
 | zero => exact h
 | succ j ih => exact ih.up
def UI (s : OSt) : Prop := ∀ p ∈ s.V, p.2.used = true → p.2.kind = 2
theorem UI.zero : UI OSt.zero := by intro p hp; simp [OSt.zero] at hp
theorem UI.less {s s' : OSt} (h : UI s) (h2 : Less s s') : UI s' := fun p hp => h p (h2.v p hp)
theorem UI.put {s' : OSt} {V : List (ByteArray × Tok)} {last now : Int} {a r : ByteArray} {t : Tok} (h : ∀ p ∈ V, p.2.used = true → p.2.kind = 2) (e : s'.V = pPut V last now a r t) : UI s' := fun p hp hu => by
 rw [e] at hp
 rcases pPut_mem hp with h1 | h1 | h1
 ·exact h p h1 hu
 ·rw [h1] at hu; cases hu
 ·rw [h1] at hu; cases hu
theorem UI.step {s : OSt} (h : UI s) (x : OC) : UI (pDo s x).2.2.2 := by
 unfold pDo
 split
 ·exact h.less (tick_less _ _)
 split
 ·exact h.less ⟨fun _ h => h, fun _ h => h⟩
 split
 ·exact h.less (remove_less _ _)
 split
 ·exact h.less (consent_less _ _ _ _)
 split
 ·exact h.less (withdraw_less _ _ _)
 split
 ·rcases auth_cases s x.user x.id x.uri x.scopes x.word x.a with ⟨h1, h2, h3⟩ | ⟨h1, h2, h3⟩
  ·rw [h3]; exact h
  ·rw [h3]; exact h
 split
 ·unfold pExch
  split
  ·exact h
  ·split
   ·exact fun p hp => h p (List.mem_filter.1 hp).1
   ·split
    ·exact h
    ·split
     ·exact h
     ·exact UI.put h rfl
 split
 ·unfold pRefr
  split
  ·exact h
  ·split
   ·split <;> exact h
   ·rename_i t ht
    obtain ⟨h1, h2, h3⟩ := pOwn_some ht
    split
    ·exact fun p hp => h p (List.mem_filter.1 hp).1
    ·split
     ·exact h
     ·split
      ·exact h
      ·split
       ·exact h
       ·refine UI.put (fun p hp hu => ?_) rfl
        rcases kset_mem hp with h9 | h9
        ·exact h p h9.1 hu
        ·rw [h9]; exact h2
 split
 ·exact h.less (revoke_less _ _ _ _)
 ·exact h
theorem RS.pre {α : Type} {R : Rds} {sz : Nat} {enc : α → List Value} {p : Option Addr} {cap : Nat} {xs : List α} (h : RS R sz enc (.slice p xs.length cap) xs) (n : Nat) : ∃ kc, RS R sz enc (.slice p (xs.take n).length kc) (xs.take n) := by
 obtain ⟨q, cap', hv, h1, h2, h3⟩ := h.h
 simp only [Value.slice.injEq] at hv
 obtain ⟨rfl, _, rfl⟩ := hv
 refine ⟨cap, ⟨fun x hx => h.len x (List.take_subset _ _ hx), fun x hx => h.one x (List.take_subset _ _ hx), p, cap, rfl, by rw [List.length_take]; omega, h2, ?_⟩⟩
 rcases h3 with rfl | ⟨b, off, c, E, fr, hp, hR, hrow⟩
 ·exact .inl (by simp)
 ·refine .inr ⟨b, off, c, E, fr, hp, hR, fun k hk => ?_⟩
  rw [flatMap_take n h.len] at hk ⊢
  rw [List.length_take] at hk
  rw [hrow k (by omega), List.getElem?_take_of_lt (by omega)]
theorem oreplays_spec (v va vr : Value) (ds : List OD) (la lr : List UInt8) (R : Rds) (hS : RS R 16 encD v ds) (hD : ∀ d ∈ ds, OR R d.1 d.2) (ha : RS R 1 encU va la) (hrr : RS R 1 encU vr lr) (hg : PC R (.pointer (some ⟨1, 0, none⟩)) (wv ks)) :
  Spec Tryz.prog 4 [v, va, vr] R [] fun u H' => u = .bool true ∧ H' = [] := by
 have iv := hS.oneCell
 have iva := ha.oneCell
 have ivr := hrr.oneCell
 have hle := hS.le
 obtain ⟨pa, ka, hva⟩ := ha.val
 obtain ⟨pr, kr, hvr⟩ := hrr.val
 subst hva hvr
 obtain ⟨kca, hpa⟩ := RS.pre ha 24
 obtain ⟨kcr, hpr⟩ := RS.pre hrr 24
 refine Spec.body Tryz.func4 rfl Tryz.results4 Tryz.ntmps4 rfl ?_
 refine .sr<|.ag rfl<|.z ?_
 refine .callN (onew_spec _) (fun u T hu => ?_)
 obtain ⟨q, rfl, hC0⟩ := hu
 refine .ag rfl<|.zs<|.sr<|.mo rfl<|.q (.eqNilA rfl rfl) ?_
 refine .zn<|.condF<|.kn<|.sr<|.ag rfl<|.zs<|.sr<|.ag rfl<|.zn<|.block ?_
 refine .loop (X := Nat × OSt × Seg × List OD × Value × Seg × Seg) (fun y => (y.1 ≤ ds.length ∧ y.1 ≤ 25) ∧ CIs q y.2.1 y.2.2.1 ∧ (OB y.2.1 y.1 ∧ UI y.2.1) ∧ OS 34 16 encD y.2.2.2.2.1 y.2.2.2.1 y.2.2.2.2.2.1 ∧ y.2.2.2.1.length ≤ y.1 ∧ ∀ d ∈ y.2.2.2.1, Done d.2 ∧ OR (sg y.2.2.2.2.2.2) d.1 d.2) (fun y => [(0, v), (1, .slice pa la.length ka), (2, .slice pr lr.length kr), (7, .pointer (some ⟨q, 0, none⟩)), (8, y.2.2.2.2.1), (9, .int .i64 (y.1 : Nat))]) (fun y => [y.2.2.1, y.2.2.2.2.2.1, y.2.2.2.2.2.2]) (fun y => 25 - y.1) (0, OSt.zero, T, [], .slice none 0 0, [], []) ⟨⟨Nat.zero_le _, Nat.zero_le _⟩, hC0, ⟨OB.zero, UI.zero⟩, OS.nil, Nat.le_refl _, by simp⟩ (EnvLe.k6 rfl rfl rfl rfl rfl rfl) (HLe.ofPerm (by simp)) ?_
 rintro ⟨i, s, T, dn, vd, Td, Tm⟩ ⟨⟨hi, hi30⟩, hC, ⟨hB, hUI⟩, hL, hll, hdn⟩
 simp only at hi hi30 hC hB hUI hL hll hdn ⊢
 have ivd := hL.oneCell
 refine .seq<|.sr<|.mo rfl<|.mo rfl<|.q (.lenR hS) ?_
 refine .q .lss<|.mo rfl ?_
 refine .split (t := 32) rfl (fun g6_4 => ?_) (fun g6_4 => ?_)
 refine .gT g6_4<|.mo rfl<|.gT g6_4<|.q .lss<|.q (.pickTh g6_4) ?_
 refine .zn ?_
 refine .cond rfl (fun h2 => ?_) (fun h2 => ?_)
 have hlt : i < ds.length := by
  have := of_decide_eq_true g6_4
  omega
 have hl30 : i < 25 := by have := of_decide_eq_true h2; omega
 obtain ⟨d, hd⟩ : ∃ d, ds[i]? = some d := ⟨_, List.getElem?_eq_getElem hlt⟩
 obtain ⟨w, x⟩ := d
 have hdR := hD _ (List.mem_of_getElem? hd)
 have id1 : Ones (encO w x) := ⟨hdR.ones⟩
 refine .kn<|.seq<|.block<|.sr<|.mo rfl<|.mo rfl<|.mo rfl ?_
 refine .indexR i hS hd (fun p42 => ?_)
 refine .q (.loadA rfl) ?_
 refine .callM (odo_spec q s T hC i hB (by omega) w x R hdR hg) (fun u T2 hu => ?_)
 obtain ⟨rfl, hC2⟩ := hu
 have hB2 := hB.step x.brief (by show (texts x.scopes 6 40).length ≤ 6; simp [texts]; omega)
 obtain ⟨s2, hs2⟩ : ∃ s2, s2 = (pDo s x.brief).2.2.2 := ⟨_, rfl⟩
 have hU2 := hUI.step x.brief
 rw [← hs2] at hC2 hB2 hU2
 clear hs2
 refine .mo rfl<|.q .extract<|.q .extract<|.q .extract<|.ag rfl<|.ag rfl<|.ag rfl<|.z<|.mo rfl<|.q .eqI<|.mo rfl ?_
 refine .split (t := 50) rfl (fun g9_2 => ?_) (fun g9_2 => ?_)
 refine .gT g9_2<|.mo rfl<|.gT g9_2<|.mo rfl<|.gT g9_2 ?_
 refine .indexR i hS hd (fun p53 => ?_)
 refine .gT g9_2<|.fa rfl<|.gT g9_2<|.lo rfl<|.gT g9_2<|.q .eqI<|.gT g9_2<|.mo rfl ?_
 refine .split (t := 57) rfl (fun g9_9 => ?_) (fun g9_9 => ?_)
 refine .gF g9_9<|.gF g9_9<|.gF g9_9<|.gF g9_9<|.gF g9_9<|.gF g9_9<|.gT g9_2<|.q (.pickTh g9_9) ?_
 refine .q (.pickTh g9_2) ?_
 refine .zn<|.condT<|.region<|.mo rfl<|.mo rfl<|.mo rfl ?_
 refine .indexR i hS hd (fun p69 => ?_)
 refine .q (.loadA rfl) ?_
 refine .callN (oshort_spec w x _ (hdR.mono fun b o hb => .inl hb)) (fun u T1 hu => ?_)
 obtain ⟨w', rfl, hc1⟩ := hu
 have i3 : Ones (encO w' x.brief) := ⟨hc1.ones⟩
 have hkk : x.kind = 6 ∨ x.kind = 7 := by
  exact .inl (by have h9 := g9_9; simp only [beq_iff_eq] at h9; exact h9)
 refine .buildSlice1A (fun b72 => ?_)
 refine .append hL (RS.lits (xs := [((w', x.brief) : OD)]) rfl (fun x hx => by simp only [List.mem_singleton] at hx; subst hx; rfl) (fun x hx => by simp only [List.mem_singleton] at hx; subst hx; exact hc1.ones)) (by simp; omega) (fun v5 T5 hO5 => ?_)
 have hdn2 : ∀ d ∈ dn ++ [((w', x.brief) : OD)], Done d.2 ∧ OR (sg (T1 ++ Tm)) d.1 d.2 := fun d hd => by
  rcases List.mem_append.1 hd with h9 | h9
  ·exact ⟨(hdn d h9).1, (hdn d h9).2.mono fun b o hb => sg_right hb⟩
  ·simp only [List.mem_singleton] at h9
   subst h9
   exact ⟨Done.brief hkk, hc1.mono fun b o hb => sg_left hb⟩
 refine .ag rfl<|.nil<|blkQ_n<|seqQ_n<|.region<|.mo rfl ?_
 refine .q (.i64 ((i + 1 : Nat) : Int) .add ⟨by omega, by omega, by omega⟩) ?_
 refine .ag rfl<|.nil ?_
 ·exact loopQ_i (i + 1, s2, T2, dn ++ [(w', x.brief)], v5, T5, T1 ++ Tm) ⟨⟨hlt, hl30⟩, hC2, ⟨hB2, hU2⟩, hO5, by simp; omega, hdn2⟩ (by simp only; omega) (EnvLe.k6 rfl rfl rfl rfl rfl rfl) ((HLe.pick [2, 2, 1, 1] _).trans (HLe.ofPerm (by simp [take, dropAt]; first | done | exact List.Perm.append_left _ (List.Perm.append_left _ List.perm_append_comm))))
 refine .gT g9_9<|.mo rfl<|.gT g9_9<|.mo rfl<|.gT g9_9 ?_
 refine .indexR i hS hd (fun p60 => ?_)
 refine .gT g9_9<|.fa rfl<|.gT g9_9<|.lo rfl<|.gT g9_9<|.q .eqI<|.gT g9_2<|.q (.pickFh g9_9) ?_
 refine .q (.pickTh g9_2) ?_
 refine .zn ?_
 refine .cond rfl (fun h3 => ?_) (fun h3 => ?_)
 refine .region<|.mo rfl<|.mo rfl<|.mo rfl ?_
 refine .indexR i hS hd (fun p69 => ?_)
 refine .q (.loadA rfl) ?_
 refine .callN (oshort_spec w x _ (hdR.mono fun b o hb => .inl hb)) (fun u T1 hu => ?_)
 obtain ⟨w', rfl, hc1⟩ := hu
 have i3 : Ones (encO w' x.brief) := ⟨hc1.ones⟩
 have hkk : x.kind = 6 ∨ x.kind = 7 := by
  exact .inr (by have h9 := h3; simp only [beq_iff_eq] at h9; exact h9)
 refine .buildSlice1A (fun b72 => ?_)
 refine .append hL (RS.lits (xs := [((w', x.brief) : OD)]) rfl (fun x hx => by simp only [List.mem_singleton] at hx; subst hx; rfl) (fun x hx => by simp only [List.mem_singleton] at hx; subst hx; exact hc1.ones)) (by simp; omega) (fun v5 T5 hO5 => ?_)
 have hdn2 : ∀ d ∈ dn ++ [((w', x.brief) : OD)], Done d.2 ∧ OR (sg (T1 ++ Tm)) d.1 d.2 := fun d hd => by
  rcases List.mem_append.1 hd with h9 | h9
  ·exact ⟨(hdn d h9).1, (hdn d h9).2.mono fun b o hb => sg_right hb⟩
  ·simp only [List.mem_singleton] at h9
   subst h9
   exact ⟨Done.brief hkk, hc1.mono fun b o hb => sg_left hb⟩
 refine .ag rfl<|.nil<|blkQ_n<|seqQ_n<|.region<|.mo rfl ?_
 refine .q (.i64 ((i + 1 : Nat) : Int) .add ⟨by omega, by omega, by omega⟩) ?_
 refine .ag rfl<|.nil ?_
 ·exact loopQ_i (i + 1, s2, T2, dn ++ [(w', x.brief)], v5, T5, T1 ++ Tm) ⟨⟨hlt, hl30⟩, hC2, ⟨hB2, hU2⟩, hO5, by simp; omega, hdn2⟩ (by simp only; omega) (EnvLe.k6 rfl rfl rfl rfl rfl rfl) ((HLe.pick [2, 2, 1, 1] _).trans (HLe.ofPerm (by simp [take, dropAt]; first | done | exact List.Perm.append_left _ (List.Perm.append_left _ List.perm_append_comm))))
 refine .skip<|blkQ_n<|seqQ_n<|.region<|.mo rfl ?_
 refine .q (.i64 ((i + 1 : Nat) : Int) .add ⟨by omega, by omega, by omega⟩) ?_
 refine .ag rfl<|.nil ?_
 ·exact loopQ_i (i + 1, s2, T2, dn, vd, Td, Tm) ⟨⟨hlt, hl30⟩, hC2, ⟨hB2, hU2⟩, hL, by simp only; omega, hdn⟩ (by simp only; omega) (EnvLe.k6 rfl rfl rfl rfl rfl rfl) (HLe.refl _)
 refine .gF g9_2<|.gF g9_2<|.gF g9_2<|.gF g9_2<|.gF g9_2<|.gF g9_2<|.gF g9_2<|.gfU rfl ?_
 refine .gfU rfl ?_
 refine .gfU rfl ?_
 refine .gfU rfl ?_
 refine .gfU rfl ?_
 refine .gfU rfl ?_
 refine .gF g9_2<|.q (.pickFh g9_2) ?_
 refine .zn<|.condF<|.skip<|blkQ_n<|seqQ_n<|.region<|.mo rfl ?_
 refine .q (.i64 ((i + 1 : Nat) : Int) .add ⟨by omega, by omega, by omega⟩) ?_
 refine .ag rfl<|.nil ?_
 ·exact loopQ_i (i + 1, s2, T2, dn, vd, Td, Tm) ⟨⟨hlt, hl30⟩, hC2, ⟨hB2, hU2⟩, hL, by simp only; omega, hdn⟩ (by simp only; omega) (EnvLe.k6 rfl rfl rfl rfl rfl rfl) (HLe.refl _)
 refine .exit<|seqQ_x<|loopQ_x<|blkQ_x<|seqQ_n<|.seq<|.sr<|.ag rfl<|.zn<|.block ?_
 refine .loop (X := Nat × OSt × Seg) (fun y => y.1 ≤ dn.length ∧ CIs q y.2.1 y.2.2 ∧ OB y.2.1 (25 + y.1) ∧ UI y.2.1) (fun y => [(0, v), (1, .slice pa la.length ka), (2, .slice pr lr.length kr), (7, .pointer (some ⟨q, 0, none⟩)), (8, vd), (13, .int .i64 (y.1 : Nat))]) (fun y => [y.2.2, Td, Tm]) (fun y => dn.length - y.1) (0, s, T) ⟨Nat.zero_le _, hC, hB.mono (by simp only; omega), hUI⟩ (EnvLe.k6 rfl rfl rfl rfl rfl rfl) (HLe.refl _) ?_
 clear hC hB hUI
 rintro ⟨k, s, T⟩ ⟨hk, hC, hB, hUI⟩
 simp only at hk hC hB hUI ⊢
 refine .seq<|.sr<|.mo rfl<|.mo rfl<|.q (.lenO hL) ?_
 refine .q .lss<|.zn ?_
 refine .cond rfl (fun h4 => ?_) (fun h4 => ?_)
 have hlt : k < dn.length := by have := of_decide_eq_true h4; omega
 obtain ⟨d, hd⟩ : ∃ d, dn[k]? = some d := ⟨_, List.getElem?_eq_getElem hlt⟩
 obtain ⟨w, x⟩ := d
 obtain ⟨hdo, hdR⟩ := hdn _ (List.mem_of_getElem? hd)
 simp only at hdo hdR
 have id1 : Ones (encO w x) := ⟨hdR.ones⟩
 obtain ⟨gc, gb, gv, Tc, Tb, Tv, hT, hR, hG, hV⟩ := id hC
 have ps2 : PS T (.pointer (some ⟨q, 0, none⟩)) [.pointer (some ⟨gc, 0, none⟩), .pointer (some ⟨gb, 0, none⟩), .pointer (some ⟨gv, 0, none⟩), .int .i64 s.now] := PS.of (E := 63) (fr := (0, 0)) (by rw [hT]; simp)
 have hinc : ∀ (R' : Rds) (H' : Segs), T ∈ H' → ∀ p ∈ Tc, Rx R' H' p.1 p.2 := fun R' H' hm p hp => .inr (List.mem_flatten.2 ⟨_, hm, by rw [hT]; simp [hp]⟩)
 have hinb : ∀ (R' : Rds) (H' : Segs), T ∈ H' → ∀ p ∈ Tb, Rx R' H' p.1 p.2 := fun R' H' hm p hp => .inr (List.mem_flatten.2 ⟨_, hm, by rw [hT]; simp [hp]⟩)
 have hinv : ∀ (R' : Rds) (H' : Segs), T ∈ H' → ∀ p ∈ Tv, Rx R' H' p.1 p.2 := fun R' H' hm p hp => .inr (List.mem_flatten.2 ⟨_, hm, by rw [hT]; simp [hp]⟩)
 have hAn := hG.nd
 have hVn := hV.nd
 refine .kn<|.seq<|.block<|.sr<|.mo rfl<|.mo rfl ?_
 refine .indexO k hL hd (fun p82 => ?_)
 refine .q (.loadA rfl) ?_
 refine .allocA (fun b14 => ?_)
 refine .storeA (cs := encO w x) rfl rfl ?_
 refine .z<|.ag rfl<|.z<|.mo rfl ?_
 refine .callR (obook_spec q gc gb _ _ _) (fun u hu => ?_)
 subst hu
 refine .callN (gcodes_spec gb s.C s.A Tb hG (by have := hB.A; omega) _ (hinb _ _ (by simp))) (fun w6 T6 hw6 => ?_)
 obtain ⟨cs, Uo, Ui, rfl, hU, hcs, hcperm, _⟩ := hw6
 have iw6 := hU.oneCell
 have hUl := hU.le
 refine .mo rfl ?_
 refine .callR (ovault_spec q gc gv _ _ _) (fun u hu => ?_)
 subst hu
 refine .callN (vlist_spec gv s.V s.last Tv hV (by have := hB.V; omega) _ (hinv _ _ (by simp))) (fun w5 T5 hw5 => ?_)
 obtain ⟨ps, To, Ti, rfl, hO, hps, hperm, _⟩ := hw5
 have iw5 := hO.oneCell
 have hOl := hO.le
 refine .sub (HLe.ofPerm (H' := [To, Ti, Uo, Ui, [(b14, .cells (encO w x).toArray 34 (0, 0))], T, Td, Tm]) (by simp [setL, encO])) ?_
 refine .ag rfl<|.ag rfl<|.zs<|.sr<|.ag rfl<|.zn<|.block ?_
 refine .loop (X := Nat × Int) (fun y => y.1 ≤ cs.length ∧ ((x.kind = 6 ∧ ∃ c, pUsed s.A x.text x.id = some c ∧ y.2 = c.family) ∨ y.2 = 0)) (fun y => [(0, v), (1, .slice pa la.length ka), (2, .slice pr lr.length kr), (7, .pointer (some ⟨q, 0, none⟩)), (8, vd), (13, .int .i64 (k : Nat)), (14, .pointer (some ⟨b14, 0, none⟩)), (15, .int .i64 y.2), (16, w6), (17, w5), (18, .int .i64 (y.1 : Nat))]) (fun _ => [To, Ti, Uo, Ui, [(b14, .cells (encO w x).toArray 34 (0, 0))], T, Td, Tm]) (fun y => cs.length - y.1) (0, 0) ⟨Nat.zero_le _, .inr rfl⟩ (EnvLe.k11 rfl rfl rfl rfl rfl rfl rfl rfl rfl rfl rfl) (HLe.refl _) ?_
 rintro ⟨j, z⟩ ⟨hj, hf⟩
 simp only at hj hf ⊢
 refine .seq<|.sr<|.mo rfl<|.mo rfl<|.q (.lenO hU) ?_
 refine .q .lss<|.zn ?_
 refine .cond rfl (fun h5 => ?_) (fun h5 => ?_)
 have hlt5 : j < cs.length := by have := of_decide_eq_true h5; omega
 obtain ⟨y, hy⟩ : ∃ y, cs[j]? = some y := ⟨_, List.getElem?_eq_getElem hlt5⟩
 obtain ⟨wt, t⟩ := y
 have hym := List.mem_of_getElem? hy
 have it1 : Ones (encG (wt, t)) := ⟨(hcs _ hym).ones⟩
 have htA : (t.text, t) ∈ s.A := hcperm.mem_iff.1 (List.mem_map.2 ⟨t, List.mem_map.2 ⟨_, hym, rfl⟩, rfl⟩)
 refine .kn<|.seq<|.block<|.seq ?_
 refine .region_still mixed (by kernel_rfl) ?_
 refine .fa rfl<|.lo rfl<|.q .eqI<|.mo rfl ?_
 refine .split (t := 99) rfl (fun g20_3 => ?_) (fun g20_3 => ?_)
 refine .gT g20_3<|.mo rfl<|.gT g20_3<|.mo rfl<|.gT g20_3 ?_
 refine .indexO j hU hy (fun p102 => ?_)
 refine .gT g20_3<|.fa rfl<|.gT g20_3<|.lo rfl<|.gT g20_3<|.fa rfl<|.gT g20_3<|.lo rfl<|.gT g20_3<|.q .eqS<|.q (.pickTh g20_3) ?_
 refine .mo rfl ?_
 refine .split (t := 109) rfl (fun g20_13 => ?_) (fun g20_13 => ?_)
 refine .gT g20_13<|.mo rfl<|.gT g20_13<|.mo rfl<|.gT g20_13 ?_
 refine .indexO j hU hy (fun p112 => ?_)
 refine .gT g20_13<|.fa rfl<|.gT g20_13<|.lo rfl<|.gT g20_13<|.fa rfl<|.gT g20_13<|.lo rfl<|.gT g20_13<|.q .eqS<|.q (.pickTh g20_13) ?_
 refine .mo rfl ?_
 refine .split (t := 119) rfl (fun g20_23 => ?_) (fun g20_23 => ?_)
 refine .gT g20_23<|.mo rfl<|.gT g20_23<|.mo rfl<|.gT g20_23 ?_
 refine .indexO j hU hy (fun p122 => ?_)
 refine .gT g20_23<|.fa rfl<|.gT g20_23<|.lo rfl<|.q (.pickTh g20_23) ?_
 refine .zn ?_
 refine .cond rfl (fun h6 => ?_) (fun h6 => ?_)
 have hhit : (x.kind = 6 ∧ ∃ c, pUsed s.A x.text x.id = some c ∧ t.family = c.family) := by
  have e1 : t.text = x.text := by simpa using g20_13
  have e2 : t.client = x.id := by simpa using g20_23
  refine ⟨by have h9 := g20_3; simp only [beq_iff_eq] at h9; exact h9, t, ?_, rfl⟩
  unfold pUsed
  rw [show mget x.text s.A = some t from mget_of_mem hAn (by rw [← e1]; exact htA), Option.filter_some, if_pos (by have h9 : t.used = true := h6; simp [e2, h9])]
 refine .region<|.mo rfl<|.mo rfl ?_
 refine .indexO j hU hy (fun p128 => ?_)
 refine .fa rfl<|.lo rfl<|.ag rfl<|.nil<|blkQ_n<|seqQ_n<|.region<|.mo rfl ?_
 refine .q (.i64 ((j + 1 : Nat) : Int) .add ⟨by omega, by omega, by omega⟩) ?_
 refine .ag rfl<|.nil ?_
 ·exact loopQ_i (j + 1, t.family) ⟨hlt5, .inl hhit⟩ (by simp only; omega) (EnvLe.k11 rfl rfl rfl rfl rfl rfl rfl rfl rfl rfl rfl) (HLe.refl _)
 refine .skip<|blkQ_n<|seqQ_n<|.region<|.mo rfl ?_
 refine .q (.i64 ((j + 1 : Nat) : Int) .add ⟨by omega, by omega, by omega⟩) ?_
 refine .ag rfl<|.nil ?_
 ·exact loopQ_i (j + 1, z) ⟨hlt5, hf⟩ (by simp only; omega) (EnvLe.k11 rfl rfl rfl rfl rfl rfl rfl rfl rfl rfl rfl) (HLe.refl _)
 refine .gF g20_23<|.gF g20_23<|.gF g20_23<|.gF g20_23<|.gF g20_23<|.q (.pickFh g20_23) ?_
 refine .zn<|.condF<|.skip<|blkQ_n<|seqQ_n<|.region<|.mo rfl ?_
 refine .q (.i64 ((j + 1 : Nat) : Int) .add ⟨by omega, by omega, by omega⟩) ?_
 refine .ag rfl<|.nil ?_
 ·exact loopQ_i (j + 1, z) ⟨hlt5, hf⟩ (by simp only; omega) (EnvLe.k11 rfl rfl rfl rfl rfl rfl rfl rfl rfl rfl rfl) (HLe.refl _)
 refine .gF g20_13<|.gF g20_13<|.gF g20_13<|.gF g20_13<|.gF g20_13<|.gF g20_13<|.gF g20_13<|.gF g20_13<|.q (.pickFh g20_13) ?_
 refine .mo rfl<|.gf rfl rfl<|.gf rfl rfl<|.gf rfl rfl<|.gf rfl rfl<|.gf rfl rfl<|.q .pickF<|.zn<|.condF<|.skip<|blkQ_n<|seqQ_n<|.region<|.mo rfl ?_
 refine .q (.i64 ((j + 1 : Nat) : Int) .add ⟨by omega, by omega, by omega⟩) ?_
 refine .ag rfl<|.nil ?_
 ·exact loopQ_i (j + 1, z) ⟨hlt5, hf⟩ (by simp only; omega) (EnvLe.k11 rfl rfl rfl rfl rfl rfl rfl rfl rfl rfl rfl) (HLe.refl _)
 refine .gF g20_3<|.gF g20_3<|.gF g20_3<|.gF g20_3<|.gF g20_3<|.gF g20_3<|.gF g20_3<|.gF g20_3<|.q (.pickFh g20_3) ?_
 refine .mo rfl<|.gf rfl rfl<|.gf rfl rfl<|.gf rfl rfl<|.gf rfl rfl<|.gf rfl rfl<|.gf rfl rfl<|.gf rfl rfl<|.gf rfl rfl<|.q .pickF<|.mo rfl<|.gf rfl rfl<|.gf rfl rfl<|.gf rfl rfl<|.gf rfl rfl<|.gf rfl rfl<|.q .pickF<|.zn<|.condF<|.skip<|blkQ_n<|seqQ_n<|.region<|.mo rfl ?_
 refine .q (.i64 ((j + 1 : Nat) : Int) .add ⟨by omega, by omega, by omega⟩) ?_
 refine .ag rfl<|.nil ?_
 ·exact loopQ_i (j + 1, z) ⟨hlt5, hf⟩ (by simp only; omega) (EnvLe.k11 rfl rfl rfl rfl rfl rfl rfl rfl rfl rfl rfl) (HLe.refl _)
 refine .exit<|seqQ_x<|loopQ_x<|blkQ_x<|seqQ_n<|.seq<|.sr<|.ag rfl<|.zn<|.block ?_
 refine .loop (X := Nat × Int) (fun y => y.1 ≤ ps.length ∧ Fam s.A s.V x y.2) (fun y => [(0, v), (1, .slice pa la.length ka), (2, .slice pr lr.length kr), (7, .pointer (some ⟨q, 0, none⟩)), (8, vd), (13, .int .i64 (k : Nat)), (14, .pointer (some ⟨b14, 0, none⟩)), (15, .int .i64 y.2), (17, w5), (19, .int .i64 (y.1 : Nat))]) (fun _ => [To, Ti, Uo, Ui, [(b14, .cells (encO w x).toArray 34 (0, 0))], T, Td, Tm]) (fun y => ps.length - y.1) (0, z) ⟨Nat.zero_le _, hf.imp (fun h => h) .inr⟩ (EnvLe.k10 rfl rfl rfl rfl rfl rfl rfl rfl rfl rfl) (HLe.refl _) ?_
 clear hf hj
 rintro ⟨j, z⟩ ⟨hj, hf⟩
 simp only at hj hf ⊢
 refine .seq<|.sr<|.mo rfl<|.mo rfl<|.q (.lenO hO) ?_
 refine .q .lss<|.zn ?_
 refine .cond rfl (fun h7 => ?_) (fun h7 => ?_)
 have hlt5 : j < ps.length := by have := of_decide_eq_true h7; omega
 obtain ⟨y, hy⟩ : ∃ y, ps[j]? = some y := ⟨_, List.getElem?_eq_getElem hlt5⟩
 obtain ⟨wt, t⟩ := y
 have hym := List.mem_of_getElem? hy
 have it1 : Ones (encT (wt, t)) := ⟨(hps _ hym).ones⟩
 have htV : (t.text, t) ∈ s.V := hperm.mem_iff.1 (List.mem_map.2 ⟨t, List.mem_map.2 ⟨_, hym, rfl⟩, rfl⟩)
 refine .kn<|.seq<|.block<|.seq ?_
 refine .region_still mixed (by kernel_rfl) ?_
 refine .fa rfl<|.lo rfl<|.q .eqI<|.mo rfl ?_
 refine .split (t := 140) rfl (fun g25_3 => ?_) (fun g25_3 => ?_)
 refine .gT g25_3<|.mo rfl<|.gT g25_3<|.mo rfl<|.gT g25_3 ?_
 refine .indexO j hO hy (fun p143 => ?_)
 refine .gT g25_3<|.fa rfl<|.gT g25_3<|.lo rfl<|.gT g25_3<|.fa rfl<|.gT g25_3<|.lo rfl<|.gT g25_3<|.q .eqS<|.q (.pickTh g25_3) ?_
 refine .mo rfl ?_
 refine .split (t := 150) rfl (fun g25_13 => ?_) (fun g25_13 => ?_)
 refine .gT g25_13<|.mo rfl<|.gT g25_13<|.mo rfl<|.gT g25_13 ?_
 refine .indexO j hO hy (fun p153 => ?_)
 refine .gT g25_13<|.fa rfl<|.gT g25_13<|.lo rfl<|.gT g25_13<|.fa rfl<|.gT g25_13<|.lo rfl<|.gT g25_13<|.q .eqS<|.q (.pickTh g25_13) ?_
 refine .mo rfl ?_
 refine .split (t := 160) rfl (fun g25_23 => ?_) (fun g25_23 => ?_)
 refine .gT g25_23<|.mo rfl<|.gT g25_23<|.mo rfl<|.gT g25_23 ?_
 refine .indexO j hO hy (fun p163 => ?_)
 refine .gT g25_23<|.fa rfl<|.gT g25_23<|.lo rfl<|.q (.pickTh g25_23) ?_
 refine .zn ?_
 refine .cond rfl (fun h8 => ?_) (fun h8 => ?_)
 have hhit : Fam s.A s.V x t.family := by
  have e1 : t.text = x.text := by simpa using g25_13
  have e2 : t.client = x.id := by simpa using g25_23
  have e0 : x.kind = 7 := by have h9 := g25_3; simp only [beq_iff_eq] at h9; exact h9
  have hu : t.used = true := h8
  exact .inr (.inl ⟨e0, t, pOwn_of (mget_of_mem hVn (by rw [← e1]; exact htV)) (hUI _ htV hu) e2, hu, rfl⟩)
 refine .region<|.mo rfl<|.mo rfl ?_
 refine .indexO j hO hy (fun p169 => ?_)
 refine .fa rfl<|.lo rfl<|.ag rfl<|.nil<|blkQ_n<|seqQ_n<|.region<|.mo rfl ?_
 refine .q (.i64 ((j + 1 : Nat) : Int) .add ⟨by omega, by omega, by omega⟩) ?_
 refine .ag rfl<|.nil ?_
 ·exact loopQ_i (j + 1, t.family) ⟨hlt5, hhit⟩ (by simp only; omega) (EnvLe.k10 rfl rfl rfl rfl rfl rfl rfl rfl rfl rfl) (HLe.refl _)
 refine .skip<|blkQ_n<|seqQ_n<|.region<|.mo rfl ?_
 refine .q (.i64 ((j + 1 : Nat) : Int) .add ⟨by omega, by omega, by omega⟩) ?_
 refine .ag rfl<|.nil ?_
 ·exact loopQ_i (j + 1, z) ⟨hlt5, hf⟩ (by simp only; omega) (EnvLe.k10 rfl rfl rfl rfl rfl rfl rfl rfl rfl rfl) (HLe.refl _)
 refine .gF g25_23<|.gF g25_23<|.gF g25_23<|.gF g25_23<|.gF g25_23<|.q (.pickFh g25_23) ?_
 refine .zn<|.condF<|.skip<|blkQ_n<|seqQ_n<|.region<|.mo rfl ?_
 refine .q (.i64 ((j + 1 : Nat) : Int) .add ⟨by omega, by omega, by omega⟩) ?_
 refine .ag rfl<|.nil ?_
 ·exact loopQ_i (j + 1, z) ⟨hlt5, hf⟩ (by simp only; omega) (EnvLe.k10 rfl rfl rfl rfl rfl rfl rfl rfl rfl rfl) (HLe.refl _)
 refine .gF g25_13<|.gF g25_13<|.gF g25_13<|.gF g25_13<|.gF g25_13<|.gF g25_13<|.gF g25_13<|.gF g25_13<|.q (.pickFh g25_13) ?_
 refine .mo rfl<|.gf rfl rfl<|.gf rfl rfl<|.gf rfl rfl<|.gf rfl rfl<|.gf rfl rfl<|.q .pickF<|.zn<|.condF<|.skip<|blkQ_n<|seqQ_n<|.region<|.mo rfl ?_
 refine .q (.i64 ((j + 1 : Nat) : Int) .add ⟨by omega, by omega, by omega⟩) ?_
 refine .ag rfl<|.nil ?_
 ·exact loopQ_i (j + 1, z) ⟨hlt5, hf⟩ (by simp only; omega) (EnvLe.k10 rfl rfl rfl rfl rfl rfl rfl rfl rfl rfl) (HLe.refl _)
 refine .gF g25_3<|.gF g25_3<|.gF g25_3<|.gF g25_3<|.gF g25_3<|.gF g25_3<|.gF g25_3<|.gF g25_3<|.q (.pickFh g25_3) ?_
 refine .mo rfl<|.gf rfl rfl<|.gf rfl rfl<|.gf rfl rfl<|.gf rfl rfl<|.gf rfl rfl<|.gf rfl rfl<|.gf rfl rfl<|.gf rfl rfl<|.q .pickF<|.mo rfl<|.gf rfl rfl<|.gf rfl rfl<|.gf rfl rfl<|.gf rfl rfl<|.gf rfl rfl<|.q .pickF<|.zn<|.condF<|.skip<|blkQ_n<|seqQ_n<|.region<|.mo rfl ?_
 refine .q (.i64 ((j + 1 : Nat) : Int) .add ⟨by omega, by omega, by omega⟩) ?_
 refine .ag rfl<|.nil ?_
 ·exact loopQ_i (j + 1, z) ⟨hlt5, hf⟩ (by simp only; omega) (EnvLe.k10 rfl rfl rfl rfl rfl rfl rfl rfl rfl rfl) (HLe.refl _)
 refine .exit<|seqQ_x<|loopQ_x<|blkQ_x<|seqQ_n<|.seq<|.seq<|.region_all [] mixed ?_
 refine .takeO 0 rfl .move (by kernel_rfl)<|.takeO 1 rfl .eqI (by kernel_rfl)<|.takeO 2 rfl .move (by kernel_rfl) ?_
 refine RA.split (t := 174) rfl (fun g27_2 => ?_) (fun g27_2 => ?_)
 refine .takeFh 3 rfl rfl g27_2 rfl (by kernel_rfl) ?_
 refine .takeFh 5 rfl rfl g27_2 rfl (by kernel_rfl) ?_
 refine .takeFh 6 rfl rfl g27_2 rfl (by kernel_rfl) ?_
 refine .takeFh 7 rfl rfl g27_2 rfl (by kernel_rfl) ?_
 refine .takeFh 8 rfl rfl g27_2 rfl (by kernel_rfl) ?_
 refine RA.step 4 rfl (by kernel_rfl) rfl ?_
 refine .gF g27_2 ?_
 refine .nil (Next.sub ?_)
 refine RA.step 9 rfl (by kernel_rfl) rfl ?_
 refine .gF g27_2 ?_
 refine .nil (Next.sub ?_)
 refine .takeFh 10 rfl rfl g27_2 rfl (by kernel_rfl) ?_
 refine .takeO 11 rfl (.pickTh g27_2) (by kernel_rfl) ?_
 refine RA.nil (by kernel_rfl) ?_
 refine seqQ_n<|.condT<|.exit<|seqQ_x<|blkQ_x<|seqQ_n<|.region<|.mo rfl ?_
 refine .q (.i64 ((k + 1 : Nat) : Int) .add ⟨by omega, by omega, by omega⟩) ?_
 refine .ag rfl<|.nil ?_
 ·exact loopQ_i (k + 1, s, T) ⟨hlt, hC, hB.up, hUI⟩ (by simp only; omega) (EnvLe.k6 rfl rfl rfl rfl rfl rfl) (HLe.pick [5, 5, 5] _)
 refine .takeGhO 3 rfl rfl g27_2 .move (by kernel_rfl) ?_
 refine .takeGhO 5 rfl rfl g27_2 (.fieldAddr rfl) (by kernel_rfl) ?_
 refine .takeGhO 6 rfl rfl g27_2 (.load1 rfl) (by kernel_rfl) ?_
 refine .takeGhO 7 rfl rfl g27_2 (.fieldAddr rfl) (by kernel_rfl) ?_
 refine .takeGhO 8 rfl rfl g27_2 (.load1 rfl) (by kernel_rfl) ?_
 refine RA.step 4 rfl (by kernel_rfl) rfl ?_
 refine .gT g27_2 ?_
 refine .callR (oclients_spec q gc _ _ _ _) (fun u hu => ?_)
 subst hu
 refine .nil (Next.sub ?_)
 refine RA.step 9 rfl (by kernel_rfl) rfl ?_
 refine .gT g27_2 ?_
 refine .callR (cauth_spec gc s.cs Tc hR x.id x.secret _ (hinc _ _ (by simp))) (fun u hu => ?_)
 subst hu
 refine .nil (Next.sub ?_)
 refine .takeGhO 10 rfl rfl g27_2 .neI (by kernel_rfl) ?_
 refine .takeO 11 rfl (.pickFh g27_2) (by kernel_rfl) ?_
 refine RA.nil (by kernel_rfl) ?_
 refine seqQ_n ?_
 refine .cond rfl (fun h9 => ?_) (fun h9 => ?_)
 refine .exit<|seqQ_x<|blkQ_x<|seqQ_n<|.region<|.mo rfl ?_
 refine .q (.i64 ((k + 1 : Nat) : Int) .add ⟨by omega, by omega, by omega⟩) ?_
 refine .ag rfl<|.nil ?_
 ·exact loopQ_i (k + 1, s, T) ⟨hlt, hC, hB.up, hUI⟩ (by simp only; omega) (EnvLe.k6 rfl rfl rfl rfl rfl rfl) (HLe.pick [5, 5, 5] _)
 have hz : z ≠ 0 := by simpa using g27_2
 have hau : cauthE x.id x.secret s.cs = 0 := by unfold cauthE; simpa using h9
 refine .kn<|.seq ?_
 refine Tri.cut (X := (Nat × Seg) × (Nat × Seg)) (fun y => OS 5 1 encU (.slice (some ⟨y.1.1, 0, none⟩) 24 24) (List.replicate 24 0) y.1.2 ∧ OS 5 1 encU (.slice (some ⟨y.2.1, 0, none⟩) 24 24) (List.replicate 24 0) y.2.2) (fun y => [(0, v), (1, .slice pa la.length ka), (2, .slice pr lr.length kr), (7, .pointer (some ⟨q, 0, none⟩)), (8, vd), (13, .int .i64 (k : Nat)), (14, .pointer (some ⟨b14, 0, none⟩)), (15, .int .i64 z)]) (fun y => [[(b14, .cells (encO ⟨w.cr, w.vs, .slice (some ⟨y.1.1, 0, none⟩) 24 24, .slice (some ⟨y.2.1, 0, none⟩) 24 24⟩ x).toArray 34 (0, 0))], y.1.2, y.2.2, T, Td, Tm]) ?_ ?_
 refine .region_all [3, 5] mixed ?_
 refine RA.step2 0 1 rfl rfl (by kernel_rfl) rfl ?_ ?_
 refine .makeSlice (enc := encU) 24 (0 : UInt8) rfl rfl (by decide) (by decide) rfl rfl (by omega) (by omega) (fun bA TA hA => ?_)
 refine .nil (Next.sub ?_)
 refine .takeO 2 rfl (.fieldAddr rfl) (by kernel_rfl) ?_
 refine RA.step2 1 3 rfl rfl (by kernel_rfl) rfl ?_ ?_
 refine .makeSlice (enc := encU) 24 (0 : UInt8) rfl rfl (by decide) (by decide) rfl rfl (by omega) (by omega) (fun bB TB hB2 => ?_)
 refine .nil (Next.sub ?_)
 refine RA.step 3 rfl (by kernel_rfl) rfl ?_
 refine .store1 rfl rfl ?_
 refine .nil (Next.mod rfl ?_)
 refine .take 4 rfl (.fieldAddrA rfl) (by kernel_rfl) ?_
 refine RA.step 5 rfl (by kernel_rfl) rfl ?_
 refine .store1 rfl rfl ?_
 refine .nil (Next.mod rfl ?_)
 refine RA.nil (by kernel_rfl) ?_
 ·exact joinQ_n ((bA, TA), (bB, TB)) ⟨hA, hB2⟩ (EnvLe.k8 rfl rfl rfl rfl rfl rfl rfl rfl) (HLe.pick [6, 1, 0, 4, 4, 4] _)
 refine .store1 rfl rfl ?_
 refine .nil (Next.mod rfl ?_)
 refine RA.step 1 rfl (by kernel_rfl) rfl ?_
 refine .makeSlice (enc := encU) 24 (0 : UInt8) rfl rfl (by decide) (by decide) rfl rfl (by omega) (by omega) (fun bB TB hB2 => ?_)
 refine .nil (Next.mod rfl ?_)
 refine .take 4 rfl (.fieldAddrA rfl) (by kernel_rfl) ?_
 refine RA.step 5 rfl (by kernel_rfl) rfl ?_
 refine .store1 rfl rfl ?_
 refine .nil (Next.mod rfl ?_)
 refine RA.nil (by kernel_rfl) ?_
 ·exact joinQ_n ((bA, TA), (bB, TB)) ⟨hA, hB2⟩ (EnvLe.k8 rfl rfl rfl rfl rfl rfl rfl rfl) (HLe.pick [6, 1, 0, 4, 4, 4] _)
 refine .makeSlice (enc := encU) 24 (0 : UInt8) rfl rfl (by decide) (by decide) rfl rfl (by omega) (by omega) (fun bB TB hB2 => ?_)
 refine .nil (Next.sub ?_)
 refine RA.step 0 rfl (by kernel_rfl) rfl ?_
 refine .makeSlice (enc := encU) 24 (0 : UInt8) rfl rfl (by decide) (by decide) rfl rfl (by omega) (by omega) (fun bA TA hA => ?_)
 refine .nil (Next.sub ?_)
 refine .takeO 2 rfl (.fieldAddr rfl) (by kernel_rfl) ?_
 refine RA.step 3 rfl (by kernel_rfl) rfl ?_
 refine .store1 rfl rfl ?_
 refine .nil (Next.mod rfl ?_)
 refine .take 4 rfl (.fieldAddrA rfl) (by kernel_rfl) ?_
 refine RA.step 5 rfl (by kernel_rfl) rfl ?_
 refine .store1 rfl rfl ?_
 refine .nil (Next.mod rfl ?_)
 refine RA.nil (by kernel_rfl) ?_
 ·exact joinQ_n ((bA, TA), (bB, TB)) ⟨hA, hB2⟩ (EnvLe.k8 rfl rfl rfl rfl rfl rfl rfl rfl) (HLe.pick [6, 0, 0, 4, 4, 4] _)
 intro y hy
 obtain ⟨⟨bA, TA⟩, bB, TB⟩ := y
 obtain ⟨hA, hB2⟩ := hy
 simp only at hA hB2 ⊢
 have iA := hA.oneCell
 refine seqQ_n<|.sr<|.fa rfl<|.lo rfl<|.mo rfl ?_
 refine .copyO (lo := 0) (off := 0) (n := 24) (xs := List.replicate 24 (0 : UInt8)) hA hpa.rx rfl (by rw [List.length_take]; exact Nat.min_comm _ _) (by omega) (by rw [List.length_take]; omega) (by simp; omega) (by omega) rfl rfl (fun TA2 hA2 => ?_)
 obtain ⟨lA, hlA⟩ : ∃ lA, lA = (List.replicate 24 (0 : UInt8)).take 0 ++ la.take 24 ++ (List.replicate 24 (0 : UInt8)).drop (0 + (la.take 24).length) := ⟨_, rfl⟩
 have hlA24 : lA.length = 24 := by rw [hlA]; simp; omega
 rw [← hlA] at hA2
 clear hlA
 refine .z<|.fa rfl<|.lo rfl<|.mo rfl ?_
 refine .copyO (lo := 0) (off := 0) (n := 24) (xs := List.replicate 24 (0 : UInt8)) hB2 hpr.rx rfl (by rw [List.length_take]; exact Nat.min_comm _ _) (by omega) (by rw [List.length_take]; omega) (by simp; omega) (by omega) rfl rfl (fun TB2 hB3 => ?_)
 obtain ⟨lB, hlB⟩ : ∃ lB, lB = (List.replicate 24 (0 : UInt8)).take 0 ++ lr.take 24 ++ (List.replicate 24 (0 : UInt8)).drop (0 + (lr.take 24).length) := ⟨_, rfl⟩
 have hlB24 : lB.length = 24 := by rw [hlB]; simp; omega
 rw [← hlB] at hB3
 clear hlB
 have hrep := replay (s := s) hdo hf hz hau hlA24 hlB24
 refine .z<|.mo rfl<|.q (.loadA rfl) ?_
 refine .callW (odo_spec q s T hC (25 + k) hB (by omega) ⟨w.cr, w.vs, .slice (some ⟨bA, 0, none⟩) 24 24, .slice (some ⟨bB, 0, none⟩) 24 24⟩ { x with a := lA, r := lB } _ ⟨hdR.1.mono fun b o hb => .inr (by have hb' : (b, o) ∈ Tm := hb; simp [hb']), hdR.2.1.mono fun b o hb => .inr (by have hb' : (b, o) ∈ Tm := hb; simp [hb']), hA2.rs fun p hp => .inr (by simp [hp]), hB3.rs fun p hp => .inr (by simp [hp])⟩ (hg.mono fun b o hb => .inl hb)) (fun u T3 hu => ?_)
 obtain ⟨rfl, hC3⟩ := hu
 rw [hrep] at hC3 ⊢
 have hB4 := hB.step (OC.brief { x with a := lA, r := lB }) (by show (texts x.scopes 6 40).length ≤ 6; simp [texts]; omega)
 rw [hrep] at hB4
 obtain ⟨s3, hs3⟩ : ∃ s3, s3 = ({ s with V := s.V.filter fun p => !(p.2.family == z) } : OSt) := ⟨_, rfl⟩
 have hs3V : s3.V = s.V.filter fun p => !(p.2.family == z) := by rw [hs3]
 simp only at hC3 hB4
 rw [← hs3] at hC3 hB4
 have hU4 : UI s3 := fun p hp => hUI p (List.mem_filter.1 (hs3V ▸ hp)).1
 clear hs3 hrep
 obtain ⟨gc3, gb3, gv3, Tc3, Tb3, Tv3, hT3, hR3, hG3, hV3⟩ := id hC3
 have ps3 : PS T3 (.pointer (some ⟨q, 0, none⟩)) [.pointer (some ⟨gc3, 0, none⟩), .pointer (some ⟨gb3, 0, none⟩), .pointer (some ⟨gv3, 0, none⟩), .int .i64 s3.now] := PS.of (E := 63) (fr := (0, 0)) (by rw [hT3]; simp)
 refine .mo rfl<|.q .extract<|.q .extract<|.q .extract<|.ag rfl<|.ag rfl<|.ag rfl<|.zs<|.sr<|.mo rfl<|.q .neS<|.mo rfl ?_
 refine .split (t := 205) rfl (fun g32_2 => ?_) (fun g32_2 => ?_)
 ·simp at g32_2
 refine .gT g32_2<|.mo rfl<|.gT g32_2<|.q .neS<|.q (.pickFh g32_2) ?_
 refine .mo rfl ?_
 refine .split (t := 209) rfl (fun g32_6 => ?_) (fun g32_6 => ?_)
 ·simp at g32_6
 refine .gT g32_6<|.mo rfl<|.gT g32_6<|.q .neI<|.q (.pickFh g32_6) ?_
 refine .zn ?_
 refine .cond rfl (fun h10 => ?_) (fun h10 => ?_)
 ·exfalso
  simp at h10
 refine .kn<|.sr<|.mo rfl ?_
 refine .callR (ovault_spec q gc3 gv3 _ _ _) (fun u hu => ?_)
 subst hu
 refine .callN (vlist_spec gv3 s3.V s3.last Tv3 hV3 (by have := hB4.V; omega) _ (fun p hp => .inr (List.mem_flatten.2 ⟨T3, by simp, by rw [hT3]; simp [hp]⟩))) (fun w9 T9 hw9 => ?_)
 obtain ⟨qs, Xo, Xi, rfl, hX, hqs, hxperm, _⟩ := hw9
 have iw9 := hX.oneCell
 have hXl := hX.le
 refine .sub (HLe.ofPerm (H' := [Xo, Xi, [(b14, .cells (encO ⟨w.cr, w.vs, .slice (some ⟨bA, 0, none⟩) 24 24, .slice (some ⟨bB, 0, none⟩) 24 24⟩ x).toArray 34 (0, 0))], TA2, TB2, T3, Td, Tm]) (by simp)) ?_
 refine .ag rfl<|.z<|.ag rfl<|.zn<|.block ?_
 refine .loop (X := Nat) (fun j => j ≤ qs.length) (fun j => [(0, v), (1, .slice pa la.length ka), (2, .slice pr lr.length kr), (7, .pointer (some ⟨q, 0, none⟩)), (8, vd), (13, .int .i64 (k : Nat)), (15, .int .i64 z), (23, w9), (24, .int .i64 (j : Nat))]) (fun _ => [Xo, Xi, [(b14, .cells (encO ⟨w.cr, w.vs, .slice (some ⟨bA, 0, none⟩) 24 24, .slice (some ⟨bB, 0, none⟩) 24 24⟩ x).toArray 34 (0, 0))], TA2, TB2, T3, Td, Tm]) (fun j => qs.length - j) 0 (Nat.zero_le _) (EnvLe.k9 rfl rfl rfl rfl rfl rfl rfl rfl rfl) (HLe.refl _) ?_
 clear hj
 intro j hj
 refine .seq<|.sr<|.mo rfl<|.mo rfl<|.q (.lenO hX) ?_
 refine .q .lss<|.zn ?_
 refine .cond rfl (fun h11 => ?_) (fun h11 => ?_)
 have hlt5 : j < qs.length := by have := of_decide_eq_true h11; omega
 obtain ⟨y, hy⟩ : ∃ y, qs[j]? = some y := ⟨_, List.getElem?_eq_getElem hlt5⟩
 obtain ⟨wt, t⟩ := y
 have hym := List.mem_of_getElem? hy
 have it1 : Ones (encT (wt, t)) := ⟨(hqs _ hym).ones⟩
 have htV : (t.text, t) ∈ s3.V := hxperm.mem_iff.1 (List.mem_map.2 ⟨t, List.mem_map.2 ⟨_, hym, rfl⟩, rfl⟩)
 refine .kn<|.seq<|.block<|.sr<|.mo rfl<|.mo rfl ?_
 refine .indexO j hX hy (fun p224 => ?_)
 refine .fa rfl<|.lo rfl<|.mo rfl<|.q .eqI<|.zn ?_
 refine .cond rfl (fun h12 => ?_) (fun h12 => ?_)
 ·exfalso
  rw [hs3V] at htV
  have h13 := (List.mem_filter.1 htV).2
  simp at h13 h12
  exact h13 h12
 refine .skip<|blkQ_n<|seqQ_n<|.region<|.mo rfl ?_
 refine .q (.i64 ((j + 1 : Nat) : Int) .add ⟨by omega, by omega, by omega⟩) ?_
 refine .ag rfl<|.nil ?_
 ·exact loopQ_i (j + 1) hlt5 (by omega) (EnvLe.k9 rfl rfl rfl rfl rfl rfl rfl rfl rfl) (HLe.refl _)
 refine .exit<|seqQ_x<|loopQ_x<|blkQ_x<|blkQ_n<|seqQ_n<|.region<|.mo rfl ?_
 refine .q (.i64 ((k + 1 : Nat) : Int) .add ⟨by omega, by omega, by omega⟩) ?_
 refine .ag rfl<|.nil ?_
 ·exact loopQ_i (k + 1, s3, T3) ⟨hlt, hC3, hB4, hU4⟩ (by simp only; omega) (EnvLe.k6 rfl rfl rfl rfl rfl rfl) (HLe.pick [5, 5, 5] _)
 refine .exit<|seqQ_x<|loopQ_x<|blkQ_x<|seqQ_n<|.sr ?_
 refine .callR (olives_spec _) (fun u hu => ?_)
 subst hu
 refine .ag rfl<|.zn ?_
 refine .ret (retQ_r _ (.one (.tmp rfl)) (.none _) ?_)
 ·exact ⟨rfl, rfl⟩
 refine .gF g6_4<|.gF g6_4<|.q (.pickFh g6_4) ?_
 refine .zn<|.condF<|.exit<|seqQ_x<|loopQ_x<|blkQ_x<|seqQ_n<|.seq<|.sr<|.ag rfl<|.zn<|.block ?_
 refine .loop (X := Nat × OSt × Seg) (fun y => y.1 ≤ dn.length ∧ CIs q y.2.1 y.2.2 ∧ OB y.2.1 (25 + y.1) ∧ UI y.2.1) (fun y => [(0, v), (1, .slice pa la.length ka), (2, .slice pr lr.length kr), (7, .pointer (some ⟨q, 0, none⟩)), (8, vd), (13, .int .i64 (y.1 : Nat))]) (fun y => [y.2.2, Td, Tm]) (fun y => dn.length - y.1) (0, s, T) ⟨Nat.zero_le _, hC, hB.mono (by simp only; omega), hUI⟩ (EnvLe.k6 rfl rfl rfl rfl rfl rfl) (HLe.refl _) ?_
 clear hC hB hUI
 rintro ⟨k, s, T⟩ ⟨hk, hC, hB, hUI⟩
 simp only at hk hC hB hUI ⊢
 refine .seq<|.sr<|.mo rfl<|.mo rfl<|.q (.lenO hL) ?_
 refine .q .lss<|.zn ?_
 refine .cond rfl (fun h4 => ?_) (fun h4 => ?_)
 have hlt : k < dn.length := by have := of_decide_eq_true h4; omega
 obtain ⟨d, hd⟩ : ∃ d, dn[k]? = some d := ⟨_, List.getElem?_eq_getElem hlt⟩
 obtain ⟨w, x⟩ := d
 obtain ⟨hdo, hdR⟩ := hdn _ (List.mem_of_getElem? hd)
 simp only at hdo hdR
 have id1 : Ones (encO w x) := ⟨hdR.ones⟩
 obtain ⟨gc, gb, gv, Tc, Tb, Tv, hT, hR, hG, hV⟩ := id hC
 have ps2 : PS T (.pointer (some ⟨q, 0, none⟩)) [.pointer (some ⟨gc, 0, none⟩), .pointer (some ⟨gb, 0, none⟩), .pointer (some ⟨gv, 0, none⟩), .int .i64 s.now] := PS.of (E := 63) (fr := (0, 0)) (by rw [hT]; simp)
 have hinc : ∀ (R' : Rds) (H' : Segs), T ∈ H' → ∀ p ∈ Tc, Rx R' H' p.1 p.2 := fun R' H' hm p hp => .inr (List.mem_flatten.2 ⟨_, hm, by rw [hT]; simp [hp]⟩)
 have hinb : ∀ (R' : Rds) (H' : Segs), T ∈ H' → ∀ p ∈ Tb, Rx R' H' p.1 p.2 := fun R' H' hm p hp => .inr (List.mem_flatten.2 ⟨_, hm, by rw [hT]; simp [hp]⟩)
 have hinv : ∀ (R' : Rds) (H' : Segs), T ∈ H' → ∀ p ∈ Tv, Rx R' H' p.1 p.2 := fun R' H' hm p hp => .inr (List.mem_flatten.2 ⟨_, hm, by rw [hT]; simp [hp]⟩)
 have hAn := hG.nd
 have hVn := hV.nd
 refine .kn<|.seq<|.block<|.sr<|.mo rfl<|.mo rfl ?_
 refine .indexO k hL hd (fun p82 => ?_)
 refine .q (.loadA rfl) ?_
 refine .allocA (fun b14 => ?_)
 refine .storeA (cs := encO w x) rfl rfl ?_
 refine .z<|.ag rfl<|.z<|.mo rfl ?_
 refine .callR (obook_spec q gc gb _ _ _) (fun u hu => ?_)
 subst hu
 refine .callN (gcodes_spec gb s.C s.A Tb hG (by have := hB.A; omega) _ (hinb _ _ (by simp))) (fun w6 T6 hw6 => ?_)
 obtain ⟨cs, Uo, Ui, rfl, hU, hcs, hcperm, _⟩ := hw6
 have iw6 := hU.oneCell
 have hUl := hU.le
 refine .mo rfl ?_
 refine .callR (ovault_spec q gc gv _ _ _) (fun u hu => ?_)
 subst hu
 refine .callN (vlist_spec gv s.V s.last Tv hV (by have := hB.V; omega) _ (hinv _ _ (by simp))) (fun w5 T5 hw5 => ?_)
 obtain ⟨ps, To, Ti, rfl, hO, hps, hperm, _⟩ := hw5
 have iw5 := hO.oneCell
 have hOl := hO.le
 refine .sub (HLe.ofPerm (H' := [To, Ti, Uo, Ui, [(b14, .cells (encO w x).toArray 34 (0, 0))], T, Td, Tm]) (by simp [setL, encO])) ?_
 refine .ag rfl<|.ag rfl<|.zs<|.sr<|.ag rfl<|.zn<|.block ?_
 refine .loop (X := Nat × Int) (fun y => y.1 ≤ cs.length ∧ ((x.kind = 6 ∧ ∃ c, pUsed s.A x.text x.id = some c ∧ y.2 = c.family) ∨ y.2 = 0)) (fun y => [(0, v), (1, .slice pa la.length ka), (2, .slice pr lr.length kr), (7, .pointer (some ⟨q, 0, none⟩)), (8, vd), (13, .int .i64 (k : Nat)), (14, .pointer (some ⟨b14, 0, none⟩)), (15, .int .i64 y.2), (16, w6), (17, w5), (18, .int .i64 (y.1 : Nat))]) (fun _ => [To, Ti, Uo, Ui, [(b14, .cells (encO w x).toArray 34 (0, 0))], T, Td, Tm]) (fun y => cs.length - y.1) (0, 0) ⟨Nat.zero_le _, .inr rfl⟩ (EnvLe.k11 rfl rfl rfl rfl rfl rfl rfl rfl rfl rfl rfl) (HLe.refl _) ?_
 rintro ⟨j, z⟩ ⟨hj, hf⟩
 simp only at hj hf ⊢
 refine .seq<|.sr<|.mo rfl<|.mo rfl<|.q (.lenO hU) ?_
 refine .q .lss<|.zn ?_
 refine .cond rfl (fun h5 => ?_) (fun h5 => ?_)
 have hlt5 : j < cs.length := by have := of_decide_eq_true h5; omega
 obtain ⟨y, hy⟩ : ∃ y, cs[j]? = some y := ⟨_, List.getElem?_eq_getElem hlt5⟩
 obtain ⟨wt, t⟩ := y
 have hym := List.mem_of_getElem? hy
 have it1 : Ones (encG (wt, t)) := ⟨(hcs _ hym).ones⟩
 have htA : (t.text, t) ∈ s.A := hcperm.mem_iff.1 (List.mem_map.2 ⟨t, List.mem_map.2 ⟨_, hym, rfl⟩, rfl⟩)
 refine .kn<|.seq<|.block<|.seq ?_
 refine .region_still mixed (by kernel_rfl) ?_
 refine .fa rfl<|.lo rfl<|.q .eqI<|.mo rfl ?_
 refine .split (t := 99) rfl (fun g20_3 => ?_) (fun g20_3 => ?_)
 refine .gT g20_3<|.mo rfl<|.gT g20_3<|.mo rfl<|.gT g20_3 ?_
 refine .indexO j hU hy (fun p102 => ?_)
 refine .gT g20_3<|.fa rfl<|.gT g20_3<|.lo rfl<|.gT g20_3<|.fa rfl<|.gT g20_3<|.lo rfl<|.gT g20_3<|.q .eqS<|.q (.pickTh g20_3) ?_
 refine .mo rfl ?_
 refine .split (t := 109) rfl (fun g20_13 => ?_) (fun g20_13 => ?_)
 refine .gT g20_13<|.mo rfl<|.gT g20_13<|.mo rfl<|.gT g20_13 ?_
 refine .indexO j hU hy (fun p112 => ?_)
 refine .gT g20_13<|.fa rfl<|.gT g20_13<|.lo rfl<|.gT g20_13<|.fa rfl<|.gT g20_13<|.lo rfl<|.gT g20_13<|.q .eqS<|.q (.pickTh g20_13) ?_
 refine .mo rfl ?_
 refine .split (t := 119) rfl (fun g20_23 => ?_) (fun g20_23 => ?_)
 refine .gT g20_23<|.mo rfl<|.gT g20_23<|.mo rfl<|.gT g20_23 ?_
 refine .indexO j hU hy (fun p122 => ?_)
 refine .gT g20_23<|.fa rfl<|.gT g20_23<|.lo rfl<|.q (.pickTh g20_23) ?_
 refine .zn ?_
 refine .cond rfl (fun h6 => ?_) (fun h6 => ?_)
 have hhit : (x.kind = 6 ∧ ∃ c, pUsed s.A x.text x.id = some c ∧ t.family = c.family) := by
  have e1 : t.text = x.text := by simpa using g20_13
  have e2 : t.client = x.id := by simpa using g20_23
  refine ⟨by have h9 := g20_3; simp only [beq_iff_eq] at h9; exact h9, t, ?_, rfl⟩
  unfold pUsed
  rw [show mget x.text s.A = some t from mget_of_mem hAn (by rw [← e1]; exact htA), Option.filter_some, if_pos (by have h9 : t.used = true := h6; simp [e2, h9])]
 refine .region<|.mo rfl<|.mo rfl ?_
 refine .indexO j hU hy (fun p128 => ?_)
 refine .fa rfl<|.lo rfl<|.ag rfl<|.nil<|blkQ_n<|seqQ_n<|.region<|.mo rfl ?_
 refine .q (.i64 ((j + 1 : Nat) : Int) .add ⟨by omega, by omega, by omega⟩) ?_
 refine .ag rfl<|.nil ?_
 ·exact loopQ_i (j + 1, t.family) ⟨hlt5, .inl hhit⟩ (by simp only; omega) (EnvLe.k11 rfl rfl rfl rfl rfl rfl rfl rfl rfl rfl rfl) (HLe.refl _)
 refine .skip<|blkQ_n<|seqQ_n<|.region<|.mo rfl ?_
 refine .q (.i64 ((j + 1 : Nat) : Int) .add ⟨by omega, by omega, by omega⟩) ?_
 refine .ag rfl<|.nil ?_
 ·exact loopQ_i (j + 1, z) ⟨hlt5, hf⟩ (by simp only; omega) (EnvLe.k11 rfl rfl rfl rfl rfl rfl rfl rfl rfl rfl rfl) (HLe.refl _)
 refine .gF g20_23<|.gF g20_23<|.gF g20_23<|.gF g20_23<|.gF g20_23<|.q (.pickFh g20_23) ?_
 refine .zn<|.condF<|.skip<|blkQ_n<|seqQ_n<|.region<|.mo rfl ?_
 refine .q (.i64 ((j + 1 : Nat) : Int) .add ⟨by omega, by omega, by omega⟩) ?_
 refine .ag rfl<|.nil ?_
 ·exact loopQ_i (j + 1, z) ⟨hlt5, hf⟩ (by simp only; omega) (EnvLe.k11 rfl rfl rfl rfl rfl rfl rfl rfl rfl rfl rfl) (HLe.refl _)
 refine .gF g20_13<|.gF g20_13<|.gF g20_13<|.gF g20_13<|.gF g20_13<|.gF g20_13<|.gF g20_13<|.gF g20_13<|.q (.pickFh g20_13) ?_
 refine .mo rfl<|.gf rfl rfl<|.gf rfl rfl<|.gf rfl rfl<|.gf rfl rfl<|.gf rfl rfl<|.q .pickF<|.zn<|.condF<|.skip<|blkQ_n<|seqQ_n<|.region<|.mo rfl ?_
 refine .q (.i64 ((j + 1 : Nat) : Int) .add ⟨by omega, by omega, by omega⟩) ?_
 refine .ag rfl<|.nil ?_
 ·exact loopQ_i (j + 1, z) ⟨hlt5, hf⟩ (by simp only; omega) (EnvLe.k11 rfl rfl rfl rfl rfl rfl rfl rfl rfl rfl rfl) (HLe.refl _)
 refine .gF g20_3<|.gF g20_3<|.gF g20_3<|.gF g20_3<|.gF g20_3<|.gF g20_3<|.gF g20_3<|.gF g20_3<|.q (.pickFh g20_3) ?_
 refine .mo rfl<|.gf rfl rfl<|.gf rfl rfl<|.gf rfl rfl<|.gf rfl rfl<|.gf rfl rfl<|.gf rfl rfl<|.gf rfl rfl<|.gf rfl rfl<|.q .pickF<|.mo rfl<|.gf rfl rfl<|.gf rfl rfl<|.gf rfl rfl<|.gf rfl rfl<|.gf rfl rfl<|.q .pickF<|.zn<|.condF<|.skip<|blkQ_n<|seqQ_n<|.region<|.mo rfl ?_
 refine .q (.i64 ((j + 1 : Nat) : Int) .add ⟨by omega, by omega, by omega⟩) ?_
 refine .ag rfl<|.nil ?_
 ·exact loopQ_i (j + 1, z) ⟨hlt5, hf⟩ (by simp only; omega) (EnvLe.k11 rfl rfl rfl rfl rfl rfl rfl rfl rfl rfl rfl) (HLe.refl _)
 refine .exit<|seqQ_x<|loopQ_x<|blkQ_x<|seqQ_n<|.seq<|.sr<|.ag rfl<|.zn<|.block ?_
 refine .loop (X := Nat × Int) (fun y => y.1 ≤ ps.length ∧ Fam s.A s.V x y.2) (fun y => [(0, v), (1, .slice pa la.length ka), (2, .slice pr lr.length kr), (7, .pointer (some ⟨q, 0, none⟩)), (8, vd), (13, .int .i64 (k : Nat)), (14, .pointer (some ⟨b14, 0, none⟩)), (15, .int .i64 y.2), (17, w5), (19, .int .i64 (y.1 : Nat))]) (fun _ => [To, Ti, Uo, Ui, [(b14, .cells (encO w x).toArray 34 (0, 0))], T, Td, Tm]) (fun y => ps.length - y.1) (0, z) ⟨Nat.zero_le _, hf.imp (fun h => h) .inr⟩ (EnvLe.k10 rfl rfl rfl rfl rfl rfl rfl rfl rfl rfl) (HLe.refl _) ?_
 clear hf hj
 rintro ⟨j, z⟩ ⟨hj, hf⟩
 simp only at hj hf ⊢
 refine .seq<|.sr<|.mo rfl<|.mo rfl<|.q (.lenO hO) ?_
 refine .q .lss<|.zn ?_
 refine .cond rfl (fun h7 => ?_) (fun h7 => ?_)
 have hlt5 : j < ps.length := by have := of_decide_eq_true h7; omega
 obtain ⟨y, hy⟩ : ∃ y, ps[j]? = some y := ⟨_, List.getElem?_eq_getElem hlt5⟩
 obtain ⟨wt, t⟩ := y
 have hym := List.mem_of_getElem? hy
 have it1 : Ones (encT (wt, t)) := ⟨(hps _ hym).ones⟩
 have htV : (t.text, t) ∈ s.V := hperm.mem_iff.1 (List.mem_map.2 ⟨t, List.mem_map.2 ⟨_, hym, rfl⟩, rfl⟩)
 refine .kn<|.seq<|.block<|.seq ?_
 refine .region_still mixed (by kernel_rfl) ?_
 refine .fa rfl<|.lo rfl<|.q .eqI<|.mo rfl ?_
 refine .split (t := 140) rfl (fun g25_3 => ?_) (fun g25_3 => ?_)
 refine .gT g25_3<|.mo rfl<|.gT g25_3<|.mo rfl<|.gT g25_3 ?_
 refine .indexO j hO hy (fun p143 => ?_)
 refine .gT g25_3<|.fa rfl<|.gT g25_3<|.lo rfl<|.gT g25_3<|.fa rfl<|.gT g25_3<|.lo rfl<|.gT g25_3<|.q .eqS<|.q (.pickTh g25_3) ?_
 refine .mo rfl ?_
 refine .split (t := 150) rfl (fun g25_13 => ?_) (fun g25_13 => ?_)
 refine .gT g25_13<|.mo rfl<|.gT g25_13<|.mo rfl<|.gT g25_13 ?_
 refine .indexO j hO hy (fun p153 => ?_)
 refine .gT g25_13<|.fa rfl<|.gT g25_13<|.lo rfl<|.gT g25_13<|.fa rfl<|.gT g25_13<|.lo rfl<|.gT g25_13<|.q .eqS<|.q (.pickTh g25_13) ?_
 refine .mo rfl ?_
 refine .split (t := 160) rfl (fun g25_23 => ?_) (fun g25_23 => ?_)
 refine .gT g25_23<|.mo rfl<|.gT g25_23<|.mo rfl<|.gT g25_23 ?_
 refine .indexO j hO hy (fun p163 => ?_)
 refine .gT g25_23<|.fa rfl<|.gT g25_23<|.lo rfl<|.q (.pickTh g25_23) ?_
 refine .zn ?_
 refine .cond rfl (fun h8 => ?_) (fun h8 => ?_)
 have hhit : Fam s.A s.V x t.family := by
  have e1 : t.text = x.text := by simpa using g25_13
  have e2 : t.client = x.id := by simpa using g25_23
  have e0 : x.kind = 7 := by have h9 := g25_3; simp only [beq_iff_eq] at h9; exact h9
  have hu : t.used = true := h8
  exact .inr (.inl ⟨e0, t, pOwn_of (mget_of_mem hVn (by rw [← e1]; exact htV)) (hUI _ htV hu) e2, hu, rfl⟩)
 refine .region<|.mo rfl<|.mo rfl ?_
 refine .indexO j hO hy (fun p169 => ?_)
 refine .fa rfl<|.lo rfl<|.ag rfl<|.nil<|blkQ_n<|seqQ_n<|.region<|.mo rfl ?_
 refine .q (.i64 ((j + 1 : Nat) : Int) .add ⟨by omega, by omega, by omega⟩) ?_
 refine .ag rfl<|.nil ?_
 ·exact loopQ_i (j + 1, t.family) ⟨hlt5, hhit⟩ (by simp only; omega) (EnvLe.k10 rfl rfl rfl rfl rfl rfl rfl rfl rfl rfl) (HLe.refl _)
 refine .skip<|blkQ_n<|seqQ_n<|.region<|.mo rfl ?_
 refine .q (.i64 ((j + 1 : Nat) : Int) .add ⟨by omega, by omega, by omega⟩) ?_
 refine .ag rfl<|.nil ?_
 ·exact loopQ_i (j + 1, z) ⟨hlt5, hf⟩ (by simp only; omega) (EnvLe.k10 rfl rfl rfl rfl rfl rfl rfl rfl rfl rfl) (HLe.refl _)
 refine .gF g25_23<|.gF g25_23<|.gF g25_23<|.gF g25_23<|.gF g25_23<|.q (.pickFh g25_23) ?_
 refine .zn<|.condF<|.skip<|blkQ_n<|seqQ_n<|.region<|.mo rfl ?_
 refine .q (.i64 ((j + 1 : Nat) : Int) .add ⟨by omega, by omega, by omega⟩) ?_
 refine .ag rfl<|.nil ?_
 ·exact loopQ_i (j + 1, z) ⟨hlt5, hf⟩ (by simp only; omega) (EnvLe.k10 rfl rfl rfl rfl rfl rfl rfl rfl rfl rfl) (HLe.refl _)
 refine .gF g25_13<|.gF g25_13<|.gF g25_13<|.gF g25_13<|.gF g25_13<|.gF g25_13<|.gF g25_13<|.gF g25_13<|.q (.pickFh g25_13) ?_
 refine .mo rfl<|.gf rfl rfl<|.gf rfl rfl<|.gf rfl rfl<|.gf rfl rfl<|.gf rfl rfl<|.q .pickF<|.zn<|.condF<|.skip<|blkQ_n<|seqQ_n<|.region<|.mo rfl ?_
 refine .q (.i64 ((j + 1 : Nat) : Int) .add ⟨by omega, by omega, by omega⟩) ?_
 refine .ag rfl<|.nil ?_
 ·exact loopQ_i (j + 1, z) ⟨hlt5, hf⟩ (by simp only; omega) (EnvLe.k10 rfl rfl rfl rfl rfl rfl rfl rfl rfl rfl) (HLe.refl _)
 refine .gF g25_3<|.gF g25_3<|.gF g25_3<|.gF g25_3<|.gF g25_3<|.gF g25_3<|.gF g25_3<|.gF g25_3<|.q (.pickFh g25_3) ?_
 refine .mo rfl<|.gf rfl rfl<|.gf rfl rfl<|.gf rfl rfl<|.gf rfl rfl<|.gf rfl rfl<|.gf rfl rfl<|.gf rfl rfl<|.gf rfl rfl<|.q .pickF<|.mo rfl<|.gf rfl rfl<|.gf rfl rfl<|.gf rfl rfl<|.gf rfl rfl<|.gf rfl rfl<|.q .pickF<|.zn<|.condF<|.skip<|blkQ_n<|seqQ_n<|.region<|.mo rfl ?_
 refine .q (.i64 ((j + 1 : Nat) : Int) .add ⟨by omega, by omega, by omega⟩) ?_
 refine .ag rfl<|.nil ?_
 ·exact loopQ_i (j + 1, z) ⟨hlt5, hf⟩ (by simp only; omega) (EnvLe.k10 rfl rfl rfl rfl rfl rfl rfl rfl rfl rfl) (HLe.refl _)
 refine .exit<|seqQ_x<|loopQ_x<|blkQ_x<|seqQ_n<|.seq<|.seq<|.region_all [] mixed ?_
 refine .takeO 0 rfl .move (by kernel_rfl)<|.takeO 1 rfl .eqI (by kernel_rfl)<|.takeO 2 rfl .move (by kernel_rfl) ?_
 refine RA.split (t := 174) rfl (fun g27_2 => ?_) (fun g27_2 => ?_)
 refine .takeFh 3 rfl rfl g27_2 rfl (by kernel_rfl) ?_
 refine .takeFh 5 rfl rfl g27_2 rfl (by kernel_rfl) ?_
 refine .takeFh 6 rfl rfl g27_2 rfl (by kernel_rfl) ?_
 refine .takeFh 7 rfl rfl g27_2 rfl (by kernel_rfl) ?_
 refine .takeFh 8 rfl rfl g27_2 rfl (by kernel_rfl) ?_
 refine RA.step 4 rfl (by kernel_rfl) rfl ?_
 refine .gF g27_2 ?_
 refine .nil (Next.sub ?_)
 refine RA.step 9 rfl (by kernel_rfl) rfl ?_
 refine .gF g27_2 ?_
 refine .nil (Next.sub ?_)
 refine .takeFh 10 rfl rfl g27_2 rfl (by kernel_rfl) ?_
 refine .takeO 11 rfl (.pickTh g27_2) (by kernel_rfl) ?_
 refine RA.nil (by kernel_rfl) ?_
 refine seqQ_n<|.condT<|.exit<|seqQ_x<|blkQ_x<|seqQ_n<|.region<|.mo rfl ?_
 refine .q (.i64 ((k + 1 : Nat) : Int) .add ⟨by omega, by omega, by omega⟩) ?_
 refine .ag rfl<|.nil ?_
 ·exact loopQ_i (k + 1, s, T) ⟨hlt, hC, hB.up, hUI⟩ (by simp only; omega) (EnvLe.k6 rfl rfl rfl rfl rfl rfl) (HLe.pick [5, 5, 5] _)
 refine .takeGhO 3 rfl rfl g27_2 .move (by kernel_rfl) ?_
 refine .takeGhO 5 rfl rfl g27_2 (.fieldAddr rfl) (by kernel_rfl) ?_
 refine .takeGhO 6 rfl rfl g27_2 (.load1 rfl) (by kernel_rfl) ?_
 refine .takeGhO 7 rfl rfl g27_2 (.fieldAddr rfl) (by kernel_rfl) ?_
 refine .takeGhO 8 rfl rfl g27_2 (.load1 rfl) (by kernel_rfl) ?_
 refine RA.step 4 rfl (by kernel_rfl) rfl ?_
 refine .gT g27_2 ?_
 refine .callR (oclients_spec q gc _ _ _ _) (fun u hu => ?_)
 subst hu
 refine .nil (Next.sub ?_)
 refine RA.step 9 rfl (by kernel_rfl) rfl ?_
 refine .gT g27_2 ?_
 refine .callR (cauth_spec gc s.cs Tc hR x.id x.secret _ (hinc _ _ (by simp))) (fun u hu => ?_)
 subst hu
 refine .nil (Next.sub ?_)
 refine .takeGhO 10 rfl rfl g27_2 .neI (by kernel_rfl) ?_
 refine .takeO 11 rfl (.pickFh g27_2) (by kernel_rfl) ?_
 refine RA.nil (by kernel_rfl) ?_
 refine seqQ_n ?_
 refine .cond rfl (fun h9 => ?_) (fun h9 => ?_)
 refine .exit<|seqQ_x<|blkQ_x<|seqQ_n<|.region<|.mo rfl ?_
 refine .q (.i64 ((k + 1 : Nat) : Int) .add ⟨by omega, by omega, by omega⟩) ?_
 refine .ag rfl<|.nil ?_
 ·exact loopQ_i (k + 1, s, T) ⟨hlt, hC, hB.up, hUI⟩ (by simp only; omega) (EnvLe.k6 rfl rfl rfl rfl rfl rfl) (HLe.pick [5, 5, 5] _)
 have hz : z ≠ 0 := by simpa using g27_2
 have hau : cauthE x.id x.secret s.cs = 0 := by unfold cauthE; simpa using h9
 refine .kn<|.seq ?_
 refine Tri.cut (X := (Nat × Seg) × (Nat × Seg)) (fun y => OS 5 1 encU (.slice (some ⟨y.1.1, 0, none⟩) 24 24) (List.replicate 24 0) y.1.2 ∧ OS 5 1 encU (.slice (some ⟨y.2.1, 0, none⟩) 24 24) (List.replicate 24 0) y.2.2) (fun y => [(0, v), (1, .slice pa la.length ka), (2, .slice pr lr.length kr), (7, .pointer (some ⟨q, 0, none⟩)), (8, vd), (13, .int .i64 (k : Nat)), (14, .pointer (some ⟨b14, 0, none⟩)), (15, .int .i64 z)]) (fun y => [[(b14, .cells (encO ⟨w.cr, w.vs, .slice (some ⟨y.1.1, 0, none⟩) 24 24, .slice (some ⟨y.2.1, 0, none⟩) 24 24⟩ x).toArray 34 (0, 0))], y.1.2, y.2.2, T, Td, Tm]) ?_ ?_
 refine .region_all [3, 5] mixed ?_
 refine RA.step2 0 1 rfl rfl (by kernel_rfl) rfl ?_ ?_
 refine .makeSlice (enc := encU) 24 (0 : UInt8) rfl rfl (by decide) (by decide) rfl rfl (by omega) (by omega) (fun bA TA hA => ?_)
 refine .nil (Next.sub ?_)
 refine .takeO 2 rfl (.fieldAddr rfl) (by kernel_rfl) ?_
 refine RA.step2 1 3 rfl rfl (by kernel_rfl) rfl ?_ ?_
 refine .makeSlice (enc := encU) 24 (0 : UInt8) rfl rfl (by decide) (by decide) rfl rfl (by omega) (by omega) (fun bB TB hB2 => ?_)
 refine .nil (Next.sub ?_)
 refine RA.step 3 rfl (by kernel_rfl) rfl ?_
 refine .store1 rfl rfl ?_
 refine .nil (Next.mod rfl ?_)
 refine .take 4 rfl (.fieldAddrA rfl) (by kernel_rfl) ?_
 refine RA.step 5 rfl (by kernel_rfl) rfl ?_
 refine .store1 rfl rfl ?_
 refine .nil (Next.mod rfl ?_)
 refine RA.nil (by kernel_rfl) ?_
 ·exact joinQ_n ((bA, TA), (bB, TB)) ⟨hA, hB2⟩ (EnvLe.k8 rfl rfl rfl rfl rfl rfl rfl rfl) (HLe.pick [6, 1, 0, 4, 4, 4] _)
 refine .store1 rfl rfl ?_
 refine .nil (Next.mod rfl ?_)
 refine RA.step 1 rfl (by kernel_rfl) rfl ?_
 refine .makeSlice (enc := encU) 24 (0 : UInt8) rfl rfl (by decide) (by decide) rfl rfl (by omega) (by omega) (fun bB TB hB2 => ?_)
 refine .nil (Next.mod rfl ?_)
 refine .take 4 rfl (.fieldAddrA rfl) (by kernel_rfl) ?_
 refine RA.step 5 rfl (by kernel_rfl) rfl ?_
 refine .store1 rfl rfl ?_
 refine .nil (Next.mod rfl ?_)
 refine RA.nil (by kernel_rfl) ?_
 ·exact joinQ_n ((bA, TA), (bB, TB)) ⟨hA, hB2⟩ (EnvLe.k8 rfl rfl rfl rfl rfl rfl rfl rfl) (HLe.pick [6, 1, 0, 4, 4, 4] _)
 refine .makeSlice (enc := encU) 24 (0 : UInt8) rfl rfl (by decide) (by decide) rfl rfl (by omega) (by omega) (fun bB TB hB2 => ?_)
 refine .nil (Next.sub ?_)
 refine RA.step 0 rfl (by kernel_rfl) rfl ?_
 refine .makeSlice (enc := encU) 24 (0 : UInt8) rfl rfl (by decide) (by decide) rfl rfl (by omega) (by omega) (fun bA TA hA => ?_)
 refine .nil (Next.sub ?_)
 refine .takeO 2 rfl (.fieldAddr rfl) (by kernel_rfl) ?_
 refine RA.step 3 rfl (by kernel_rfl) rfl ?_
 refine .store1 rfl rfl ?_
 refine .nil (Next.mod rfl ?_)
 refine .take 4 rfl (.fieldAddrA rfl) (by kernel_rfl) ?_
 refine RA.step 5 rfl (by kernel_rfl) rfl ?_
 refine .store1 rfl rfl ?_
 refine .nil (Next.mod rfl ?_)
 refine RA.nil (by kernel_rfl) ?_
 ·exact joinQ_n ((bA, TA), (bB, TB)) ⟨hA, hB2⟩ (EnvLe.k8 rfl rfl rfl rfl rfl rfl rfl rfl) (HLe.pick [6, 0, 0, 4, 4, 4] _)
 intro y hy
 obtain ⟨⟨bA, TA⟩, bB, TB⟩ := y
 obtain ⟨hA, hB2⟩ := hy
 simp only at hA hB2 ⊢
 have iA := hA.oneCell
 refine seqQ_n<|.sr<|.fa rfl<|.lo rfl<|.mo rfl ?_
 refine .copyO (lo := 0) (off := 0) (n := 24) (xs := List.replicate 24 (0 : UInt8)) hA hpa.rx rfl (by rw [List.length_take]; exact Nat.min_comm _ _) (by omega) (by rw [List.length_take]; omega) (by simp; omega) (by omega) rfl rfl (fun TA2 hA2 => ?_)
 obtain ⟨lA, hlA⟩ : ∃ lA, lA = (List.replicate 24 (0 : UInt8)).take 0 ++ la.take 24 ++ (List.replicate 24 (0 : UInt8)).drop (0 + (la.take 24).length) := ⟨_, rfl⟩
 have hlA24 : lA.length = 24 := by rw [hlA]; simp; omega
 rw [← hlA] at hA2
 clear hlA
 refine .z<|.fa rfl<|.lo rfl<|.mo rfl ?_
 refine .copyO (lo := 0) (off := 0) (n := 24) (xs := List.replicate 24 (0 : UInt8)) hB2 hpr.rx rfl (by rw [List.length_take]; exact Nat.min_comm _ _) (by omega) (by rw [List.length_take]; omega) (by simp; omega) (by omega) rfl rfl (fun TB2 hB3 => ?_)
 obtain ⟨lB, hlB⟩ : ∃ lB, lB = (List.replicate 24 (0 : UInt8)).take 0 ++ lr.take 24 ++ (List.replicate 24 (0 : UInt8)).drop (0 + (lr.take 24).length) := ⟨_, rfl⟩
 have hlB24 : lB.length = 24 := by rw [hlB]; simp; omega
 rw [← hlB] at hB3
 clear hlB
 have hrep := replay (s := s) hdo hf hz hau hlA24 hlB24
 refine .z<|.mo rfl<|.q (.loadA rfl) ?_
 refine .callW (odo_spec q s T hC (25 + k) hB (by omega) ⟨w.cr, w.vs, .slice (some ⟨bA, 0, none⟩) 24 24, .slice (some ⟨bB, 0, none⟩) 24 24⟩ { x with a := lA, r := lB } _ ⟨hdR.1.mono fun b o hb => .inr (by have hb' : (b, o) ∈ Tm := hb; simp [hb']), hdR.2.1.mono fun b o hb => .inr (by have hb' : (b, o) ∈ Tm := hb; simp [hb']), hA2.rs fun p hp => .inr (by simp [hp]), hB3.rs fun p hp => .inr (by simp [hp])⟩ (hg.mono fun b o hb => .inl hb)) (fun u T3 hu => ?_)
 obtain ⟨rfl, hC3⟩ := hu
 rw [hrep] at hC3 ⊢
 have hB4 := hB.step (OC.brief { x with a := lA, r := lB }) (by show (texts x.scopes 6 40).length ≤ 6; simp [texts]; omega)
 rw [hrep] at hB4
 obtain ⟨s3, hs3⟩ : ∃ s3, s3 = ({ s with V := s.V.filter fun p => !(p.2.family == z) } : OSt) := ⟨_, rfl⟩
 have hs3V : s3.V = s.V.filter fun p => !(p.2.family == z) := by rw [hs3]
 simp only at hC3 hB4
 rw [← hs3] at hC3 hB4
 have hU4 : UI s3 := fun p hp => hUI p (List.mem_filter.1 (hs3V ▸ hp)).1
 clear hs3 hrep
 obtain ⟨gc3, gb3, gv3, Tc3, Tb3, Tv3, hT3, hR3, hG3, hV3⟩ := id hC3
 have ps3 : PS T3 (.pointer (some ⟨q, 0, none⟩)) [.pointer (some ⟨gc3, 0, none⟩), .pointer (some ⟨gb3, 0, none⟩), .pointer (some ⟨gv3, 0, none⟩), .int .i64 s3.now] := PS.of (E := 63) (fr := (0, 0)) (by rw [hT3]; simp)
 refine .mo rfl<|.q .extract<|.q .extract<|.q .extract<|.ag rfl<|.ag rfl<|.ag rfl<|.zs<|.sr<|.mo rfl<|.q .neS<|.mo rfl ?_
 refine .split (t := 205) rfl (fun g32_2 => ?_) (fun g32_2 => ?_)
 ·simp at g32_2
 refine .gT g32_2<|.mo rfl<|.gT g32_2<|.q .neS<|.q (.pickFh g32_2) ?_
 refine .mo rfl ?_
 refine .split (t := 209) rfl (fun g32_6 => ?_) (fun g32_6 => ?_)
 ·simp at g32_6
 refine .gT g32_6<|.mo rfl<|.gT g32_6<|.q .neI<|.q (.pickFh g32_6) ?_
 refine .zn ?_
 refine .cond rfl (fun h10 => ?_) (fun h10 => ?_)
 ·exfalso
  simp at h10
 refine .kn<|.sr<|.mo rfl ?_
 refine .callR (ovault_spec q gc3 gv3 _ _ _) (fun u hu => ?_)
 subst hu
 refine .callN (vlist_spec gv3 s3.V s3.last Tv3 hV3 (by have := hB4.V; omega) _ (fun p hp => .inr (List.mem_flatten.2 ⟨T3, by simp, by rw [hT3]; simp [hp]⟩))) (fun w9 T9 hw9 => ?_)
 obtain ⟨qs, Xo, Xi, rfl, hX, hqs, hxperm, _⟩ := hw9
 have iw9 := hX.oneCell
 have hXl := hX.le
 refine .sub (HLe.ofPerm (H' := [Xo, Xi, [(b14, .cells (encO ⟨w.cr, w.vs, .slice (some ⟨bA, 0, none⟩) 24 24, .slice (some ⟨bB, 0, none⟩) 24 24⟩ x).toArray 34 (0, 0))], TA2, TB2, T3, Td, Tm]) (by simp)) ?_
 refine .ag rfl<|.z<|.ag rfl<|.zn<|.block ?_
 refine .loop (X := Nat) (fun j => j ≤ qs.length) (fun j => [(0, v), (1, .slice pa la.length ka), (2, .slice pr lr.length kr), (7, .pointer (some ⟨q, 0, none⟩)), (8, vd), (13, .int .i64 (k : Nat)), (15, .int .i64 z), (23, w9), (24, .int .i64 (j : Nat))]) (fun _ => [Xo, Xi, [(b14, .cells (encO ⟨w.cr, w.vs, .slice (some ⟨bA, 0, none⟩) 24 24, .slice (some ⟨bB, 0, none⟩) 24 24⟩ x).toArray 34 (0, 0))], TA2, TB2, T3, Td, Tm]) (fun j => qs.length - j) 0 (Nat.zero_le _) (EnvLe.k9 rfl rfl rfl rfl rfl rfl rfl rfl rfl) (HLe.refl _) ?_
 clear hj
 intro j hj
 refine .seq<|.sr<|.mo rfl<|.mo rfl<|.q (.lenO hX) ?_
 refine .q .lss<|.zn ?_
 refine .cond rfl (fun h11 => ?_) (fun h11 => ?_)
 have hlt5 : j < qs.length := by have := of_decide_eq_true h11; omega
 obtain ⟨y, hy⟩ : ∃ y, qs[j]? = some y := ⟨_, List.getElem?_eq_getElem hlt5⟩
 obtain ⟨wt, t⟩ := y
 have hym := List.mem_of_getElem? hy
 have it1 : Ones (encT (wt, t)) := ⟨(hqs _ hym).ones⟩
 have htV : (t.text, t) ∈ s3.V := hxperm.mem_iff.1 (List.mem_map.2 ⟨t, List.mem_map.2 ⟨_, hym, rfl⟩, rfl⟩)
 refine .kn<|.seq<|.block<|.sr<|.mo rfl<|.mo rfl ?_
 refine .indexO j hX hy (fun p224 => ?_)
 refine .fa rfl<|.lo rfl<|.mo rfl<|.q .eqI<|.zn ?_
 refine .cond rfl (fun h12 => ?_) (fun h12 => ?_)
 ·exfalso
  rw [hs3V] at htV
  have h13 := (List.mem_filter.1 htV).2
  simp at h13 h12
  exact h13 h12
 refine .skip<|blkQ_n<|seqQ_n<|.region<|.mo rfl ?_
 refine .q (.i64 ((j + 1 : Nat) : Int) .add ⟨by omega, by omega, by omega⟩) ?_
 refine .ag rfl<|.nil ?_
 ·exact loopQ_i (j + 1) hlt5 (by omega) (EnvLe.k9 rfl rfl rfl rfl rfl rfl rfl rfl rfl) (HLe.refl _)
 refine .exit<|seqQ_x<|loopQ_x<|blkQ_x<|blkQ_n<|seqQ_n<|.region<|.mo rfl ?_
 refine .q (.i64 ((k + 1 : Nat) : Int) .add ⟨by omega, by omega, by omega⟩) ?_
 refine .ag rfl<|.nil ?_
 ·exact loopQ_i (k + 1, s3, T3) ⟨hlt, hC3, hB4, hU4⟩ (by simp only; omega) (EnvLe.k6 rfl rfl rfl rfl rfl rfl) (HLe.pick [5, 5, 5] _)
 refine .exit<|seqQ_x<|loopQ_x<|blkQ_x<|seqQ_n<|.sr ?_
 refine .callR (olives_spec _) (fun u hu => ?_)
 subst hu
 refine .ag rfl<|.zn ?_
 refine .ret (retQ_r _ (.one (.tmp rfl)) (.none _) ?_)
 ·exact ⟨rfl, rfl⟩
end Go.Proofs.YtkagfkbkpiebjaaGreatDoor
