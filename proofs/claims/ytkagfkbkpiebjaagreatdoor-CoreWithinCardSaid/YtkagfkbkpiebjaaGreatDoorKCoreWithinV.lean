/- What the law 'CoreWithin' uses of this prover's engine, facts and walks. No condition. -/
import Derived.Test.YtkagfkbkpiebjaaGreatDoorKCoreWithinR
import Derived.Test.YtkagfkbkpiebjaaGreatDoorKCoreWithinU
set_option linter.unusedVariables false
set_option maxRecDepth 4000
namespace Go.Proofs.YtkagfkbkpiebjaaGreatDoor
theorem pTick_spec (q : Nat) (s : OSt) (T : Seg) (h : CIs q s T) (h0 : 0 ≤ s.now) (h1 : s.now ≤ 1125899906842624) (n : Int) (R : Rds) :
  Spec Tryz.prog 35 [.pointer (some ⟨q, 0, none⟩), .int .i64 n] R [T] fun v H' => ∃ T', H' = [T'] ∧ v = .int .i64 (pTick s n).1 ∧ CIs q (pTick s n).2 T' :=
 (otick_spec q s.cs s.C s.A s.V s.last s.now T h h0 h1 n R).mono fun v H' ⟨T', e1, e2, e3, e4⟩ => by
  refine ⟨T', e1, ?_⟩
  unfold pTick
  by_cases e : otickE n s.now = 0
  ·rw [if_neg (by simp [e])]
   exact ⟨by rw [e2, e], (e4 e).2⟩
  ·rw [if_pos e]
   exact ⟨e2, e3 e⟩
theorem pConsent_spec (q : Nat) (s : OSt) (T : Seg) (h : CIs q s T) (user id : ByteArray) (hu : user.size ≤ 9223372036854775807) (vs : Value) (scopes : List ByteArray) (R : Rds) (hs : RS R 1 encS vs scopes) (hsl : scopes.length ≤ 100000) (hb : ∀ p ∈ s.C, p.2.length ≤ 1000000) :
  Spec Tryz.prog 38 [.pointer (some ⟨q, 0, none⟩), .string user, .string id, vs] R [T] fun v H' => ∃ T', H' = [T'] ∧ v = .int .i64 (pConsent s user id scopes).1 ∧ CIs q (pConsent s user id scopes).2 T' :=
 (oconsent_spec q s.cs s.C s.A s.V s.last s.now T h user id hu vs scopes R hs hsl hb).mono fun v H' ⟨T', e1, e2, C', e3, e4, e5⟩ => by
  refine ⟨T', e1, ?_⟩
  unfold pConsent
  by_cases e : oconE s.cs user id scopes = 0
  ·rw [if_neg (by simp [e])]
   obtain ⟨l, hl1, hl2, hl3, hl4⟩ := e4 e
   have hl : l = uni (scopesOf s.C user id) scopes := uni_of hl1 hl2
   have hne : l ≠ [] := fun e9 => by
    obtain ⟨_, _, h9⟩ := oconE_zero e
    have h10 : 0 < scopes.length := by unfold casks at h9; simp only [Bool.and_eq_true, decide_eq_true_eq] at h9; exact h9.2.1
    obtain ⟨x, hx⟩ := List.exists_mem_of_length_pos h10
    have := (hl2 x).2 (.inr hx)
    rw [e9] at this; cases this
   rw [if_neg hne, hl] at hl4
   subst hl4
   exact ⟨by rw [e2, e], e5⟩
  ·rw [if_pos e]
   rw [e3 e] at e5
   exact ⟨e2, e5⟩
theorem short_le (s : ByteArray) (n : Nat) : (short s n).size ≤ n := by
 unfold short
 split
 ·simp; omega
 ·omega
theorem pDo0 {s : OSt} {x : OC} (h : x.kind = 0) : pDo s x = (e0, e0, pTick s x.n) := by
 unfold pDo
 rw [if_pos h]
theorem pDo1 {s : OSt} {x : OC} (h : x.kind = 1) : pDo s x = (e0, e0, pAdd s x.cl) := by
 unfold pDo
 rw [if_neg (by omega), if_pos h]
theorem pDo2 {s : OSt} {x : OC} (h : x.kind = 2) : pDo s x = (e0, e0, pRemove s x.id) := by
 unfold pDo
 rw [if_neg (by omega), if_neg (by omega), if_pos h]
theorem pDo3 {s : OSt} {x : OC} (h : x.kind = 3) : pDo s x = (e0, e0, pConsent s x.user x.id x.scopes) := by
 unfold pDo
 rw [if_neg (by omega), if_neg (by omega), if_neg (by omega), if_pos h]
theorem pDo4 {s : OSt} {x : OC} (h : x.kind = 4) : pDo s x = (e0, e0, pWithdraw s x.user x.id) := by
 unfold pDo
 rw [if_neg (by omega), if_neg (by omega), if_neg (by omega), if_neg (by omega), if_pos h]
theorem pDo5 {s : OSt} {x : OC} (h : x.kind = 5) : pDo s x = ((pAuth s x.user x.id x.uri x.scopes x.word x.a).1, e0, (pAuth s x.user x.id x.uri x.scopes x.word x.a).2) := by
 unfold pDo
 rw [if_neg (by omega), if_neg (by omega), if_neg (by omega), if_neg (by omega), if_neg (by omega), if_pos h]
theorem pDo6 {s : OSt} {x : OC} (h : x.kind = 6) : pDo s x = pExch s x.id x.secret x.text x.uri x.word x.a x.r x.rev := by
 unfold pDo
 rw [if_neg (by omega), if_neg (by omega), if_neg (by omega), if_neg (by omega), if_neg (by omega), if_neg (by omega), if_pos h]
theorem pDo7 {s : OSt} {x : OC} (h : x.kind = 7) : pDo s x = pRefr s x.id x.secret x.text x.scopes x.a x.r x.rev := by
 unfold pDo
 rw [if_neg (by omega), if_neg (by omega), if_neg (by omega), if_neg (by omega), if_neg (by omega), if_neg (by omega), if_neg (by omega), if_pos h]
theorem pDo8 {s : OSt} {x : OC} (h : x.kind = 8) : pDo s x = (e0, e0, pRevoke s x.id x.secret x.text) := by
 unfold pDo
 rw [if_neg (by omega), if_neg (by omega), if_neg (by omega), if_neg (by omega), if_neg (by omega), if_neg (by omega), if_neg (by omega), if_neg (by omega), if_pos h]
theorem pDo9 {s : OSt} {x : OC} (h : x.kind < 0 ∨ 8 < x.kind) : pDo s x = (e0, e0, 0, s) := by
 unfold pDo
 rw [if_neg (by omega), if_neg (by omega), if_neg (by omega), if_neg (by omega), if_neg (by omega), if_neg (by omega), if_neg (by omega), if_neg (by omega), if_neg (by omega)]
theorem odo_spec (q : Nat) (s : OSt) (T : Seg) (h : CIs q s T) (k : Nat) (hb : OB s k) (hk : k ≤ 1000) (w : OV) (x : OC) (R : Rds) (hx : OR R w x) (hg : PC R (.pointer (some ⟨1, 0, none⟩)) (wv ks)) :
  Spec Tryz.prog 10 [.pointer (some ⟨q, 0, none⟩), .agg (encO w x).toArray] R [T] fun v H' => ∃ T', H' = [T'] ∧ v = .tuple [.string (pDo s x.brief).1, .string (pDo s x.brief).2.1, .int .i64 (pDo s x.brief).2.2.1].toArray ∧ CIs q (pDo s x.brief).2.2.2 T' := by
 have i1 : Ones (encO w x) := ⟨hx.ones⟩
 have hbC : ∀ p ∈ s.C, p.2.length ≤ 1000000 := fun p hp => by have := hb.cl p hp; omega
 have z1 : x.brief.user.size ≤ 40 := short_le _ _
 have z2 : x.brief.word.size ≤ 140 := short_le _ _
 have z3 : x.brief.scopes.length ≤ 6 := by show (texts x.scopes 6 40).length ≤ 6; simp [texts]; omega
 have z4 : x.brief.a.length ≤ 30 := by show (x.a.take 30).length ≤ 30; simp; omega
 have z5 : x.brief.r.length ≤ 30 := by show (x.r.take 30).length ≤ 30; simp; omega
 refine Spec.body Tryz.func10 rfl Tryz.results10 Tryz.ntmps10 rfl ?_
 refine .sr ?_
 refine .boxA rfl (fun b3 => ?_)
 refine .ag rfl<|.ag rfl<|.ag rfl<|.z<|.q (.loadA rfl) ?_
 refine .callN (oshort_spec w x _ (hx.mono fun b o hb => .inl hb)) (fun u T1 hu => ?_)
 obtain ⟨w', rfl, hc1⟩ := hu
 have i3 : Ones (encO w' x.brief) := ⟨hc1.ones⟩
 have hin : ∀ (R' : Rds) (H' : Segs), T1 ∈ H' → ∀ b o, sg T1 b o → Rx R' H' b o := fun R' H' hm b o hb => .inr (List.mem_flatten.2 ⟨_, hm, hb⟩)
 refine .storeA rfl rfl<|.zs<|.sr<|.fa rfl<|.lo rfl<|.zn<|.block<|.sr<|.q .eqI<|.ag rfl<|.zn ?_
 refine .cond rfl (fun h1 => ?_) (fun h1 => ?_)
 refine .sr<|.mo rfl<|.fa rfl<|.lo rfl ?_
 refine .callM (pTick_spec q s T h hb.n0 hb.n1 x.brief.n R) (fun v T2 hv => ?_)
 obtain ⟨rfl, hv⟩ := hv
 refine .ag rfl<|.ag rfl<|.ag rfl<|.zn ?_
 refine .ret (blkQ_r (seqQ_r (retQ_r _ (.three (.tmp rfl) (.tmp rfl) (.tmp rfl)) (.one [2] _) ?_)))
 ·rw [pDo0 (x := x.brief) (by have h9 := h1; simp only [beq_iff_eq] at h9; exact h9)]
  exact ⟨_, rfl, rfl, by simpa [take, dropAt] using hv⟩
 refine .sr<|.q .eqI<|.ag rfl<|.zn ?_
 refine .cond rfl (fun h2 => ?_) (fun h2 => ?_)
 refine .sr<|.mo rfl<|.fa rfl<|.q (.loadT rfl) ?_
 refine .callW (oadd_spec q s.cs s.C s.A s.V s.last s.now T h w'.cr x.brief.cl _ (hc1.1.mono (hin _ _ (by simp))) (Cli.short_fits x.cl) (Cli.short_few x.cl)) (fun v T2 hv => ?_)
 obtain ⟨rfl, hv⟩ := hv
 have hv : CIs q (pAdd s x.brief.cl).2 T2 := hv
 refine .ag rfl<|.ag rfl<|.ag rfl<|.zn ?_
 refine .ret (blkQ_r (seqQ_r (retQ_r _ (.three (.tmp rfl) (.tmp rfl) (.tmp rfl)) (.one [2] _) ?_)))
 ·rw [pDo1 (x := x.brief) (by have h9 := h2; simp only [beq_iff_eq] at h9; exact h9)]
  exact ⟨_, rfl, rfl, by simpa [take, dropAt] using hv⟩
 refine .sr<|.q .eqI<|.ag rfl<|.zn ?_
 refine .cond rfl (fun h3 => ?_) (fun h3 => ?_)
 refine .sr<|.mo rfl<|.fa rfl<|.lo rfl ?_
 refine .callM (oremove_spec q s T h x.brief.id R) (fun v T2 hv => ?_)
 obtain ⟨rfl, hv⟩ := hv
 refine .ag rfl<|.ag rfl<|.ag rfl<|.zn ?_
 refine .ret (blkQ_r (seqQ_r (retQ_r _ (.three (.tmp rfl) (.tmp rfl) (.tmp rfl)) (.one [2] _) ?_)))
 ·rw [pDo2 (x := x.brief) (by have h9 := h3; simp only [beq_iff_eq] at h9; exact h9)]
  exact ⟨_, rfl, rfl, by simpa [take, dropAt] using hv⟩
 refine .sr<|.q .eqI<|.ag rfl<|.zn ?_
 refine .cond rfl (fun h4 => ?_) (fun h4 => ?_)
 refine .sr<|.mo rfl<|.fa rfl<|.lo rfl<|.fa rfl<|.lo rfl<|.fa rfl<|.lo rfl ?_
 refine .callW (pConsent_spec q s T h x.brief.user x.brief.id (by omega) w'.vs x.brief.scopes _ (hc1.2.1.mono (hin _ _ (by simp))) (by omega) hbC) (fun v T2 hv => ?_)
 obtain ⟨rfl, hv⟩ := hv
 refine .ag rfl<|.ag rfl<|.ag rfl<|.zn ?_
 refine .ret (blkQ_r (seqQ_r (retQ_r _ (.three (.tmp rfl) (.tmp rfl) (.tmp rfl)) (.one [2] _) ?_)))
 ·rw [pDo3 (x := x.brief) (by have h9 := h4; simp only [beq_iff_eq] at h9; exact h9)]
  exact ⟨_, rfl, rfl, by simpa [take, dropAt] using hv⟩
 refine .sr<|.q .eqI<|.ag rfl<|.zn ?_
 refine .cond rfl (fun h5 => ?_) (fun h5 => ?_)
 refine .sr<|.mo rfl<|.fa rfl<|.lo rfl<|.fa rfl<|.lo rfl ?_
 refine .callM (owithdraw_spec q s T h x.brief.user x.brief.id R) (fun v T2 hv => ?_)
 obtain ⟨rfl, hv⟩ := hv
 refine .ag rfl<|.ag rfl<|.ag rfl<|.zn ?_
 refine .ret (blkQ_r (seqQ_r (retQ_r _ (.three (.tmp rfl) (.tmp rfl) (.tmp rfl)) (.one [2] _) ?_)))
 ·rw [pDo4 (x := x.brief) (by have h9 := h5; simp only [beq_iff_eq] at h9; exact h9)]
  exact ⟨_, rfl, rfl, by simpa [take, dropAt] using hv⟩
 refine .sr<|.q .eqI<|.ag rfl<|.zn ?_
 refine .cond rfl (fun h6 => ?_) (fun h6 => ?_)
 refine .sr<|.mo rfl<|.fa rfl<|.lo rfl<|.fa rfl<|.lo rfl<|.fa rfl<|.lo rfl<|.fa rfl<|.lo rfl<|.fa rfl<|.lo rfl<|.fa rfl<|.lo rfl ?_
 refine .callW (oauth_spec q s T h k hb hk x.brief.user x.brief.id x.brief.uri w'.vs x.brief.scopes x.brief.word w'.va x.brief.a (by omega) (by omega) (by omega) (by omega) _ (hc1.2.1.mono (hin _ _ (by simp))) (hc1.2.2.1.mono (hin _ _ (by simp)))) (fun v T2 hv => ?_)
 obtain ⟨rfl, hv⟩ := hv
 refine .mo rfl<|.q .extract<|.q .extract<|.ag rfl<|.ag rfl<|.z<|.mo rfl<|.mo rfl<|.ag rfl<|.ag rfl<|.ag rfl<|.zn ?_
 refine .ret (blkQ_r (seqQ_r (retQ_r _ (.three (.tmp rfl) (.tmp rfl) (.tmp rfl)) (.one [2] _) ?_)))
 ·rw [pDo5 (x := x.brief) (by have h9 := h6; simp only [beq_iff_eq] at h9; exact h9)]
  exact ⟨_, rfl, rfl, by simpa [take, dropAt] using hv⟩
 refine .sr<|.q .eqI<|.ag rfl<|.zn ?_
 refine .cond rfl (fun h7 => ?_) (fun h7 => ?_)
 refine .sr<|.mo rfl<|.fa rfl<|.lo rfl<|.fa rfl<|.lo rfl<|.fa rfl<|.lo rfl<|.fa rfl<|.lo rfl<|.fa rfl<|.lo rfl<|.fa rfl<|.lo rfl<|.fa rfl<|.lo rfl<|.fa rfl<|.lo rfl ?_
 refine .callW (oexch_spec q s T h k hb hk x.brief.id x.brief.secret x.brief.text x.brief.uri x.brief.word w'.va w'.vr x.brief.a x.brief.r x.brief.rev (by omega) (by omega) (by omega) _ (hc1.2.2.1.mono (hin _ _ (by simp))) (hc1.2.2.2.mono (hin _ _ (by simp))) (hg.mono fun b o hb => .inl hb)) (fun v T2 hv => ?_)
 obtain ⟨rfl, hv⟩ := hv
 refine .q .extract<|.q .extract<|.q .extract<|.ag rfl<|.ag rfl<|.ag rfl<|.zn ?_
 refine .ret (blkQ_r (seqQ_r (retQ_r _ (.three (.tmp rfl) (.tmp rfl) (.tmp rfl)) (.one [2] _) ?_)))
 ·rw [pDo6 (x := x.brief) (by have h9 := h7; simp only [beq_iff_eq] at h9; exact h9)]
  exact ⟨_, rfl, rfl, by simpa [take, dropAt] using hv⟩
 refine .sr<|.q .eqI<|.ag rfl<|.zn ?_
 refine .cond rfl (fun h8 => ?_) (fun h8 => ?_)
 refine .sr<|.mo rfl<|.fa rfl<|.lo rfl<|.fa rfl<|.lo rfl<|.fa rfl<|.lo rfl<|.fa rfl<|.lo rfl<|.fa rfl<|.lo rfl<|.fa rfl<|.lo rfl<|.fa rfl<|.lo rfl ?_
 refine .callW (orefr_spec q s T h k hb hk x.brief.id x.brief.secret x.brief.text w'.vs x.brief.scopes w'.va w'.vr x.brief.a x.brief.r x.brief.rev (by omega) (by omega) (by omega) _ (hc1.2.1.mono (hin _ _ (by simp))) (hc1.2.2.1.mono (hin _ _ (by simp))) (hc1.2.2.2.mono (hin _ _ (by simp)))) (fun v T2 hv => ?_)
 obtain ⟨rfl, hv⟩ := hv
 refine .q .extract<|.q .extract<|.q .extract<|.ag rfl<|.ag rfl<|.ag rfl<|.zn ?_
 refine .ret (blkQ_r (seqQ_r (retQ_r _ (.three (.tmp rfl) (.tmp rfl) (.tmp rfl)) (.one [2] _) ?_)))
 ·rw [pDo7 (x := x.brief) (by have h9 := h8; simp only [beq_iff_eq] at h9; exact h9)]
  exact ⟨_, rfl, rfl, by simpa [take, dropAt] using hv⟩
 refine .sr<|.q .eqI<|.ag rfl<|.zn ?_
 refine .cond rfl (fun h9 => ?_) (fun h9 => ?_)
 refine .sr<|.mo rfl<|.fa rfl<|.lo rfl<|.fa rfl<|.lo rfl<|.fa rfl<|.lo rfl ?_
 refine .callM (orevoke_spec q s T h x.brief.id x.brief.secret x.brief.text R) (fun v T2 hv => ?_)
 obtain ⟨rfl, hv⟩ := hv
 refine .ag rfl<|.ag rfl<|.ag rfl<|.zn ?_
 refine .ret (blkQ_r (seqQ_r (retQ_r _ (.three (.tmp rfl) (.tmp rfl) (.tmp rfl)) (.one [2] _) ?_)))
 ·rw [pDo8 (x := x.brief) (by have h9 := h9; simp only [beq_iff_eq] at h9; exact h9)]
  exact ⟨_, rfl, rfl, by simpa [take, dropAt] using hv⟩
 refine .skip<|blkQ_n<|seqQ_n<|.sr<|.ag rfl<|.ag rfl<|.ag rfl<|.zn ?_
 refine .ret (retQ_r _ (.three (.tmp rfl) (.tmp rfl) (.tmp rfl)) (.one [2] _) ?_)
 ·have hk9 : x.brief.kind < 0 ∨ 8 < x.brief.kind := by
   simp only [beq_eq_false_iff_ne, ne_eq] at h1 h2 h3 h4 h5 h6 h7 h8 h9
   omega
  rw [pDo9 (x := x.brief) hk9]
  exact ⟨_, rfl, rfl, by simpa [take, dropAt] using h⟩
theorem oclients_spec (q a : Nat) (b c d : Value) (R : Rds) [pc : PC R (.pointer (some ⟨q, 0, none⟩)) [.pointer (some ⟨a, 0, none⟩), b, c, d]] : Spec Tryz.prog 15 [.pointer (some ⟨q, 0, none⟩)] R [] fun v H' => v = .pointer (some ⟨a, 0, none⟩) ∧ H' = [] := by
 refine Spec.body Tryz.func15 rfl Tryz.results15 Tryz.ntmps15 rfl ?_
 refine .sr<|.ag rfl<|.zs<|.sr<|.mo rfl ?_
 refine .callR (ook_spec q a b c d _) (fun v hv => ?_)
 subst hv
 refine .q .not<|.zn<|.condF<|.kn<|.sr<|.mo rfl<|.nc rfl<|.fa rfl<|.lo rfl<|.ag rfl<|.zn ?_
 refine .ret (retQ_r _ (.one (.tmp rfl)) (.none _) ?_)
 ·exact ⟨rfl, rfl⟩
theorem ovault_spec (q a g : Nat) (b d : Value) (R : Rds) [pc : PC R (.pointer (some ⟨q, 0, none⟩)) [.pointer (some ⟨a, 0, none⟩), b, .pointer (some ⟨g, 0, none⟩), d]] : Spec Tryz.prog 11 [.pointer (some ⟨q, 0, none⟩)] R [] fun v H' => v = .pointer (some ⟨g, 0, none⟩) ∧ H' = [] := by
 refine Spec.body Tryz.func11 rfl Tryz.results11 Tryz.ntmps11 rfl ?_
 refine .sr<|.ag rfl<|.zs<|.sr<|.mo rfl ?_
 refine .callR (ook_spec q a b _ d _) (fun v hv => ?_)
 subst hv
 refine .q .not<|.zn<|.condF<|.kn<|.sr<|.mo rfl<|.nc rfl<|.fa rfl<|.lo rfl<|.ag rfl<|.zn ?_
 refine .ret (retQ_r _ (.one (.tmp rfl)) (.none _) ?_)
 ·exact ⟨rfl, rfl⟩
theorem orwithin_spec (v w : Value) (l m : List ByteArray) (R : Rds) (h : RS R 1 encS v l) (h' : RS R 1 encS w m) : Spec Tryz.prog 17 [v, w] R [] fun u H' => u = .bool (owithin l m) ∧ H' = [] := by
 have i1 := h.oneCell
 have i2 := h'.oneCell
 have hle := h.le
 refine Spec.body Tryz.func17 rfl Tryz.results17 Tryz.ntmps17 rfl ?_
 refine .sr<|.ag rfl<|.zs<|.sr<|.ag rfl<|.zn<|.block ?_
 refine .loop (X := Nat) (fun i => i ≤ l.length ∧ owithin (l.take i) m = true) (fun i => [(0, v), (1, w), (5, .int .i64 (i : Nat))]) (fun _ => []) (fun i => l.length - i) 0 ⟨Nat.zero_le _, by simp [owithin]⟩ (EnvLe.k3 rfl rfl rfl) (HLe.refl _) ?_
 rintro i ⟨hi, hn⟩
 refine .seq<|.sr<|.mo rfl<|.mo rfl<|.q (.lenR h) ?_
 refine .q .lss<|.zn ?_
 refine .cond rfl (fun h1 => ?_) (fun h1 => ?_)
 have hlt : i < l.length := by simp at h1; omega
 obtain ⟨z, hz⟩ : ∃ z, l[i]? = some z := ⟨_, List.getElem?_eq_getElem hlt⟩
 refine .kn<|.seq<|.block<|.sr<|.mo rfl<|.mo rfl<|.mo rfl ?_
 refine .indexR i h hz (fun p15 => ?_)
 refine .lo rfl ?_
 refine .callR (has_spec w m z _ h'.rx) (fun u hu => ?_)
 subst hu
 refine .q .not<|.zn ?_
 refine .cond rfl (fun h2 => ?_) (fun h2 => ?_)
 refine .sr<|.ag rfl<|.zn ?_
 refine .ret (blkQ_r (seqQ_r (loopQ_r (blkQ_r (seqQ_r (retQ_r _ (.one (.tmp rfl)) (.none _) ?_))))))
 ·refine ⟨congrArg Value.bool ?_, rfl⟩
  have h9 : ¬ z ∈ m := by simpa using h2
  exact (Bool.eq_false_iff.2 fun e => h9 (owithin_iff.1 e z (List.mem_of_getElem? hz))).symm
 refine .skip<|blkQ_n<|seqQ_n<|.region<|.mo rfl ?_
 refine .q (.i64 ((i + 1 : Nat) : Int) .add ⟨by omega, by omega, by omega⟩) ?_
 refine .ag rfl<|.nil ?_
 ·refine loopQ_i (i + 1) ⟨by omega, ?_⟩ (by omega) (EnvLe.k3 rfl rfl rfl) (HLe.refl _)
  have h9 : z ∈ m := by simpa using h2
  rw [owithin_iff] at hn ⊢
  intro x hx
  rcases (mem_take_succ hz x).1 hx with h8 | rfl
  ·exact hn x h8
  ·exact h9
 refine .exit<|seqQ_x<|loopQ_x<|blkQ_x<|seqQ_n<|.sr<|.ag rfl<|.zn ?_
 refine .ret (retQ_r _ (.one (.tmp rfl)) (.none _) ?_)
 ·have he : i = l.length := by simp at h1; omega
  rw [he, List.take_length] at hn
  exact ⟨by rw [hn], rfl⟩
abbrev OD : Type := OV × OC
def encD (d : OD) : List Value := encO d.1 d.2
theorem owithinLaw_spec (v : Value) (ds : List OD) (R : Rds) (hS : RS R 16 encD v ds) (hD : ∀ d ∈ ds, OR R d.1 d.2) (hg : PC R (.pointer (some ⟨1, 0, none⟩)) (wv ks)) :
  Spec Tryz.prog 3 [v] R [] fun u H' => u = .bool true ∧ H' = [] := by
 have iv := hS.oneCell
 have hle := hS.le
 refine Spec.body Tryz.func3 rfl Tryz.results3 Tryz.ntmps3 rfl ?_
 refine .sr<|.ag rfl<|.z ?_
 refine .callN (onew_spec _) (fun u T hu => ?_)
 obtain ⟨q, rfl, hC0⟩ := hu
 refine .ag rfl<|.zs<|.sr<|.mo rfl<|.q (.eqNilA rfl rfl) ?_
 refine .zn<|.condF<|.kn<|.seq<|.sr<|.ag rfl<|.zn<|.block ?_
 refine .loop (X := Nat × OSt × Seg) (fun y => (y.1 ≤ ds.length ∧ y.1 ≤ 30) ∧ CIs q y.2.1 y.2.2 ∧ OB y.2.1 y.1 ∧ WI y.2.1) (fun y => [(0, v), (3, .pointer (some ⟨q, 0, none⟩)), (4, .int .i64 (y.1 : Nat))]) (fun y => [y.2.2]) (fun y => 30 - y.1) (0, OSt.zero, T) ⟨⟨Nat.zero_le _, Nat.zero_le _⟩, hC0, OB.zero, WI.zero⟩ (EnvLe.k3 rfl rfl rfl) (HLe.refl _) ?_
 rintro ⟨i, s, T⟩ ⟨⟨hi, hi30⟩, hC, hB, hW⟩
 simp only at hi hi30 hC hB hW ⊢
 refine .seq<|.sr<|.mo rfl<|.mo rfl<|.q (.lenR hS) ?_
 refine .q .lss<|.mo rfl ?_
 refine .split (t := 20) rfl (fun g5_4 => ?_) (fun g5_4 => ?_)
 refine .gT g5_4<|.mo rfl<|.gT g5_4<|.q .lss<|.q (.pickTh g5_4) ?_
 refine .zn ?_
 refine .cond rfl (fun h2 => ?_) (fun h2 => ?_)
 have hlt : i < ds.length := by
  have := of_decide_eq_true g5_4
  omega
 have hl30 : i < 30 := by have := of_decide_eq_true h2; omega
 obtain ⟨d, hd⟩ : ∃ d, ds[i]? = some d := ⟨_, List.getElem?_eq_getElem hlt⟩
 obtain ⟨w, x⟩ := d
 have hdR := hD _ (List.mem_of_getElem? hd)
 have id1 : Ones (encO w x) := ⟨hdR.ones⟩
 refine .kn<|.seq<|.block<|.sr<|.mo rfl<|.mo rfl<|.mo rfl ?_
 refine .indexR i hS hd (fun p29 => ?_)
 refine .q (.loadA rfl) ?_
 refine .callM (odo_spec q s T hC i hB (by omega) w x R hdR hg) (fun u T2 hu => ?_)
 obtain ⟨rfl, hC2⟩ := hu
 have hB2 := hB.step x.brief (by show (texts x.scopes 6 40).length ≤ 6; simp [texts]; omega)
 have hW2 := hW.step x.brief
 obtain ⟨s2, hs2⟩ : ∃ s2, s2 = (pDo s x.brief).2.2.2 := ⟨_, rfl⟩
 rw [← hs2] at hC2 hB2 hW2
 obtain ⟨gc, gb, gv, Tc, Tb, Tv, hT2, hR, hG, hV⟩ := id hC2
 have ps2 : PS T2 (.pointer (some ⟨q, 0, none⟩)) [.pointer (some ⟨gc, 0, none⟩), .pointer (some ⟨gb, 0, none⟩), .pointer (some ⟨gv, 0, none⟩), .int .i64 s2.now] := PS.of (E := 63) (fr := (0, 0)) (by rw [hT2]; simp)
 have hinc : ∀ (R' : Rds) (H' : Segs), T2 ∈ H' → ∀ p ∈ Tc, Rx R' H' p.1 p.2 := fun R' H' hm p hp => .inr (List.mem_flatten.2 ⟨_, hm, by rw [hT2]; simp [hp]⟩)
 have hinb : ∀ (R' : Rds) (H' : Segs), T2 ∈ H' → ∀ p ∈ Tb, Rx R' H' p.1 p.2 := fun R' H' hm p hp => .inr (List.mem_flatten.2 ⟨_, hm, by rw [hT2]; simp [hp]⟩)
 have hinv : ∀ (R' : Rds) (H' : Segs), T2 ∈ H' → ∀ p ∈ Tv, Rx R' H' p.1 p.2 := fun R' H' hm p hp => .inr (List.mem_flatten.2 ⟨_, hm, by rw [hT2]; simp [hp]⟩)
 have hbC : ∀ p ∈ s2.C, p.2.length ≤ 1000000 := fun p hp => by have := hB2.cl p hp; omega
 refine .z<|.mo rfl ?_
 refine .callR (ovault_spec q gc gv _ _ _) (fun u hu => ?_)
 subst hu
 refine .callN (vlist_spec gv s2.V s2.last Tv hV (by have := hB2.V; omega) _ (hinv _ _ (by simp))) (fun w5 T5 hw5 => ?_)
 obtain ⟨ps, To, Ti, rfl, hO, hps, hperm, _⟩ := hw5
 have iw5 := hO.oneCell
 refine .mo rfl ?_
 refine .callR (obook_spec q gc gb _ _ _) (fun u hu => ?_)
 subst hu
 refine .callN (gcodes_spec gb s2.C s2.A Tb hG (by have := hB2.A; omega) _ (hinb _ _ (by simp))) (fun w6 T6 hw6 => ?_)
 obtain ⟨cs, Uo, Ui, rfl, hU, hcs, hcperm, _⟩ := hw6
 have iw6 := hU.oneCell
 have hOl := hO.le
 have hUl := hU.le
 refine .sub (HLe.ofPerm (H' := [Uo, Ui, To, Ti, T2]) (by simp)) ?_
 refine .ag rfl<|.ag rfl<|.zs<|.sr<|.ag rfl<|.zn<|.block ?_
 refine .loop (X := Nat) (fun k => k ≤ ps.length) (fun k => [(0, v), (3, .pointer (some ⟨q, 0, none⟩)), (4, .int .i64 (i : Nat)), (5, w5), (6, w6), (7, .int .i64 (k : Nat))]) (fun _ => [Uo, Ui, To, Ti, T2]) (fun k => ps.length - k) 0 (Nat.zero_le _) (EnvLe.k6 rfl rfl rfl rfl rfl rfl) (HLe.refl _) ?_
 intro k hk
 refine .seq<|.sr<|.mo rfl<|.mo rfl<|.q (.lenO hO) ?_
 refine .q .lss<|.zn ?_
 refine .cond rfl (fun h3 => ?_) (fun h3 => ?_)
 have hlt : k < ps.length := by have := of_decide_eq_true h3; omega
 obtain ⟨z, hz⟩ : ∃ z, ps[k]? = some z := ⟨_, List.getElem?_eq_getElem hlt⟩
 obtain ⟨wt, t⟩ := z
 have hzm := List.mem_of_getElem? hz
 have ht := hps _ hzm
 have htV : (t.text, t) ∈ s2.V := hperm.mem_iff.1 (List.mem_map.2 ⟨t, List.mem_map.2 ⟨_, hzm, rfl⟩, rfl⟩)
 obtain ⟨⟨c, hc, hcs1, hcs2⟩, hexp⟩ := hW2.v _ htV
 simp only at hc hcs1 hcs2 hexp
 have hsome : (cget t.client s2.cs).isSome = true := by rw [hc]; rfl
 have hw1 : owithin t.scopes c.scopes = true := owithin_iff.2 hcs1
 have hw2 : owithin t.scopes (scopesOf s2.C t.user t.client) = true := owithin_iff.2 hcs2
 have it1 : Ones (encT (wt, t)) := ⟨ht.ones⟩
 have pz : PS To (baseP w5 (k * 9)) (encT (wt, t)) := ⟨hO.pc hz⟩
 have it2 : One wt := ht.oneCell
 refine .kn<|.seq<|.block<|.seq ?_
 refine Tri.cut (X := Nat × CR × Seg) (fun y => CliR (sg y.2.2) y.2.1 c) (fun y => [(0, v), (3, .pointer (some ⟨q, 0, none⟩)), (4, .int .i64 (i : Nat)), (5, w5), (6, w6), (7, .int .i64 (k : Nat)), (8, .pointer (some ⟨y.1, 0, none⟩)), (9, .bool true)]) (fun y => [[(y.1, .cells y.2.1.cells.toArray 30 (0, 0))], y.2.2, Uo, Ui, To, Ti, T2]) ?_ ?_
 refine .region_all [12] mixed ?_
 refine .takeO 0 rfl .move (by kernel_rfl)<|.takeO 2 rfl .move (by kernel_rfl)<|.takeO 3 rfl .move (by kernel_rfl) ?_
 refine .takeO 4 rfl (.indexR k hO.sg hz rfl rfl rfl) (by kernel_rfl) ?_
 refine .takeO 5 rfl (.fieldAddr rfl) (by kernel_rfl)<|.takeO 6 rfl (.load1 rfl) (by kernel_rfl) ?_
 refine RA.step2 1 11 rfl rfl (by kernel_rfl) rfl ?_ ?_
 refine .callR (oclients_spec q gc _ _ _ _) (fun u hu => ?_)
 subst hu
 refine .nil (Next.sub ?_)
 refine RA.step2 7 11 rfl rfl (by kernel_rfl) rfl ?_ ?_
 refine .callN (cget_spec gc s2.cs Tc hR t.client _ (hinc _ _ (by simp))) (fun u T7 hu => ?_)
 obtain ⟨r1, rfl, hc1⟩ := hu
 rw [hsome]
 rw [hc, Option.getD_some] at hc1
 have ir1 : Ones r1.cells := ⟨hc1.ones⟩
 refine .nil (Next.sub ?_)
 refine .takeO 8 rfl .move (by kernel_rfl)<|.takeO 9 rfl .extract (by kernel_rfl)<|.take 10 rfl .extract (by kernel_rfl) ?_
 refine RA.step 11 rfl (by kernel_rfl) rfl ?_
 refine .allocA (fun b8 => ?_)
 refine .nil (Next.sub ?_)
 refine RA.step 12 rfl (by kernel_rfl) rfl ?_
 refine .storeA rfl rfl ?_
 refine .nil (Next.mod rfl ?_)
 refine .take 13 rfl .assign (by kernel_rfl) ?_
 refine RA.nil (by kernel_rfl) ?_
 ·first
   |exact joinQ_n (b8, r1, T7) hc1 (EnvLe.k8 rfl rfl rfl rfl rfl rfl rfl rfl) (HLe.refl _)
   |exact joinQ_n (b8, r1, T7) hc1 (EnvLe.k8 rfl rfl rfl rfl rfl rfl rfl rfl) (HLe.pick [1, 0, 0, 0, 0, 0, 0] _)
 refine .allocA (fun b8 => ?_)
 refine .nil (Next.sub ?_)
 refine RA.step 7 rfl (by kernel_rfl) rfl ?_
 refine .callN (cget_spec gc s2.cs Tc hR t.client _ (hinc _ _ (by simp))) (fun u T7 hu => ?_)
 obtain ⟨r1, rfl, hc1⟩ := hu
 rw [hsome]
 rw [hc, Option.getD_some] at hc1
 have ir1 : Ones r1.cells := ⟨hc1.ones⟩
 refine .nil (Next.sub ?_)
 refine .takeO 8 rfl .move (by kernel_rfl)<|.takeO 9 rfl .extract (by kernel_rfl)<|.take 10 rfl .extract (by kernel_rfl) ?_
 refine RA.step 12 rfl (by kernel_rfl) rfl ?_
 refine .storeA rfl rfl ?_
 refine .nil (Next.mod rfl ?_)
 refine .take 13 rfl .assign (by kernel_rfl) ?_
 refine RA.nil (by kernel_rfl) ?_
 ·first
   |exact joinQ_n (b8, r1, T7) hc1 (EnvLe.k8 rfl rfl rfl rfl rfl rfl rfl rfl) (HLe.refl _)
   |exact joinQ_n (b8, r1, T7) hc1 (EnvLe.k8 rfl rfl rfl rfl rfl rfl rfl rfl) (HLe.pick [1, 0, 0, 0, 0, 0, 0] _)
 refine .allocA (fun b8 => ?_)
 refine .nil (Next.sub ?_)
 refine RA.step 1 rfl (by kernel_rfl) rfl ?_
 refine .callR (oclients_spec q gc _ _ _ _) (fun u hu => ?_)
 subst hu
 refine .nil (Next.sub ?_)
 refine RA.step 7 rfl (by kernel_rfl) rfl ?_
 refine .callN (cget_spec gc s2.cs Tc hR t.client _ (hinc _ _ (by simp))) (fun u T7 hu => ?_)
 obtain ⟨r1, rfl, hc1⟩ := hu
 rw [hsome]
 rw [hc, Option.getD_some] at hc1
 have ir1 : Ones r1.cells := ⟨hc1.ones⟩
 refine .nil (Next.sub ?_)
 refine .takeO 8 rfl .move (by kernel_rfl)<|.takeO 9 rfl .extract (by kernel_rfl)<|.take 10 rfl .extract (by kernel_rfl) ?_
 refine RA.step 12 rfl (by kernel_rfl) rfl ?_
 refine .storeA rfl rfl ?_
 refine .nil (Next.mod rfl ?_)
 refine .take 13 rfl .assign (by kernel_rfl) ?_
 refine RA.nil (by kernel_rfl) ?_
 ·first
   |exact joinQ_n (b8, r1, T7) hc1 (EnvLe.k8 rfl rfl rfl rfl rfl rfl rfl rfl) (HLe.refl _)
   |exact joinQ_n (b8, r1, T7) hc1 (EnvLe.k8 rfl rfl rfl rfl rfl rfl rfl rfl) (HLe.pick [1, 0, 0, 0, 0, 0, 0] _)
 intro y hy
 obtain ⟨b8, ⟨rid, rsec, vu, vs⟩, T7⟩ := y
 have hc1 : CliR (sg T7) ⟨rid, rsec, vu, vs⟩ c := hy
 have iu := hc1.u.oneCell
 have is := hc1.s.oneCell
 simp only
 show Tri _ _ _ _ _ [[(b8, .cells [.string rid, .string rsec, vu, vs].toArray 30 (0, 0))], T7, Uo, Ui, To, Ti, T2] _
 refine seqQ_n<|.seq<|.region_all [] mixed ?_
 refine .takeO 0 rfl .move (by kernel_rfl)<|.takeO 1 rfl .not (by kernel_rfl)<|.takeO 2 rfl .move (by kernel_rfl) ?_
 refine RA.split (t := 57) rfl (fun g13_2 => ?_) (fun g13_2 => ?_)
 ·simp at g13_2
 refine .takeGhO 3 rfl rfl g13_2 .move (by kernel_rfl) ?_
 refine .takeGhO 4 rfl rfl g13_2 .move (by kernel_rfl) ?_
 refine .takeGhO 5 rfl rfl g13_2 (.indexR k hO.sg hz rfl rfl rfl) (by kernel_rfl) ?_
 refine .takeGhO 6 rfl rfl g13_2 (.fieldAddr rfl) (by kernel_rfl) ?_
 refine .takeGhO 7 rfl rfl g13_2 (.load1 rfl) (by kernel_rfl) ?_
 refine .takeGhO 8 rfl rfl g13_2 (.fieldAddr rfl) (by kernel_rfl) ?_
 refine .takeGhO 9 rfl rfl g13_2 (.load1 rfl) (by kernel_rfl) ?_
 refine RA.step 10 rfl (by kernel_rfl) rfl ?_
 refine .gT g13_2 ?_
 refine .callR (orwithin_spec wt vs t.scopes c.scopes _ (RS.mono ht fun b o hb => .inr (by have hb' : (b, o) ∈ Ti := hb.1; simp [hb'])) (hc1.s.mono fun b o hb => .inr (by have hb' : (b, o) ∈ T7 := hb; simp [hb']))) (fun u hu => ?_)
 rw [hw1] at hu
 subst hu
 refine .nil (Next.sub ?_)
 refine .takeGhO 11 rfl rfl g13_2 .not (by kernel_rfl) ?_
 refine .takeO 12 rfl (.pickFh g13_2) (by kernel_rfl) ?_
 refine .takeO 13 rfl .move (by kernel_rfl) ?_
 refine RA.split (t := 68) rfl (fun g13_13 => ?_) (fun g13_13 => ?_)
 ·simp at g13_13
 refine .takeGhO 14 rfl rfl g13_13 .move (by kernel_rfl) ?_
 refine .takeGhO 15 rfl rfl g13_13 .move (by kernel_rfl) ?_
 refine .takeGhO 16 rfl rfl g13_13 (.indexR k hO.sg hz rfl rfl rfl) (by kernel_rfl) ?_
 refine .takeGhO 17 rfl rfl g13_13 (.fieldAddr rfl) (by kernel_rfl) ?_
 refine .takeGhO 18 rfl rfl g13_13 (.load1 rfl) (by kernel_rfl) ?_
 refine .takeGhO 19 rfl rfl g13_13 .move (by kernel_rfl) ?_
 refine .takeGhO 21 rfl rfl g13_13 .move (by kernel_rfl) ?_
 refine .takeGhO 22 rfl rfl g13_13 .move (by kernel_rfl) ?_
 refine .takeGhO 23 rfl rfl g13_13 (.indexR k hO.sg hz rfl rfl rfl) (by kernel_rfl) ?_
 refine .takeGhO 24 rfl rfl g13_13 (.fieldAddr rfl) (by kernel_rfl) ?_
 refine .takeGhO 25 rfl rfl g13_13 (.load1 rfl) (by kernel_rfl) ?_
 refine .takeGhO 26 rfl rfl g13_13 .move (by kernel_rfl) ?_
 refine .takeGhO 27 rfl rfl g13_13 .move (by kernel_rfl) ?_
 refine .takeGhO 28 rfl rfl g13_13 (.indexR k hO.sg hz rfl rfl rfl) (by kernel_rfl) ?_
 refine .takeGhO 29 rfl rfl g13_13 (.fieldAddr rfl) (by kernel_rfl) ?_
 refine .takeGhO 30 rfl rfl g13_13 (.load1 rfl) (by kernel_rfl) ?_
 refine RA.step 20 rfl (by kernel_rfl) rfl ?_
 refine .gT g13_13 ?_
 refine .callR (obook_spec q gc gb _ _ _) (fun u hu => ?_)
 subst hu
 refine .nil (Next.sub ?_)
 refine RA.step 31 rfl (by kernel_rfl) rfl ?_
 refine .gT g13_13 ?_
 refine .callN (gscopes_spec gb s2.C s2.A Tb hG t.user t.client _ (hinb _ _ (by simp)) hbC) (fun u T8 hO8 => ?_)
 have io8 := hO8.oneCell
 refine .nil (Next.sub ?_)
 refine RA.step 32 rfl (by kernel_rfl) rfl ?_
 refine .gT g13_13 ?_
 refine .callR (orwithin_spec wt u t.scopes (scopesOf s2.C t.user t.client) _ (RS.mono ht fun b o hb => .inr (by have hb' : (b, o) ∈ Ti := hb.1; simp [hb'])) hO8.rx) (fun u hu => ?_)
 rw [hw2] at hu
 subst hu
 refine .nil (Next.sub ?_)
 refine .takeGhO 33 rfl rfl g13_13 .not (by kernel_rfl) ?_
 refine .takeO 34 rfl (.pickFh g13_13) (by kernel_rfl) ?_
 refine .takeO 35 rfl .move (by kernel_rfl) ?_
 refine RA.split (t := 90) rfl (fun g13_35 => ?_) (fun g13_35 => ?_)
 ·simp at g13_35
 refine .takeGhO 36 rfl rfl g13_35 .move (by kernel_rfl) ?_
 refine .takeGhO 37 rfl rfl g13_35 .move (by kernel_rfl) ?_
 refine .takeGhO 38 rfl rfl g13_35 (.indexR k hO.sg hz rfl rfl rfl) (by kernel_rfl) ?_
 refine .takeGhO 39 rfl rfl g13_35 (.fieldAddr rfl) (by kernel_rfl) ?_
 refine .takeGhO 40 rfl rfl g13_35 (.load1 rfl) (by kernel_rfl) ?_
 refine .takeGhO 41 rfl rfl g13_35 .move (by kernel_rfl) ?_
 refine RA.step 42 rfl (by kernel_rfl) rfl ?_
 refine .gT g13_35 ?_
 refine .callR (onow_spec q gc _ _ _ _) (fun u hu => ?_)
 subst hu
 refine .nil (Next.sub ?_)
 refine .takeGhO 43 rfl rfl g13_35 .leq (by kernel_rfl) ?_
 refine .takeO 44 rfl (.pickFh g13_35) (by kernel_rfl) ?_
 refine RA.nil (by kernel_rfl) ?_
 refine seqQ_n ?_
 refine .cond rfl (fun h4 => ?_) (fun h4 => ?_)
 ·exfalso
  simp at h4
  omega
 refine .skip<|blkQ_n<|seqQ_n<|.region<|.mo rfl ?_
 refine .q (.i64 ((k + 1 : Nat) : Int) .add ⟨by omega, by omega, by omega⟩) ?_
 refine .ag rfl<|.nil ?_
 ·first
   |exact loopQ_i (k + 1) hlt (by omega) (EnvLe.k6 rfl rfl rfl rfl rfl rfl) (HLe.pick [3, 3, 3, 3, 3] _)
   |exact loopQ_i (k + 1) hlt (by omega) (EnvLe.k6 rfl rfl rfl rfl rfl rfl) (HLe.pick [2, 2, 2, 2, 2] _)
 refine .exit<|seqQ_x<|loopQ_x<|blkQ_x<|seqQ_n<|.sr<|.ag rfl<|.zn<|.block ?_
 refine .loop (X := Nat) (fun k => k ≤ cs.length) (fun k => [(0, v), (3, .pointer (some ⟨q, 0, none⟩)), (4, .int .i64 (i : Nat)), (6, w6), (10, .int .i64 (k : Nat))]) (fun _ => [Uo, Ui, T2]) (fun k => cs.length - k) 0 (Nat.zero_le _) (EnvLe.k5 rfl rfl rfl rfl rfl) (HLe.pick [0, 0, 2] _) ?_
 clear hk
 intro k hk
 refine .seq<|.sr<|.mo rfl<|.mo rfl<|.q (.lenO hU) ?_
 refine .q .lss<|.zn ?_
 refine .cond rfl (fun h5 => ?_) (fun h5 => ?_)
 have hlt : k < cs.length := by have := of_decide_eq_true h5; omega
 obtain ⟨z, hz⟩ : ∃ z, cs[k]? = some z := ⟨_, List.getElem?_eq_getElem hlt⟩
 obtain ⟨wt, t⟩ := z
 have hzm := List.mem_of_getElem? hz
 have ht := hcs _ hzm
 have htA : (t.text, t) ∈ s2.A := hcperm.mem_iff.1 (List.mem_map.2 ⟨t, List.mem_map.2 ⟨_, hzm, rfl⟩, rfl⟩)
 obtain ⟨c, hc, hcs1, hcs2⟩ := hW2.a _ htA
 simp only at hc hcs1 hcs2
 have hsome : (cget t.client s2.cs).isSome = true := by rw [hc]; rfl
 have hw1 : owithin t.scopes c.scopes = true := owithin_iff.2 hcs1
 have hw2 : owithin t.scopes (scopesOf s2.C t.user t.client) = true := owithin_iff.2 hcs2
 have it1 : Ones (encG (wt, t)) := ⟨ht.ones⟩
 have pz : PS Uo (baseP w6 (k * 9)) (encG (wt, t)) := ⟨hU.pc hz⟩
 have it2 : One wt := ht.oneCell
 refine .kn<|.seq<|.block<|.seq ?_
 refine Tri.cut (X := Nat × CR × Seg) (fun y => CliR (sg y.2.2) y.2.1 c) (fun y => [(0, v), (3, .pointer (some ⟨q, 0, none⟩)), (4, .int .i64 (i : Nat)), (6, w6), (10, .int .i64 (k : Nat)), (11, .pointer (some ⟨y.1, 0, none⟩)), (12, .bool true)]) (fun y => [[(y.1, .cells y.2.1.cells.toArray 30 (0, 0))], y.2.2, Uo, Ui, T2]) ?_ ?_
 refine .region_all [12] mixed ?_
 refine .takeO 0 rfl .move (by kernel_rfl)<|.takeO 2 rfl .move (by kernel_rfl)<|.takeO 3 rfl .move (by kernel_rfl) ?_
 refine .takeO 4 rfl (.indexR k hU.sg hz rfl rfl rfl) (by kernel_rfl) ?_
 refine .takeO 5 rfl (.fieldAddr rfl) (by kernel_rfl)<|.takeO 6 rfl (.load1 rfl) (by kernel_rfl) ?_
 refine RA.step2 1 11 rfl rfl (by kernel_rfl) rfl ?_ ?_
 refine .callR (oclients_spec q gc _ _ _ _) (fun u hu => ?_)
 subst hu
 refine .nil (Next.sub ?_)
 refine RA.step2 7 11 rfl rfl (by kernel_rfl) rfl ?_ ?_
 refine .callN (cget_spec gc s2.cs Tc hR t.client _ (hinc _ _ (by simp))) (fun u T7 hu => ?_)
 obtain ⟨r1, rfl, hc1⟩ := hu
 rw [hsome]
 rw [hc, Option.getD_some] at hc1
 have ir1 : Ones r1.cells := ⟨hc1.ones⟩
 refine .nil (Next.sub ?_)
 refine .takeO 8 rfl .move (by kernel_rfl)<|.takeO 9 rfl .extract (by kernel_rfl)<|.take 10 rfl .extract (by kernel_rfl) ?_
 refine RA.step 11 rfl (by kernel_rfl) rfl ?_
 refine .allocA (fun b11 => ?_)
 refine .nil (Next.sub ?_)
 refine RA.step 12 rfl (by kernel_rfl) rfl ?_
 refine .storeA rfl rfl ?_
 refine .nil (Next.mod rfl ?_)
 refine .take 13 rfl .assign (by kernel_rfl) ?_
 refine RA.nil (by kernel_rfl) ?_
 ·first
   |exact joinQ_n (b11, r1, T7) hc1 (EnvLe.k7 rfl rfl rfl rfl rfl rfl rfl) (HLe.refl _)
   |exact joinQ_n (b11, r1, T7) hc1 (EnvLe.k7 rfl rfl rfl rfl rfl rfl rfl) (HLe.pick [1, 0, 0, 0, 0] _)
 refine .allocA (fun b11 => ?_)
 refine .nil (Next.sub ?_)
 refine RA.step 7 rfl (by kernel_rfl) rfl ?_
 refine .callN (cget_spec gc s2.cs Tc hR t.client _ (hinc _ _ (by simp))) (fun u T7 hu => ?_)
 obtain ⟨r1, rfl, hc1⟩ := hu
 rw [hsome]
 rw [hc, Option.getD_some] at hc1
 have ir1 : Ones r1.cells := ⟨hc1.ones⟩
 refine .nil (Next.sub ?_)
 refine .takeO 8 rfl .move (by kernel_rfl)<|.takeO 9 rfl .extract (by kernel_rfl)<|.take 10 rfl .extract (by kernel_rfl) ?_
 refine RA.step 12 rfl (by kernel_rfl) rfl ?_
 refine .storeA rfl rfl ?_
 refine .nil (Next.mod rfl ?_)
 refine .take 13 rfl .assign (by kernel_rfl) ?_
 refine RA.nil (by kernel_rfl) ?_
 ·first
   |exact joinQ_n (b11, r1, T7) hc1 (EnvLe.k7 rfl rfl rfl rfl rfl rfl rfl) (HLe.refl _)
   |exact joinQ_n (b11, r1, T7) hc1 (EnvLe.k7 rfl rfl rfl rfl rfl rfl rfl) (HLe.pick [1, 0, 0, 0, 0] _)
 refine .allocA (fun b11 => ?_)
 refine .nil (Next.sub ?_)
 refine RA.step 1 rfl (by kernel_rfl) rfl ?_
 refine .callR (oclients_spec q gc _ _ _ _) (fun u hu => ?_)
 subst hu
 refine .nil (Next.sub ?_)
 refine RA.step 7 rfl (by kernel_rfl) rfl ?_
 refine .callN (cget_spec gc s2.cs Tc hR t.client _ (hinc _ _ (by simp))) (fun u T7 hu => ?_)
 obtain ⟨r1, rfl, hc1⟩ := hu
 rw [hsome]
 rw [hc, Option.getD_some] at hc1
 have ir1 : Ones r1.cells := ⟨hc1.ones⟩
 refine .nil (Next.sub ?_)
 refine .takeO 8 rfl .move (by kernel_rfl)<|.takeO 9 rfl .extract (by kernel_rfl)<|.take 10 rfl .extract (by kernel_rfl) ?_
 refine RA.step 12 rfl (by kernel_rfl) rfl ?_
 refine .storeA rfl rfl ?_
 refine .nil (Next.mod rfl ?_)
 refine .take 13 rfl .assign (by kernel_rfl) ?_
 refine RA.nil (by kernel_rfl) ?_
 ·first
   |exact joinQ_n (b11, r1, T7) hc1 (EnvLe.k7 rfl rfl rfl rfl rfl rfl rfl) (HLe.refl _)
   |exact joinQ_n (b11, r1, T7) hc1 (EnvLe.k7 rfl rfl rfl rfl rfl rfl rfl) (HLe.pick [1, 0, 0, 0, 0] _)
 intro y hy
 obtain ⟨b11, ⟨rid, rsec, vu, vs⟩, T7⟩ := y
 have hc1 : CliR (sg T7) ⟨rid, rsec, vu, vs⟩ c := hy
 have iu := hc1.u.oneCell
 have is := hc1.s.oneCell
 simp only
 show Tri _ _ _ _ _ [[(b11, .cells [.string rid, .string rsec, vu, vs].toArray 30 (0, 0))], T7, Uo, Ui, T2] _
 refine seqQ_n<|.seq<|.region_all [] mixed ?_
 refine .takeO 0 rfl .move (by kernel_rfl)<|.takeO 1 rfl .not (by kernel_rfl)<|.takeO 2 rfl .move (by kernel_rfl) ?_
 refine RA.split (t := 119) rfl (fun g19_2 => ?_) (fun g19_2 => ?_)
 ·simp at g19_2
 refine .takeGhO 3 rfl rfl g19_2 .move (by kernel_rfl) ?_
 refine .takeGhO 4 rfl rfl g19_2 .move (by kernel_rfl) ?_
 refine .takeGhO 5 rfl rfl g19_2 (.indexR k hU.sg hz rfl rfl rfl) (by kernel_rfl) ?_
 refine .takeGhO 6 rfl rfl g19_2 (.fieldAddr rfl) (by kernel_rfl) ?_
 refine .takeGhO 7 rfl rfl g19_2 (.load1 rfl) (by kernel_rfl) ?_
 refine .takeGhO 8 rfl rfl g19_2 (.fieldAddr rfl) (by kernel_rfl) ?_
 refine .takeGhO 9 rfl rfl g19_2 (.load1 rfl) (by kernel_rfl) ?_
 refine RA.step 10 rfl (by kernel_rfl) rfl ?_
 refine .gT g19_2 ?_
 refine .callR (orwithin_spec wt vs t.scopes c.scopes _ (RS.mono ht fun b o hb => .inr (by have hb' : (b, o) ∈ Ui := hb.1; simp [hb'])) (hc1.s.mono fun b o hb => .inr (by have hb' : (b, o) ∈ T7 := hb; simp [hb']))) (fun u hu => ?_)
 rw [hw1] at hu
 subst hu
 refine .nil (Next.sub ?_)
 refine .takeGhO 11 rfl rfl g19_2 .not (by kernel_rfl) ?_
 refine .takeO 12 rfl (.pickFh g19_2) (by kernel_rfl) ?_
 refine .takeO 13 rfl .move (by kernel_rfl) ?_
 refine RA.split (t := 130) rfl (fun g19_13 => ?_) (fun g19_13 => ?_)
 ·simp at g19_13
 refine .takeGhO 14 rfl rfl g19_13 .move (by kernel_rfl) ?_
 refine .takeGhO 15 rfl rfl g19_13 .move (by kernel_rfl) ?_
 refine .takeGhO 16 rfl rfl g19_13 (.indexR k hU.sg hz rfl rfl rfl) (by kernel_rfl) ?_
 refine .takeGhO 17 rfl rfl g19_13 (.fieldAddr rfl) (by kernel_rfl) ?_
 refine .takeGhO 18 rfl rfl g19_13 (.load1 rfl) (by kernel_rfl) ?_
 refine .takeGhO 19 rfl rfl g19_13 .move (by kernel_rfl) ?_
 refine .takeGhO 21 rfl rfl g19_13 .move (by kernel_rfl) ?_
 refine .takeGhO 22 rfl rfl g19_13 .move (by kernel_rfl) ?_
 refine .takeGhO 23 rfl rfl g19_13 (.indexR k hU.sg hz rfl rfl rfl) (by kernel_rfl) ?_
 refine .takeGhO 24 rfl rfl g19_13 (.fieldAddr rfl) (by kernel_rfl) ?_
 refine .takeGhO 25 rfl rfl g19_13 (.load1 rfl) (by kernel_rfl) ?_
 refine .takeGhO 26 rfl rfl g19_13 .move (by kernel_rfl) ?_
 refine .takeGhO 27 rfl rfl g19_13 .move (by kernel_rfl) ?_
 refine .takeGhO 28 rfl rfl g19_13 (.indexR k hU.sg hz rfl rfl rfl) (by kernel_rfl) ?_
 refine .takeGhO 29 rfl rfl g19_13 (.fieldAddr rfl) (by kernel_rfl) ?_
 refine .takeGhO 30 rfl rfl g19_13 (.load1 rfl) (by kernel_rfl) ?_
 refine RA.step 20 rfl (by kernel_rfl) rfl ?_
 refine .gT g19_13 ?_
 refine .callR (obook_spec q gc gb _ _ _) (fun u hu => ?_)
 subst hu
 refine .nil (Next.sub ?_)
 refine RA.step 31 rfl (by kernel_rfl) rfl ?_
 refine .gT g19_13 ?_
 refine .callN (gscopes_spec gb s2.C s2.A Tb hG t.user t.client _ (hinb _ _ (by simp)) hbC) (fun u T8 hO8 => ?_)
 have io8 := hO8.oneCell
 refine .nil (Next.sub ?_)
 refine RA.step 32 rfl (by kernel_rfl) rfl ?_
 refine .gT g19_13 ?_
 refine .callR (orwithin_spec wt u t.scopes (scopesOf s2.C t.user t.client) _ (RS.mono ht fun b o hb => .inr (by have hb' : (b, o) ∈ Ui := hb.1; simp [hb'])) hO8.rx) (fun u hu => ?_)
 rw [hw2] at hu
 subst hu
 refine .nil (Next.sub ?_)
 refine .takeGhO 33 rfl rfl g19_13 .not (by kernel_rfl) ?_
 refine .takeO 34 rfl (.pickFh g19_13) (by kernel_rfl) ?_
 refine RA.nil (by kernel_rfl) ?_
 refine seqQ_n ?_
 refine .cond rfl (fun h6 => ?_) (fun h6 => ?_)
 ·exfalso
  simp at h6
 refine .skip<|blkQ_n<|seqQ_n<|.region<|.mo rfl ?_
 refine .q (.i64 ((k + 1 : Nat) : Int) .add ⟨by omega, by omega, by omega⟩) ?_
 refine .ag rfl<|.nil ?_
 ·first
   |exact loopQ_i (k + 1) hlt (by omega) (EnvLe.k5 rfl rfl rfl rfl rfl) (HLe.pick [3, 3, 3] _)
   |exact loopQ_i (k + 1) hlt (by omega) (EnvLe.k5 rfl rfl rfl rfl rfl) (HLe.pick [2, 2, 2] _)
 refine .exit<|seqQ_x<|loopQ_x<|blkQ_x<|blkQ_n<|seqQ_n<|.region<|.mo rfl ?_
 refine .q (.i64 ((i + 1 : Nat) : Int) .add ⟨by omega, by omega, by omega⟩) ?_
 refine .ag rfl<|.nil ?_
 ·exact loopQ_i (i + 1, s2, T2) ⟨⟨hlt, hl30⟩, hC2, hB2, hW2⟩ (by simp only; omega) (EnvLe.k3 rfl rfl rfl) (HLe.pick [2] _)
 refine .exit<|seqQ_x<|loopQ_x<|blkQ_x<|seqQ_n<|.sr ?_
 refine .callR (olives_spec _) (fun u hu => ?_)
 subst hu
 refine .ag rfl<|.zn ?_
 refine .ret (retQ_r _ (.one (.tmp rfl)) (.none _) ?_)
 ·exact ⟨rfl, rfl⟩
 refine .gF g5_4<|.gF g5_4<|.q (.pickFh g5_4) ?_
 refine .zn<|.condF<|.exit<|seqQ_x<|loopQ_x<|blkQ_x<|seqQ_n<|.sr ?_
 refine .callR (olives_spec _) (fun u hu => ?_)
 subst hu
 refine .ag rfl<|.zn ?_
 refine .ret (retQ_r _ (.one (.tmp rfl)) (.none _) ?_)
 ·exact ⟨rfl, rfl⟩
end Go.Proofs.YtkagfkbkpiebjaaGreatDoor
