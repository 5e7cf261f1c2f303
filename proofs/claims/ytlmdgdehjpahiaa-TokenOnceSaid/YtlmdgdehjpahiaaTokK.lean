/- Layer 29's law: a refresh token is rotated once at most. No condition. -/
import Derived.Test.YtlmdgdehjpahiaaTokI
set_option linter.unusedVariables false
set_option maxRecDepth 4000
namespace Go.Proofs.Ytlmdgdehjpahiaa
structure TDo where
  kind : Int
  w : Value
  t : Tok
  text : ByteArray
  client : ByteArray
  user : ByteArray
  family : Int
  now : Int
def TDo.enc (d : TDo) : List Value := [.int .i64 d.kind, .string d.t.text, .int .i64 d.t.kind, .string d.t.client, .string d.t.user, d.w, .int .i64 d.t.family, .int .i64 d.t.expires, .int .u64 d.t.rev, .bool d.t.used, .string d.text, .string d.client, .string d.user, .int .i64 d.family, .int .i64 d.now]
theorem tput_zero {A : List (ByteArray × Tok)} {last : Int} {t : Tok} (h : (tput A last t).1 = 0) : (tput A last t).2 = kset t.text t.fresh A ∧ mget t.text A = none ∧ rightB t last = true := by
  unfold tput at h ⊢
  split at h
  · cases h
  · split at h
    · cases h
    · split at h
      · cases h
      · rename_i h1 h2 h3
        rw [if_neg h1, if_neg h2, if_neg h3]
        exact ⟨rfl, by simpa using h2, by simpa using h1⟩
theorem tput_else {A : List (ByteArray × Tok)} {last : Int} {t : Tok} (h : (tput A last t).1 ≠ 0) : (tput A last t).2 = A := by
  unfold tput at h ⊢
  split
  · rfl
  · split
    · rfl
    · split
      · rfl
      · rename_i h1 h2 h3
        rw [if_neg h1, if_neg h2, if_neg h3] at h
        exact absurd rfl h
theorem trot_facts {A : List (ByteArray × Tok)} {k client : ByteArray} {now : Int} {t : Tok} (hm : mget k A = some t) :
    ((trot A k client now).2.1 = 0 → t.kind = 2 ∧ t.client = client ∧ t.used = false ∧ now < t.expires ∧ (trot A k client now).1 = t.mark ∧ (trot A k client now).2.2 = kset k t.mark A) ∧
    ((trot A k client now).2.1 = 10 → t.kind = 2 ∧ t.client = client ∧ t.used = true ∧ (trot A k client now).2.2 = A.filter fun x => !(x.2.family == t.family)) ∧
    ((trot A k client now).2.1 ≠ 0 → (trot A k client now).2.1 ≠ 10 → (trot A k client now).2.2 = A ∧ (t.kind = 2 → t.client = client → t.used = false)) := by
  unfold trot
  rw [hm]
  simp only
  split
  · rename_i h
    refine ⟨fun h1 => (by cases h1), fun h1 => (by cases h1), fun _ _ => ⟨rfl, fun h1 h2 => ?_⟩⟩
    rcases h with h | h
    · exact absurd h1 h
    · exact absurd h2 h
  · rename_i h
    have h1 : t.kind = 2 ∧ t.client = client := by
      refine ⟨?_, ?_⟩
      · exact Classical.byContradiction fun hh => h (.inl hh)
      · exact Classical.byContradiction fun hh => h (.inr hh)
    split
    · rename_i hu
      exact ⟨fun h2 => (by cases h2), fun _ => ⟨h1.1, h1.2, hu, rfl⟩, fun _ h2 => absurd rfl h2⟩
    · rename_i hu
      have hu' : t.used = false := by simpa using hu
      split
      · exact ⟨fun h2 => (by cases h2), fun h2 => (by cases h2), fun _ _ => ⟨rfl, fun _ _ => hu'⟩⟩
      · rename_i he
        exact ⟨fun _ => ⟨h1.1, h1.2, hu', by omega, rfl, rfl⟩, fun h2 => (by cases h2), fun h2 _ => absurd rfl h2⟩
def tst (n : Nat) (t : Tok) : Tok := if n = 0 then t.fresh else t.fresh.mark
theorem tst_kind (n : Nat) (t : Tok) : (tst n t).kind = t.kind ∧ (tst n t).client = t.client ∧ (tst n t).family = t.family ∧ (tst n t).expires = t.expires ∧ (tst n t).used = decide (n ≠ 0) := by
  unfold tst
  split
  · rename_i h; subst h; exact ⟨rfl, rfl, rfl, rfl, rfl⟩
  · rename_i h; rw [decide_eq_true h]; exact ⟨rfl, rfl, rfl, rfl, rfl⟩
theorem tonce_spec (v : Value) (ps : List TP) (which : Int) (vt : Value) (ds : List TDo) (R : Rds) (h : RS R 9 encT v ps) (hc : ∀ p ∈ ps, TokR R p) (hD : RS R 15 TDo.enc vt ds) :
    Spec Try.prog 13 [v, .int .i64 which, vt] R [] fun u H' => u = .bool true ∧ H' = [] := by
  have hle := h.le
  have hdle := hD.le
  obtain ⟨pv, kv_, rfl⟩ := h.val
  obtain ⟨pd_, kd_, rfl⟩ := hD.val
  refine Spec.body Try.func13 rfl Try.results13 Try.ntmps13 rfl ?_
  refine .seq ?_
  refine .region ?_
  refine TriOps.q .assign ?_
  refine .nil ?_
  refine seqQ_n ?_
  refine .seq ?_
  refine .region ?_
  refine TriOps.callN (vnew_spec _) (fun u T0 hu => ?_)
  obtain ⟨g, rfl, hg⟩ := hu
  refine TriOps.q .assign ?_
  refine .nil ?_
  refine seqQ_n ?_
  refine .seq ?_
  refine .seq ?_
  refine .region ?_
  refine TriOps.q .move ?_
  refine TriOps.q (.eqNilA rfl rfl) ?_
  refine .nil ?_
  refine seqQ_n ?_
  refine .condF ?_
  refine .skip ?_
  refine seqQ_n ?_
  refine .seq ?_
  refine .seq ?_
  refine .region ?_
  refine TriOps.q .assign ?_
  refine .nil ?_
  refine seqQ_n ?_
  refine .block ?_
  refine .loop (X := Nat × Seg) (fun y => y.1 ≤ 4 ∧ VI g [] (y.1 : Nat) y.2) (fun y => [(0, .slice pv ps.length kv_), (1, .int .i64 which), (2, .slice pd_ ds.length kd_), (7, .pointer (some ⟨g, 0, none⟩)), (8, .int .i64 (y.1 : Nat))]) (fun y => [y.2]) (fun y => 4 - y.1) (0, T0) ⟨by omega, hg⟩ ((((((EnvLe.nil _).cons rfl).cons rfl).cons rfl).cons rfl).cons rfl) (HLe.refl _) ?_
  rintro ⟨i, T⟩ ⟨hi, hV⟩
  simp only at hi hV ⊢
  refine .seq ?_
  refine .seq ?_
  refine .region ?_
  refine TriOps.q .move ?_
  refine TriOps.q .lss ?_
  refine .nil ?_
  refine seqQ_n ?_
  refine .cond rfl (fun h2 => ?_) (fun h2 => ?_)
  · skip
    have hlt : i < 4 := by have := of_decide_eq_true h2; omega
    refine .skip ?_
    refine seqQ_n ?_
    refine .seq ?_
    refine .block ?_
    refine .region ?_
    refine TriOps.q .move ?_
    refine TriOps.callM (vfamily_spec g [] _ T hV (by omega) (by omega) _) (fun u T1 hu => ?_)
    obtain ⟨rfl, hV1⟩ := hu
    refine .nil ?_
    refine blkQ_n (seqQ_n ?_)
    refine .region ?_
    refine TriOps.q .move ?_
    refine TriOps.q (.i64 ((i + 1 : Nat) : Int) .add ⟨by omega, by omega, by omega⟩) ?_
    refine TriOps.q .assign ?_
    refine .nil ?_
    exact loopQ_i (i + 1, T1) ⟨by simp only; omega, hV1⟩ (by simp only; omega) ((((((EnvLe.nil _).cons rfl).cons rfl).cons rfl).cons rfl).cons rfl) (HLe.refl _)
  · skip
    have hi4 : i = 4 := by have := of_decide_eq_false h2; omega
    subst hi4
    refine Tri.le (EnvLe.refl _) (H' := [T, [], []]) (HLe.ofPerm (by simp)) ?_
    refine .exit (seqQ_x (loopQ_x (blkQ_x ?_)))
    refine seqQ_n ?_
    refine .seq ?_
    refine .region ?_
    refine TriOps.q .assign ?_
    refine .nil ?_
    refine seqQ_n ?_
    refine .seq ?_
    refine .seq ?_
    refine .region ?_
    refine TriOps.q .assign ?_
    refine .nil ?_
    refine seqQ_n ?_
    refine Tri.cut (X := List (ByteArray × Tok) × List TP × Value × Seg × Seg × Seg) (fun y => (y.1.length ≤ 12 ∧ y.2.1.length ≤ 12) ∧ VI g y.1 4 y.2.2.2.1 ∧ OS 75 9 encT y.2.2.1 y.2.1 y.2.2.2.2.1 ∧ (∀ p ∈ y.2.1, TokR (sg0 y.2.2.2.2.2) p ∧ mget p.2.text y.1 = some p.2.fresh)) (fun y => [(1, .int .i64 which), (2, .slice pd_ ds.length kd_), (7, .pointer (some ⟨g, 0, none⟩)), (9, y.2.2.1)]) (fun y => [y.2.2.2.1, y.2.2.2.2.1, y.2.2.2.2.2]) ?_ ?_
    · refine .block ?_
      refine .loop (X := Nat × List (ByteArray × Tok) × List TP × Value × Seg × Seg × Seg) (fun y => (y.1 ≤ ps.length ∧ y.1 ≤ 12 ∧ y.2.1.length ≤ y.1 ∧ y.2.2.1.length ≤ y.1) ∧ VI g y.2.1 4 y.2.2.2.2.1 ∧ OS 75 9 encT y.2.2.2.1 y.2.2.1 y.2.2.2.2.2.1 ∧ (∀ p ∈ y.2.2.1, TokR (sg0 y.2.2.2.2.2.2) p ∧ mget p.2.text y.2.1 = some p.2.fresh)) (fun y => [(0, .slice pv ps.length kv_), (1, .int .i64 which), (2, .slice pd_ ds.length kd_), (7, .pointer (some ⟨g, 0, none⟩)), (9, y.2.2.2.1), (10, .int .i64 (y.1 : Nat))]) (fun y => [y.2.2.2.2.1, y.2.2.2.2.2.1, y.2.2.2.2.2.2]) (fun y => ps.length - y.1) (0, [], [], .slice none 0 0, T, [], []) ⟨⟨by omega, by omega, by simp, by simp⟩, hV, OS.nil, by simp⟩ (((((((EnvLe.nil _).cons rfl).cons rfl).cons rfl).cons rfl).cons rfl).cons rfl) (HLe.ofPerm (by simp)) ?_
      clear hV T
      rintro ⟨i, A, qs, vb, T, To, Td⟩ ⟨⟨hi, hi12, hAl, hql⟩, hV, hO, hqc⟩
      simp only at hi hi12 hAl hql hV hO hqc ⊢
      have i1 := hO.oneCell
      refine .seq ?_
      refine .seq ?_
      refine .region ?_
      refine TriOps.q .move ?_
      refine TriOps.q .move ?_
      refine TriOps.q (.lenR h) ?_
      refine TriOps.q .lss ?_
      refine TriOps.q .move ?_
      refine TriOps.split (t := 32) rfl (fun g10_4 => ?_) (fun g10_4 => ?_)
      · skip
        refine TriOps.gT g10_4 ?_
        refine TriOps.q .move ?_
        refine TriOps.gT g10_4 ?_
        refine TriOps.q .lss ?_
        refine TriOps.q (.pickTh g10_4) ?_
        refine .nil ?_
        refine seqQ_n ?_
        refine .cond rfl (fun h3 => ?_) (fun h3 => ?_)
        · skip
          have hlt : i < ps.length ∧ i < 12 := by simp at g10_4 h3; omega
          obtain ⟨⟨wz, tz⟩, hz⟩ : ∃ z, ps[i]? = some z := ⟨_, List.getElem?_eq_getElem hlt.1⟩
          have cz := hc _ (List.mem_of_getElem? hz)
          have iz : Ones (encT (wz, tz)) := ⟨cz.ones⟩
          have pz := h.pc hz
          refine .skip ?_
          refine seqQ_n ?_
          refine .seq ?_
          refine .block ?_
          refine .seq ?_
          refine .region ?_
          refine TriOps.q .move ?_
          refine TriOps.q .move ?_
          refine TriOps.q .move ?_
          refine TriOps.indexR i h hz (fun p41 => ?_)
          refine TriOps.q (.loadA rfl) ?_
          refine TriOps.callN (tmine_spec wz tz _ (cz.mono fun b o hb => .inl hb)) (fun w T1 hw => ?_)
          obtain ⟨w1, rfl, hc1⟩ := hw
          have iz1 : Ones (encT (w1, tz.short)) := ⟨hc1.ones⟩
          refine TriOps.callW (vPut_spec g A 4 T hV w1 tz.short _ (hc1.mono fun b o hb => .inr (by have hb' : (b, o) ∈ T1 := hb.1; simp [hb'])) tz.short_few) (fun w T2 hw => ?_)
          obtain ⟨rfl, hV2⟩ := hw
          refine TriOps.q .eqI ?_
          refine .nil ?_
          refine seqQ_n ?_
          refine .cond rfl (fun h4 => ?_) (fun h4 => ?_)
          · skip
            obtain ⟨hp1, hp2, _⟩ := tput_zero (A := A) (last := 4) (t := tz.short) (by simpa using h4)
            rw [hp1] at hV2
            refine .region ?_
            refine TriOps.q .move ?_
            refine TriOps.q .move ?_
            refine TriOps.q .move ?_
            refine TriOps.indexR i h hz (fun p49 => ?_)
            refine TriOps.q (.loadA rfl) ?_
            refine TriOps.callN (tshort_spec wz tz _ (cz.mono fun b o hb => .inl hb)) (fun w T3 hw => ?_)
            obtain ⟨w2, rfl, hc2⟩ := hw
            have iz2 : Ones (encT (w2, tz.short)) := ⟨hc2.ones⟩
            refine TriOps.buildSlice1A (fun b52 => ?_)
            refine TriOps.append hO (RS.lits (xs := [((w2, tz.short) : TP)]) rfl (by simp [encT]) (by have := hc2.ones; simpa using this)) (by simp; omega) (fun vb2 To2 hO2 => ?_)
            refine TriOps.q .assign ?_
            refine .nil ?_
            refine blkQ_n (seqQ_n ?_)
            refine .region ?_
            refine TriOps.q .move ?_
            refine TriOps.q (.i64 ((i + 1 : Nat) : Int) .add ⟨by omega, by omega, by omega⟩) ?_
            refine TriOps.q .assign ?_
            refine .nil ?_
            first
              | exact loopQ_i (i + 1, A, qs, vb, T2, To, Td) ⟨⟨by simp only; omega, by simp only; omega, by simp only; omega, by simp only; omega⟩, hV2, hO, hqc⟩ (by simp only; omega) (((((((EnvLe.nil _).cons rfl).cons rfl).cons rfl).cons rfl).cons rfl).cons rfl) (HLe.pick [1, 1, 1] _)
              | refine loopQ_i (i + 1, kset tz.short.text tz.short.fresh A, qs ++ [(w2, tz.short)], vb2, T2, To2, T3 ++ Td) ⟨⟨by simp only; omega, by simp only; omega, by have := kset_length (k := tz.short.text) (x := tz.short.fresh) (A := A); simp only; omega, by simp; omega⟩, hV2, hO2, fun p hp => ?_⟩ (by simp only; omega) (((((((EnvLe.nil _).cons rfl).cons rfl).cons rfl).cons rfl).cons rfl).cons rfl) ((HLe.pick [3, 3, 1, 2] _).trans (HLe.ofPerm (by simp [take, dropAt])))
                rcases List.mem_append.1 hp with hp | hp
                · refine ⟨(hqc p hp).1.mono fun b o hb => sg0_right hb, ?_⟩
                  rw [mget_kset, if_neg]
                  · exact (hqc p hp).2
                  · intro he
                    have := (hqc p hp).2
                    rw [he, hp2] at this; cases this
                · simp only [List.mem_singleton] at hp; subst hp
                  exact ⟨hc2.mono fun b o hb => sg0_left hb, by rw [mget_kset, if_pos rfl]⟩
          · skip
            have hp1 := tput_else (A := A) (last := 4) (t := tz.short) (by simpa using h4)
            rw [hp1] at hV2
            refine .skip ?_
            refine blkQ_n (seqQ_n ?_)
            refine .region ?_
            refine TriOps.q .move ?_
            refine TriOps.q (.i64 ((i + 1 : Nat) : Int) .add ⟨by omega, by omega, by omega⟩) ?_
            refine TriOps.q .assign ?_
            refine .nil ?_
            first
              | exact loopQ_i (i + 1, A, qs, vb, T2, To, Td) ⟨⟨by simp only; omega, by simp only; omega, by simp only; omega, by simp only; omega⟩, hV2, hO, hqc⟩ (by simp only; omega) (((((((EnvLe.nil _).cons rfl).cons rfl).cons rfl).cons rfl).cons rfl).cons rfl) (HLe.pick [1, 1, 1] _)
              | refine loopQ_i (i + 1, kset tz.short.text tz.short.fresh A, qs ++ [(w2, tz.short)], vb2, T2, To2, T3 ++ Td) ⟨⟨by simp only; omega, by simp only; omega, by have := kset_length (k := tz.short.text) (x := tz.short.fresh) (A := A); simp only; omega, by simp; omega⟩, hV2, hO2, fun p hp => ?_⟩ (by simp only; omega) (((((((EnvLe.nil _).cons rfl).cons rfl).cons rfl).cons rfl).cons rfl).cons rfl) ((HLe.pick [3, 3, 1, 2] _).trans (HLe.ofPerm (by simp [take, dropAt])))
                rcases List.mem_append.1 hp with hp | hp
                · refine ⟨(hqc p hp).1.mono fun b o hb => sg0_right hb, ?_⟩
                  rw [mget_kset, if_neg]
                  · exact (hqc p hp).2
                  · intro he
                    have := (hqc p hp).2
                    rw [he, hp2] at this; cases this
                · simp only [List.mem_singleton] at hp; subst hp
                  exact ⟨hc2.mono fun b o hb => sg0_left hb, by rw [mget_kset, if_pos rfl]⟩
        · skip
          refine .exit (seqQ_x (loopQ_x (blkQ_x ?_)))
          exact joinQ_n (A, qs, vb, T, To, Td) ⟨⟨by simp only; omega, by simp only; omega⟩, hV, hO, hqc⟩ (((((EnvLe.nil _).cons rfl).cons rfl).cons rfl).cons rfl) (HLe.refl _)
      · skip
        refine TriOps.gF g10_4 ?_
        refine TriOps.gF g10_4 ?_
        refine TriOps.q (.pickFh g10_4) ?_
        refine .nil ?_
        refine seqQ_n ?_
        refine .condF ?_
        refine .exit (seqQ_x (loopQ_x (blkQ_x ?_)))
        exact joinQ_n (A, qs, vb, T, To, Td) ⟨⟨by simp only; omega, by simp only; omega⟩, hV, hO, hqc⟩ (((((EnvLe.nil _).cons rfl).cons rfl).cons rfl).cons rfl) (HLe.refl _)
    · intro x hx
      obtain ⟨A, qs, vb, T, To, Td⟩ := x
      obtain ⟨⟨hAl, hql⟩, hV, hO, hqc⟩ := hx
      simp only at hAl hql hV hO hqc ⊢
      have i1 := hO.oneCell
      refine seqQ_n ?_
      refine .seq ?_
      refine .seq ?_
      refine .region ?_
      refine TriOps.q .move ?_
      refine TriOps.q (.lenO hO) ?_
      refine TriOps.q .eqI ?_
      refine .nil ?_
      refine seqQ_n ?_
      refine .cond rfl (fun h5 => ?_) (fun h5 => ?_)
      · skip
        refine .seq ?_
        refine .region ?_
        refine TriOps.callR (tlives_spec _) (fun w hw => ?_)
        subst hw
        refine TriOps.q .assign ?_
        refine .nil ?_
        refine seqQ_n ?_
        refine .ret (seqQ_r (retQ_r _ (.one (.tmp rfl)) (.none _) ?_))
        exact ⟨rfl, rfl⟩
      · skip
        have hq0 : 0 < qs.length := by
          have h9 : ((qs.length : Int) == 0) = false := h5
          rcases Nat.eq_zero_or_pos qs.length with h8 | h8
          · rw [h8] at h9; cases h9
          · exact h8
        refine .skip ?_
        refine seqQ_n ?_
        refine .seq ?_
        refine .seq ?_
        refine Tri.cut (X := Unit) (fun _ => True) (fun _ => [(1, .int .i64 which), (2, .slice pd_ ds.length kd_), (7, .pointer (some ⟨g, 0, none⟩)), (9, vb), (65, .bool (decide (which < 0) || decide ((qs.length : Int) ≤ which)))]) (fun _ => [T, To, Td]) ?_ ?_
        · skip
          refine .region ?_
          refine TriOps.q .move ?_
          refine TriOps.q .lss ?_
          refine TriOps.q .move ?_
          refine TriOps.split (t := 60) rfl (fun g16_2 => ?_) (fun g16_2 => ?_)
          · skip
            have hwb : (decide (which < 0) || decide ((qs.length : Int) ≤ which)) = true := by rw [g16_2]; rfl
            refine TriOps.gF g16_2 ?_
            refine TriOps.gF g16_2 ?_
            refine TriOps.gF g16_2 ?_
            refine TriOps.gF g16_2 ?_
            refine TriOps.q (.pickTh g16_2) ?_
            refine .nil ?_
            exact joinQ_n () trivial (by rw [hwb]; exact (((((EnvLe.nil _).cons rfl).cons rfl).cons rfl).cons rfl).cons rfl) (HLe.refl _)
          · skip
            have hwb : (decide (which < 0) || decide ((qs.length : Int) ≤ which)) = decide ((qs.length : Int) ≤ which) := by rw [g16_2]; rfl
            refine TriOps.gT g16_2 ?_
            refine TriOps.q .move ?_
            refine TriOps.gT g16_2 ?_
            refine TriOps.q .move ?_
            refine TriOps.gT g16_2 ?_
            refine TriOps.q (.lenO hO) ?_
            refine TriOps.gT g16_2 ?_
            refine TriOps.q .geq ?_
            refine TriOps.q (.pickFh g16_2) ?_
            refine .nil ?_
            exact joinQ_n () trivial (by rw [hwb]; exact (((((EnvLe.nil _).cons rfl).cons rfl).cons rfl).cons rfl).cons rfl) (HLe.refl _)
        · intro y hy
          refine seqQ_n ?_
          refine Tri.cut (X := Nat) (fun k => k < qs.length) (fun k => [(1, .int .i64 (k : Nat)), (2, .slice pd_ ds.length kd_), (7, .pointer (some ⟨g, 0, none⟩)), (9, vb)]) (fun _ => [T, To, Td]) ?_ ?_
          ·
            refine .cond rfl (fun h6 => ?_) (fun h6 => ?_)
            · skip
              refine .region ?_
              refine TriOps.q .assign ?_
              refine .nil ?_
              first
                | exact joinQ_n k (by simp at h6; omega) (((((EnvLe.nil _).cons rfl).cons rfl).cons rfl).cons rfl) (HLe.refl _)
                | exact joinQ_n 0 hq0 (((((EnvLe.nil _).cons rfl).cons rfl).cons rfl).cons rfl) (HLe.refl _)
            · skip
              obtain ⟨k, rfl⟩ : ∃ k : Nat, which = k := ⟨which.toNat, by simp at h6; omega⟩
              refine .skip ?_
              first
                | exact joinQ_n k (by simp at h6; omega) (((((EnvLe.nil _).cons rfl).cons rfl).cons rfl).cons rfl) (HLe.refl _)
                | exact joinQ_n 0 hq0 (((((EnvLe.nil _).cons rfl).cons rfl).cons rfl).cons rfl) (HLe.refl _)
          · intro x hx
            obtain ⟨⟨wk, tk⟩, hk⟩ : ∃ z, qs[x]? = some z := ⟨_, List.getElem?_eq_getElem hx⟩
            obtain ⟨ck, hmk⟩ := hqc _ (List.mem_of_getElem? hk)
            have ik : Ones (encT (wk, tk)) := ⟨ck.ones⟩
            simp only at hmk
            refine seqQ_n ?_
            refine .seq ?_
            refine .region ?_
            refine TriOps.q .move ?_
            refine TriOps.q .move ?_
            refine TriOps.indexO x hO hk (fun p68 => ?_)
            refine TriOps.q (.loadA rfl) ?_
            refine TriOps.allocA (fun b11 => ?_)
            refine TriOps.storeA rfl rfl ?_
            refine .nil ?_
            refine seqQ_n ?_
            refine .seq ?_
            refine .region ?_
            refine TriOps.q .assign ?_
            refine .nil ?_
            refine seqQ_n ?_
            refine .seq ?_
            refine .seq ?_
            refine .region ?_
            refine TriOps.q .assign ?_
            refine .nil ?_
            refine seqQ_n ?_
            refine .block ?_
            refine .loop (X := Nat × Nat × List (ByteArray × Tok) × Seg) (fun y => (y.1 ≤ ds.length ∧ y.1 ≤ 12 ∧ y.2.1 ≤ 1 ∧ y.2.2.1.length ≤ 12 + y.1) ∧ VI g y.2.2.1 4 y.2.2.2 ∧ mget tk.text y.2.2.1 = some (tst y.2.1 tk)) (fun y => [(2, .slice pd_ ds.length kd_), (7, .pointer (some ⟨g, 0, none⟩)), (11, .pointer (some ⟨b11, 0, none⟩)), (12, .int .i64 (y.2.1 : Nat)), (13, .int .i64 (y.1 : Nat))]) (fun y => [y.2.2.2, [(b11, .cells (encT (wk, tk)).toArray 75 (0, 0))]]) (fun y => ds.length - y.1) (0, 0, A, T) ⟨⟨by simp only; omega, by simp only; omega, by simp only; omega, by simp only; omega⟩, hV, hmk⟩ ((((((EnvLe.nil _).cons rfl).cons rfl).cons rfl).cons rfl).cons rfl) (HLe.pick [1, 0] _) ?_
            clear hV hAl hql hqc
            rintro ⟨j, n, A, T⟩ ⟨⟨hj, hj12, hn, hAl⟩, hV, hm⟩
            simp only at hj hj12 hn hAl hV hm ⊢
            obtain ⟨hs1, hs2, hs3, hs4, hs5⟩ := tst_kind n tk
            refine .seq ?_
            refine .seq ?_
            refine .region ?_
            refine TriOps.q .move ?_
            refine TriOps.q .move ?_
            refine TriOps.q (.lenR hD) ?_
            refine TriOps.q .lss ?_
            refine TriOps.q .move ?_
            refine TriOps.split (t := 74) rfl (fun g21_4 => ?_) (fun g21_4 => ?_)
            · skip
              refine TriOps.gT g21_4 ?_
              refine TriOps.q .move ?_
              refine TriOps.gT g21_4 ?_
              refine TriOps.q .lss ?_
              refine TriOps.q (.pickTh g21_4) ?_
              refine .nil ?_
              refine seqQ_n ?_
              refine .cond rfl (fun h7 => ?_) (fun h7 => ?_)
              · skip
                have hlt : j < ds.length ∧ j < 12 := by simp at g21_4 h7; omega
                obtain ⟨d, hd⟩ : ∃ d, ds[j]? = some d := ⟨_, List.getElem?_eq_getElem hlt.1⟩
                have pd := hD.pc hd
                have id9 : Ones d.enc := ⟨hD.one d (List.mem_of_getElem? hd)⟩
                obtain ⟨hf1, hf2, hf3⟩ := trot_facts (client := d.client) (now := d.now) hm
                refine .skip ?_
                refine seqQ_n ?_
                refine .seq ?_
                refine .block ?_
                refine .seq ?_
                refine Tri.cut (X := Value × Seg × Seg × Nat) (fun y => TokR (sg0 y.2.2.1) (y.1, (trot A tk.text d.client d.now).1) ∧ VI g (trot A tk.text d.client d.now).2.2 4 y.2.1) (fun y => [(2, .slice pd_ ds.length kd_), (7, .pointer (some ⟨g, 0, none⟩)), (11, .pointer (some ⟨b11, 0, none⟩)), (12, .int .i64 (n : Nat)), (13, .int .i64 (j : Nat)), (14, .pointer (some ⟨y.2.2.2, 0, none⟩)), (15, .int .i64 (trot A tk.text d.client d.now).2.1)]) (fun y => [[(y.2.2.2, .cells (encT (y.1, (trot A tk.text d.client d.now).1)).toArray 73 (0, 0))], y.2.1, [(b11, .cells (encT (wk, tk)).toArray 75 (0, 0))]]) ?_ ?_
                · skip
                  refine .region_all [13, 18] mixed ?_
                  refine RA.takeO 0 rfl .move (by kernel_rfl) ?_
                  refine RA.takeO 1 rfl (.fieldAddr rfl) (by kernel_rfl) ?_
                  refine RA.takeO 2 rfl (.load1 rfl) (by kernel_rfl) ?_
                  refine RA.takeO 3 rfl .move (by kernel_rfl) ?_
                  refine RA.takeO 4 rfl .move (by kernel_rfl) ?_
                  refine RA.takeO 5 rfl (.indexR j hD hd rfl rfl rfl) (by kernel_rfl) ?_
                  refine RA.takeO 6 rfl (.fieldAddr rfl) (by kernel_rfl) ?_
                  refine RA.takeO 7 rfl (.load1 rfl) (by kernel_rfl) ?_
                  refine RA.takeO 8 rfl .move (by kernel_rfl) ?_
                  refine RA.takeO 9 rfl .move (by kernel_rfl) ?_
                  refine RA.takeO 10 rfl (.indexR j hD hd rfl rfl rfl) (by kernel_rfl) ?_
                  refine RA.takeO 11 rfl (.fieldAddr rfl) (by kernel_rfl) ?_
                  refine RA.takeO 12 rfl (.load1 rfl) (by kernel_rfl) ?_
                  refine RA.step2 13 17 rfl rfl (by kernel_rfl) rfl ?_ ?_
                  · skip
                    first
                      | refine TriOps.call [0] (vrotate_spec g A 4 T hV tk.text d.client d.now _) (fun w H' hw => ?_)
                      | refine TriOps.call [1] (vrotate_spec g A 4 T hV tk.text d.client d.now _) (fun w H' hw => ?_)
                    obtain ⟨T2, Tn, rfl, w3, rfl, hc3, hV2⟩ := hw
                    first
                      | show TriOps _ _ _ _ _ _ _ [_, _, _, _] _
                      | show TriOps _ _ _ _ _ _ _ [_, _, _] _
                    have i3 := (⟨hc3.ones⟩ : Ones (encT (w3, _)))
                    refine .nil (Next.mod rfl ?_)
                    refine RA.take 14 rfl .move (by kernel_rfl) ?_
                    refine RA.take 15 rfl .extract (by kernel_rfl) ?_
                    refine RA.take 16 rfl .extract (by kernel_rfl) ?_
                    refine RA.step 17 rfl (by kernel_rfl) rfl ?_
                    refine TriOps.allocA (fun b14 => ?_)
                    refine .nil (Next.mod rfl ?_)
                    refine RA.step 18 rfl (by kernel_rfl) rfl ?_
                    refine TriOps.storeA rfl rfl ?_
                    refine .nil (Next.mod rfl ?_)
                    refine RA.take 19 rfl .assign (by kernel_rfl) ?_
                    refine RA.nil (by kernel_rfl) ?_
                    first
                      | exact joinQ_n (w3, T2, Tn, b14) ⟨hc3, hV2⟩ ((((((((EnvLe.nil _).cons rfl).cons rfl).cons rfl).cons rfl).cons rfl).cons rfl).cons rfl) (HLe.pick [2, 0, 1] _)
                      | exact joinQ_n (w3, T2, Tn, b14) ⟨hc3, hV2⟩ ((((((((EnvLe.nil _).cons rfl).cons rfl).cons rfl).cons rfl).cons rfl).cons rfl).cons rfl) (HLe.pick [0, 0, 1] _)
                  · skip
                    refine TriOps.allocA (fun b14 => ?_)
                    refine .nil (Next.sub ?_)
                    refine RA.step 13 rfl (by kernel_rfl) rfl ?_
                    first
                      | refine TriOps.call [0] (vrotate_spec g A 4 T hV tk.text d.client d.now _) (fun w H' hw => ?_)
                      | refine TriOps.call [1] (vrotate_spec g A 4 T hV tk.text d.client d.now _) (fun w H' hw => ?_)
                    obtain ⟨T2, Tn, rfl, w3, rfl, hc3, hV2⟩ := hw
                    first
                      | show TriOps _ _ _ _ _ _ _ [_, _, _, _] _
                      | show TriOps _ _ _ _ _ _ _ [_, _, _] _
                    have i3 := (⟨hc3.ones⟩ : Ones (encT (w3, _)))
                    refine .nil (Next.mod rfl ?_)
                    refine RA.take 14 rfl .move (by kernel_rfl) ?_
                    refine RA.take 15 rfl .extract (by kernel_rfl) ?_
                    refine RA.take 16 rfl .extract (by kernel_rfl) ?_
                    refine RA.step 18 rfl (by kernel_rfl) rfl ?_
                    refine TriOps.storeA rfl rfl ?_
                    refine .nil (Next.mod rfl ?_)
                    refine RA.take 19 rfl .assign (by kernel_rfl) ?_
                    refine RA.nil (by kernel_rfl) ?_
                    first
                      | exact joinQ_n (w3, T2, Tn, b14) ⟨hc3, hV2⟩ ((((((((EnvLe.nil _).cons rfl).cons rfl).cons rfl).cons rfl).cons rfl).cons rfl).cons rfl) (HLe.pick [2, 0, 1] _)
                      | exact joinQ_n (w3, T2, Tn, b14) ⟨hc3, hV2⟩ ((((((((EnvLe.nil _).cons rfl).cons rfl).cons rfl).cons rfl).cons rfl).cons rfl).cons rfl) (HLe.pick [0, 0, 1] _)
                · intro y hy
                  obtain ⟨w3, T2, Tn, b14⟩ := y
                  obtain ⟨hc3, hV2⟩ := hy
                  simp only at hc3 hV2 ⊢
                  generalize hr1 : (trot A tk.text d.client d.now).1 = r1 at hc3 hV2 hf1 hf2 hf3 ⊢
                  generalize hr2 : (trot A tk.text d.client d.now).2.1 = ew at hc3 hV2 hf1 hf2 hf3 ⊢
                  generalize hr3 : (trot A tk.text d.client d.now).2.2 = A2 at hc3 hV2 hf1 hf2 hf3 ⊢
                  have i3 : Ones (encT (w3, r1)) := ⟨hc3.ones⟩
                  refine seqQ_n ?_
                  refine .seq ?_
                  refine Tri.cut (X := Unit) (fun _ => True) (fun _ => [(2, .slice pd_ ds.length kd_), (7, .pointer (some ⟨g, 0, none⟩)), (11, .pointer (some ⟨b11, 0, none⟩)), (12, .int .i64 (n : Nat)), (13, .int .i64 (j : Nat)), (14, .pointer (some ⟨b14, 0, none⟩)), (15, .int .i64 ew), (16, .bool (decide (d.client = tk.client) && tk.kind == 2))]) (fun _ => [[(b14, .cells (encT (w3, r1)).toArray 73 (0, 0))], T2, [(b11, .cells (encT (wk, tk)).toArray 75 (0, 0))]]) ?_ ?_
                  · skip
                    refine .region_still mixed (by kernel_rfl) ?_
                    refine TriOps.q .move ?_
                    refine TriOps.q .move ?_
                    refine TriOps.q (.indexR j hD hd rfl rfl rfl) ?_
                    refine TriOps.q (.fieldAddr rfl) ?_
                    refine TriOps.q (.load1 rfl) ?_
                    refine TriOps.q (.fieldAddr rfl) ?_
                    refine TriOps.q (.load1 rfl) ?_
                    refine TriOps.q .eqS ?_
                    refine TriOps.q .move ?_
                    refine TriOps.split (t := 105) rfl (fun g24_8 => ?_) (fun g24_8 => ?_)
                    · skip
                      have hown : (decide (d.client = tk.client) && tk.kind == 2) = (tk.kind == 2) := by
                        have h9 : decide (d.client = tk.client) = true := g24_8
                        rw [h9]; rfl
                      refine TriOps.gT g24_8 ?_
                      refine TriOps.q (.fieldAddr rfl) ?_
                      refine TriOps.gT g24_8 ?_
                      refine TriOps.q (.load1 rfl) ?_
                      refine TriOps.gT g24_8 ?_
                      refine TriOps.q .eqI ?_
                      refine TriOps.q (.pickTh g24_8) ?_
                      refine TriOps.q .assign ?_
                      refine .nil ?_
                      exact joinQ_n () trivial (by rw [hown]; exact ((((((((EnvLe.nil _).cons rfl).cons rfl).cons rfl).cons rfl).cons rfl).cons rfl).cons rfl).cons rfl) (HLe.refl _)
                    · skip
                      have hown : (decide (d.client = tk.client) && tk.kind == 2) = false := by
                        have h9 : decide (d.client = tk.client) = false := g24_8
                        rw [h9]; rfl
                      refine TriOps.gF g24_8 ?_
                      refine TriOps.gF g24_8 ?_
                      refine TriOps.gF g24_8 ?_
                      refine TriOps.q (.pickFh g24_8) ?_
                      refine TriOps.q .assign ?_
                      refine .nil ?_
                      exact joinQ_n () trivial (by rw [hown]; exact ((((((((EnvLe.nil _).cons rfl).cons rfl).cons rfl).cons rfl).cons rfl).cons rfl).cons rfl).cons rfl) (HLe.refl _)
                  · intro y hy
                    generalize hown : (decide (d.client = tk.client) && tk.kind == 2) = own
                    have howt : d.client = tk.client → tk.kind = 2 → own = true := fun h1 h2 => by rw [← hown, decide_eq_true h1, h2]; rfl
                    have howf : own = true → d.client = tk.client ∧ tk.kind = 2 := fun h1 => by
                      rw [← hown] at h1
                      simpa using h1
                    refine seqQ_n ?_
                    refine .seq ?_
                    refine .seq ?_
                    refine .region ?_
                    refine TriOps.q .move ?_
                    refine TriOps.q .eqI ?_
                    refine .nil ?_
                    refine seqQ_n ?_
                    refine Tri.cut (X := Nat) (fun m => (ew = 0 ∧ m = 1 ∧ mget tk.text A2 = some (tst 1 tk) ∧ A2.length ≤ 13 + j) ∨ (ew ≠ 0 ∧ m = n)) (fun m => [(2, .slice pd_ ds.length kd_), (7, .pointer (some ⟨g, 0, none⟩)), (11, .pointer (some ⟨b11, 0, none⟩)), (12, .int .i64 (m : Nat)), (13, .int .i64 (j : Nat)), (15, .int .i64 ew), (16, .bool own)]) (fun _ => [T2, [(b11, .cells (encT (wk, tk)).toArray 75 (0, 0))]]) ?_ ?_
                    ·
                      refine .cond rfl (fun h8 => ?_) (fun h8 => ?_)
                      · skip
                        have he0 : ew = 0 := by simpa using h8
                        obtain ⟨f1, f2, f3, f4, f5, f6⟩ := hf1 he0
                        rw [hs1] at f1; rw [hs2] at f2; rw [hs4] at f4
                        have hn0 : n = 0 := by rw [hs5] at f3; simpa using f3
                        subst hn0
                        have hot := howt f2.symm f1
                        subst hot
                        have hfam : r1.family = tk.family := by rw [f5]; rfl
                        have hm2 : mget tk.text A2 = some (tst 1 tk) := by rw [f6, mget_kset, if_pos rfl]; rfl
                        have hA2 : A2.length ≤ 13 + j := by have := kset_length (k := tk.text) (x := (tst 0 tk).mark) (A := A); rw [f6]; omega
                        refine .seq ?_
                        refine .region ?_
                        refine TriOps.q .move ?_
                        refine TriOps.q (.i64 ((0 + 1 : Nat) : Int) .add ⟨by omega, by omega, by omega⟩) ?_
                        refine TriOps.q .assign ?_
                        refine .nil ?_
                        refine seqQ_n ?_
                        refine .seq ?_
                        refine .region_still mixed (by kernel_rfl) ?_
                        refine TriOps.q .move ?_
                        refine TriOps.q .not ?_
                        refine TriOps.q .move ?_
                        refine TriOps.split (t := 116) rfl (fun g27_2 => ?_) (fun g27_2 => ?_)
                        · skip
                          simp at g27_2
                        · skip
                          refine TriOps.gT g27_2 ?_
                          refine TriOps.q .move ?_
                          refine TriOps.gT g27_2 ?_
                          refine TriOps.q .gtr ?_
                          refine TriOps.q (.pickFh g27_2) ?_
                          refine TriOps.q .move ?_
                          refine TriOps.split (t := 120) rfl (fun g27_6 => ?_) (fun g27_6 => ?_)
                          · skip
                            simp at g27_6
                          · skip
                            refine TriOps.gT g27_6 ?_
                            refine TriOps.q .move ?_
                            refine TriOps.gT g27_6 ?_
                            refine TriOps.q .move ?_
                            refine TriOps.gT g27_6 ?_
                            refine TriOps.q (.indexR j hD hd rfl rfl rfl) ?_
                            refine TriOps.gT g27_6 ?_
                            refine TriOps.q (.fieldAddr rfl) ?_
                            refine TriOps.gT g27_6 ?_
                            refine TriOps.q (.load1 rfl) ?_
                            refine TriOps.gT g27_6 ?_
                            refine TriOps.q (.fieldAddr rfl) ?_
                            refine TriOps.gT g27_6 ?_
                            refine TriOps.q (.load1 rfl) ?_
                            refine TriOps.gT g27_6 ?_
                            refine TriOps.q .geq ?_
                            refine TriOps.q (.pickFh g27_6) ?_
                            refine TriOps.q .move ?_
                            refine TriOps.split (t := 130) rfl (fun g27_16 => ?_) (fun g27_16 => ?_)
                            · skip
                              have h9 := of_decide_eq_true g27_16
                              simp only at h9
                              omega
                            · skip
                              refine TriOps.gT g27_16 ?_
                              refine TriOps.q (.fieldAddr rfl) ?_
                              refine TriOps.gT g27_16 ?_
                              refine TriOps.q (.load1 rfl) ?_
                              refine TriOps.gT g27_16 ?_
                              refine TriOps.q (.fieldAddr rfl) ?_
                              refine TriOps.gT g27_16 ?_
                              refine TriOps.q (.load1 rfl) ?_
                              refine TriOps.gT g27_16 ?_
                              refine TriOps.q .neI ?_
                              refine TriOps.q (.pickFh g27_16) ?_
                              refine .nil ?_
                              refine seqQ_n ?_
                              refine .cond rfl (fun h9 => ?_) (fun h9 => ?_)
                              · skip
                                simp only [hfam] at h9
                                simp at h9
                              · skip
                                refine .skip ?_
                                first
                                  | exact joinQ_n 1 (.inl ⟨he0, rfl, hm2, hA2⟩) ((((((((EnvLe.nil _).cons rfl).cons rfl).cons rfl).cons rfl).cons rfl).cons rfl).cons rfl) (HLe.pick [1, 1] _)
                                  | exact joinQ_n n (.inr ⟨he0, rfl⟩) ((((((((EnvLe.nil _).cons rfl).cons rfl).cons rfl).cons rfl).cons rfl).cons rfl).cons rfl) (HLe.pick [1, 1] _)
                      · skip
                        have he0 : ew ≠ 0 := by simpa using h8
                        refine .skip ?_
                        first
                          | exact joinQ_n 1 (.inl ⟨he0, rfl, hm2, hA2⟩) ((((((((EnvLe.nil _).cons rfl).cons rfl).cons rfl).cons rfl).cons rfl).cons rfl).cons rfl) (HLe.pick [1, 1] _)
                          | exact joinQ_n n (.inr ⟨he0, rfl⟩) ((((((((EnvLe.nil _).cons rfl).cons rfl).cons rfl).cons rfl).cons rfl).cons rfl).cons rfl) (HLe.pick [1, 1] _)
                    · intro x hx
                      refine seqQ_n ?_
                      refine .seq ?_
                      refine .seq ?_
                      refine .region ?_
                      refine TriOps.q .move ?_
                      refine TriOps.q .eqI ?_
                      refine .nil ?_
                      refine seqQ_n ?_
                      refine .cond rfl (fun h10 => ?_) (fun h10 => ?_)
                      · skip
                        have he10 : ew = 10 := by simpa using h10
                        obtain rfl : x = n := by
                          rcases hx with ⟨h9, _⟩ | h9
                          · omega
                          · exact h9.2
                        obtain ⟨f1, f2, f3, f4⟩ := hf2 he10
                        rw [hs1] at f1; rw [hs2] at f2; rw [hs3] at f4
                        have hn1 : x = 1 := by rw [hs5] at f3; have : x ≠ 0 := of_decide_eq_true f3; omega
                        subst hn1
                        have hot := howt f2.symm f1
                        subst hot
                        refine .seq ?_
                        refine .region ?_
                        refine TriOps.q .move ?_
                        refine TriOps.callN (vlist_spec g A2 4 T2 hV2 (by rw [f4]; have := List.length_filter_le (fun x : ByteArray × Tok => !(x.2.family == tk.family)) A; omega) _ fun p hp => .inr (by simp [hp])) (fun w T3 hw => ?_)
                        obtain ⟨ys, To3, Ti3, rfl, hO3, hyc, hyp, hys⟩ := hw
                        have hO3l := hO3.le
                        refine TriOps.sub (H' := [To3, Ti3, [(b11, .cells (encT (wk, tk)).toArray 75 (0, 0))]]) ((HLe.pick [0, 1] _).trans (HLe.ofPerm (by simp [take, dropAt]))) ?_
                        have i9 := hO3.oneCell
                        have hno : ∀ p ∈ ys, p.2.family ≠ tk.family := fun p hp he => by
                          have h8 : (p.2.text, p.2) ∈ A2 := hyp.mem_iff.1 (List.mem_map.2 ⟨p.2, List.mem_map.2 ⟨p, hp, rfl⟩, rfl⟩)
                          rw [f4] at h8
                          have h7 := (List.mem_filter.1 h8).2
                          simp [he] at h7
                        refine TriOps.q .assign ?_
                        refine .nil ?_
                        refine seqQ_n ?_
                        refine .seq ?_
                        refine .seq ?_
                        refine .region ?_
                        refine TriOps.q .assign ?_
                        refine .nil ?_
                        refine seqQ_n ?_
                        refine .block ?_
                        refine .loop (X := Nat) (fun k => k ≤ ys.length) (fun k => [(11, .pointer (some ⟨b11, 0, none⟩)), (12, .int .i64 1), (16, .bool true), (17, w), (18, .int .i64 (k : Nat))]) (fun _ => [To3, Ti3, [(b11, .cells (encT (wk, tk)).toArray 75 (0, 0))]]) (fun k => ys.length - k) 0 (by omega) ((((((EnvLe.nil _).cons rfl).cons rfl).cons rfl).cons rfl).cons rfl) (HLe.refl _) ?_
                        rintro k hk9
                        refine .seq ?_
                        refine .seq ?_
                        refine .region ?_
                        refine TriOps.q .move ?_
                        refine TriOps.q .move ?_
                        refine TriOps.q (.lenO hO3) ?_
                        refine TriOps.q .lss ?_
                        refine .nil ?_
                        refine seqQ_n ?_
                        refine .cond rfl (fun h11 => ?_) (fun h11 => ?_)
                        · skip
                          have hlt3 : k < ys.length := by have := of_decide_eq_true h11; omega
                          obtain ⟨⟨wy, ty⟩, hy⟩ : ∃ z, ys[k]? = some z := ⟨_, List.getElem?_eq_getElem hlt3⟩
                          have cy := hyc _ (List.mem_of_getElem? hy)
                          have iy : Ones (encT (wy, ty)) := ⟨cy.ones⟩
                          have py : PS To3 (baseP w (k * 9)) (encT (wy, ty)) := ⟨hO3.pc hy⟩
                          have hny := hno _ (List.mem_of_getElem? hy)
                          refine .skip ?_
                          refine seqQ_n ?_
                          refine .seq ?_
                          refine .block ?_
                          refine .seq ?_
                          refine .region_still mixed (by kernel_rfl) ?_
                          refine TriOps.q .move ?_
                          refine TriOps.q .move ?_
                          refine TriOps.q (.indexR k hO3.sg hy rfl rfl rfl) ?_
                          refine TriOps.q (.fieldAddr rfl) ?_
                          refine TriOps.q (.load1 rfl) ?_
                          refine TriOps.q (.fieldAddr rfl) ?_
                          refine TriOps.q (.load1 rfl) ?_
                          refine TriOps.q .eqI ?_
                          refine .nil ?_
                          refine seqQ_n ?_
                          refine .cond rfl (fun h12 => ?_) (fun h12 => ?_)
                          · skip
                            have h9 : (ty.family == tk.family) = true := h12
                            exact absurd (by simpa using h9) hny
                          · skip
                            refine .skip ?_
                            refine blkQ_n (seqQ_n ?_)
                            refine .region ?_
                            refine TriOps.q .move ?_
                            refine TriOps.q (.i64 ((k + 1 : Nat) : Int) .add ⟨by omega, by omega, by omega⟩) ?_
                            refine TriOps.q .assign ?_
                            refine .nil ?_
                            exact loopQ_i (k + 1) (by omega) (by omega) ((((((EnvLe.nil _).cons rfl).cons rfl).cons rfl).cons rfl).cons rfl) (HLe.refl _)
                        · skip
                          refine .exit (seqQ_x (loopQ_x (blkQ_x ?_)))
                          refine seqQ_n ?_
                          refine .seq ?_
                          refine .seq ?_
                          refine .region ?_
                          refine TriOps.q .move ?_
                          refine TriOps.q .neI ?_
                          refine TriOps.q .move ?_
                          refine TriOps.split (t := 157) rfl (fun g36_2 => ?_) (fun g36_2 => ?_)
                          · skip
                            simp at g36_2
                          · skip
                            refine TriOps.gT g36_2 ?_
                            refine TriOps.q .move ?_
                            refine TriOps.gT g36_2 ?_
                            refine TriOps.q .not ?_
                            refine TriOps.q (.pickFh g36_2) ?_
                            refine .nil ?_
                            refine seqQ_n ?_
                            refine .cond rfl (fun h13 => ?_) (fun h13 => ?_)
                            · skip
                              simp at h13
                            · skip
                              refine .skip ?_
                              refine seqQ_n ?_
                              refine .seq ?_
                              refine .region ?_
                              refine TriOps.callR (tlives_spec _) (fun w hw => ?_)
                              subst hw
                              refine TriOps.q .assign ?_
                              refine .nil ?_
                              refine seqQ_n ?_
                              refine .ret (seqQ_r (blkQ_r (seqQ_r (loopQ_r (blkQ_r (seqQ_r (retQ_r _ (.one (.tmp rfl)) (.none _) ?_)))))))
                              exact ⟨rfl, rfl⟩
                      · skip
                        have he10 : ew ≠ 10 := by simpa using h10
                        refine .skip ?_
                        refine seqQ_n ?_
                        refine .seq ?_
                        refine .region ?_
                        refine TriOps.q .move ?_
                        refine TriOps.q .move ?_
                        refine TriOps.split (t := 163) rfl (fun g39_1 => ?_) (fun g39_1 => ?_)
                        · skip
                          refine TriOps.gT g39_1 ?_
                          refine TriOps.q .move ?_
                          refine TriOps.gT g39_1 ?_
                          refine TriOps.q .eqI ?_
                          refine TriOps.q (.pickTh g39_1) ?_
                          refine TriOps.q .move ?_
                          refine TriOps.split (t := 167) rfl (fun g39_5 => ?_) (fun g39_5 => ?_)
                          · skip
                            refine TriOps.gT g39_5 ?_
                            refine TriOps.q .move ?_
                            refine TriOps.gT g39_5 ?_
                            refine TriOps.q .neI ?_
                            refine TriOps.q (.pickTh g39_5) ?_
                            refine .nil ?_
                            refine seqQ_n ?_
                            refine .cond rfl (fun h14 => ?_) (fun h14 => ?_)
                            · skip
                              exfalso
                              have hne : ew ≠ 0 := by simpa using h14
                              obtain ⟨f7, f8⟩ := hf3 hne he10
                              obtain ⟨o1, o2⟩ := howf (by simpa using g39_1)
                              have h9 := f8 (hs1.trans o2) (hs2.trans o1.symm)
                              rw [hs5] at h9
                              have h8 : n = 0 := by simpa using h9
                              rcases hx with ⟨h7, _⟩ | ⟨_, h7⟩
                              · exact hne h7
                              · rw [h7, h8] at g39_5
                                simp at g39_5
                            · skip
                              refine .skip ?_
                              refine blkQ_n (seqQ_n ?_)
                              refine .region ?_
                              refine TriOps.q .move ?_
                              refine TriOps.q (.i64 ((j + 1 : Nat) : Int) .add ⟨by omega, by omega, by omega⟩) ?_
                              refine TriOps.q .assign ?_
                              refine .nil ?_
                              rcases hx with ⟨he0, rfl, hm2, hA2⟩ | ⟨he0, rfl⟩
                              · exact loopQ_i (j + 1, 1, A2, T2) ⟨⟨by simp only; omega, by simp only; omega, by simp only; omega, by simp only; omega⟩, hV2, hm2⟩ (by simp only; omega) ((((((EnvLe.nil _).cons rfl).cons rfl).cons rfl).cons rfl).cons rfl) (HLe.refl _)
                              · obtain ⟨f7, _⟩ := hf3 he0 he10
                                subst f7
                                exact loopQ_i (j + 1, x, A2, T2) ⟨⟨by simp only; omega, by simp only; omega, hn, by simp only; omega⟩, hV2, hm⟩ (by simp only; omega) ((((((EnvLe.nil _).cons rfl).cons rfl).cons rfl).cons rfl).cons rfl) (HLe.refl _)
                          · skip
                            refine TriOps.gF g39_5 ?_
                            refine TriOps.gF g39_5 ?_
                            refine TriOps.q (.pickFh g39_5) ?_
                            refine .nil ?_
                            refine seqQ_n ?_
                            refine .condF ?_
                            refine .skip ?_
                            refine blkQ_n (seqQ_n ?_)
                            refine .region ?_
                            refine TriOps.q .move ?_
                            refine TriOps.q (.i64 ((j + 1 : Nat) : Int) .add ⟨by omega, by omega, by omega⟩) ?_
                            refine TriOps.q .assign ?_
                            refine .nil ?_
                            rcases hx with ⟨he0, rfl, hm2, hA2⟩ | ⟨he0, rfl⟩
                            · exact loopQ_i (j + 1, 1, A2, T2) ⟨⟨by simp only; omega, by simp only; omega, by simp only; omega, by simp only; omega⟩, hV2, hm2⟩ (by simp only; omega) ((((((EnvLe.nil _).cons rfl).cons rfl).cons rfl).cons rfl).cons rfl) (HLe.refl _)
                            · obtain ⟨f7, _⟩ := hf3 he0 he10
                              subst f7
                              exact loopQ_i (j + 1, x, A2, T2) ⟨⟨by simp only; omega, by simp only; omega, hn, by simp only; omega⟩, hV2, hm⟩ (by simp only; omega) ((((((EnvLe.nil _).cons rfl).cons rfl).cons rfl).cons rfl).cons rfl) (HLe.refl _)
                        · skip
                          refine TriOps.gF g39_1 ?_
                          refine TriOps.gF g39_1 ?_
                          refine TriOps.q (.pickFh g39_1) ?_
                          refine TriOps.q .move ?_
                          refine TriOps.gf rfl rfl ?_
                          refine TriOps.gf rfl rfl ?_
                          refine TriOps.q .pickF ?_
                          refine .nil ?_
                          refine seqQ_n ?_
                          refine .condF ?_
                          refine .skip ?_
                          refine blkQ_n (seqQ_n ?_)
                          refine .region ?_
                          refine TriOps.q .move ?_
                          refine TriOps.q (.i64 ((j + 1 : Nat) : Int) .add ⟨by omega, by omega, by omega⟩) ?_
                          refine TriOps.q .assign ?_
                          refine .nil ?_
                          rcases hx with ⟨he0, rfl, hm2, hA2⟩ | ⟨he0, rfl⟩
                          · exact loopQ_i (j + 1, 1, A2, T2) ⟨⟨by simp only; omega, by simp only; omega, by simp only; omega, by simp only; omega⟩, hV2, hm2⟩ (by simp only; omega) ((((((EnvLe.nil _).cons rfl).cons rfl).cons rfl).cons rfl).cons rfl) (HLe.refl _)
                          · obtain ⟨f7, _⟩ := hf3 he0 he10
                            subst f7
                            exact loopQ_i (j + 1, x, A2, T2) ⟨⟨by simp only; omega, by simp only; omega, hn, by simp only; omega⟩, hV2, hm⟩ (by simp only; omega) ((((((EnvLe.nil _).cons rfl).cons rfl).cons rfl).cons rfl).cons rfl) (HLe.refl _)
              · skip
                refine .exit (seqQ_x (loopQ_x (blkQ_x ?_)))
                refine seqQ_n ?_
                refine .seq ?_
                refine .region ?_
                refine TriOps.callR (tlives_spec _) (fun w hw => ?_)
                subst hw
                refine TriOps.q .assign ?_
                refine .nil ?_
                refine seqQ_n ?_
                refine .ret (retQ_r _ (.one (.tmp rfl)) (.none _) ?_)
                exact ⟨rfl, rfl⟩
            · skip
              refine TriOps.gF g21_4 ?_
              refine TriOps.gF g21_4 ?_
              refine TriOps.q (.pickFh g21_4) ?_
              refine .nil ?_
              refine seqQ_n ?_
              refine .condF ?_
              refine .exit (seqQ_x (loopQ_x (blkQ_x ?_)))
              refine seqQ_n ?_
              refine .seq ?_
              refine .region ?_
              refine TriOps.callR (tlives_spec _) (fun w hw => ?_)
              subst hw
              refine TriOps.q .assign ?_
              refine .nil ?_
              refine seqQ_n ?_
              refine .ret (retQ_r _ (.one (.tmp rfl)) (.none _) ?_)
              exact ⟨rfl, rfl⟩
end Go.Proofs.Ytlmdgdehjpahiaa
