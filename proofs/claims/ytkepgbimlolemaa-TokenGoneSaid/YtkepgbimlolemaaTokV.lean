/- Layer 29's law: what was taken back is found no more, and nothing else is touched. No condition. -/
import Derived.Test.YtkepgbimlolemaaTokI
import Derived.Test.YtkepgbimlolemaaTokM
import Derived.Test.YtkepgbimlolemaaTokT
set_option linter.unusedVariables false
set_option maxRecDepth 4000
namespace Go.Proofs.Ytkepgbimlolemaa
def fmatch (d : TDo) (t : Tok) : Bool := decide (t.text = d.text) && decide (t.client = d.client) && t.kind == 2
def famL (d : TDo) (L : List Tok) : Int := L.foldl (fun z t => if fmatch d t then t.family else z) 0
def gonef (d : TDo) (fam : Int) (t : Tok) : Bool := if d.kind = 3 then (decide (t.text = d.text) && decide (t.client = d.client)) || (decide (0 < fam) && t.family == fam) else if d.kind = 4 then t.family == d.family else if d.kind = 5 then tdropB d.client d.user t else decide (t.expires ≤ d.now)
theorem fam_skip {d : TDo} {L : List Tok} {z : Int} (h : ∀ t ∈ L, fmatch d t = false) : L.foldl (fun z t => if fmatch d t then t.family else z) z = z := by
  induction L generalizing z with
  | nil => rfl
  | cons t L ih =>
    rw [List.foldl_cons, h t (by simp)]
    exact ih fun u hu => h u (by simp [hu])
theorem famL_none {d : TDo} {L : List Tok} (h : ∀ t ∈ L, fmatch d t = false) : famL d L = 0 := fam_skip h
theorem famL_one {d : TDo} {L : List Tok} (hn : (L.map (·.text)).Nodup) {t : Tok} (ht : t ∈ L) (hm : fmatch d t = true) : famL d L = t.family := by
  obtain ⟨X, Y, rfl⟩ := List.append_of_mem ht
  have htx : t.text = d.text := by unfold fmatch at hm; simp at hm; exact hm.1.1
  have hY : ∀ u ∈ Y, fmatch d u = false := fun u hu => by
    rw [List.map_append, List.map_cons, List.nodup_append] at hn
    have h1 := (List.nodup_cons.1 hn.2.1).1
    cases h : fmatch d u with
    | false => rfl
    | true =>
      have hux : u.text = d.text := by unfold fmatch at h; simp at h; exact h.1.1
      exact absurd (List.mem_map.2 ⟨u, hu, hux.trans htx.symm⟩) h1
  unfold famL
  rw [List.foldl_append, List.foldl_cons, hm]
  exact fam_skip hY
theorem famL_take {d : TDo} {L : List Tok} {i : Nat} {t : Tok} (h : L[i]? = some t) : famL d (L.take (i + 1)) = if fmatch d t then t.family else famL d (L.take i) := by
  unfold famL; rw [List.take_add_one, h, List.foldl_append]; rfl
/-- What Revoke leaves. -/
theorem trev_gone {A : List (ByteArray × Tok)} {L : List Tok} {d : TDo} (hp : (kv L).Perm A) (hn : (L.map (·.text)).Nodup) (hf : ∀ t ∈ L, 1 ≤ t.family) (h3 : d.kind = 3) :
    (trev A d.text d.client).2 = A.filter fun x => !gonef d (famL d L) x.2 := by
  have hAn : (A.map (·.1)).Nodup := ((hp.map (·.1)).nodup_iff).1 (by unfold kv; rw [List.map_map]; exact hn)
  have hA : ∀ x ∈ A, x.1 = x.2.text ∧ x.2 ∈ L := fun x hx => by
    obtain ⟨t, ht, rfl⟩ := List.mem_map.1 (hp.mem_iff.2 hx)
    exact ⟨rfl, ht⟩
  have huniq : ∀ t u, mget d.text A = some t → u ∈ L → u.text = d.text → u = t := fun t u h1 h2 h4 => by
    have : mget d.text A = some u := mget_of_mem hAn (hp.mem_iff.1 (List.mem_map.2 ⟨u, h2, by rw [h4]⟩))
    rw [h1] at this; cases this; rfl
  have hg : ∀ fam x, gonef d fam x = ((decide (x.text = d.text) && decide (x.client = d.client)) || (decide (0 < fam) && x.family == fam)) := fun fam x => by unfold gonef; rw [if_pos h3]
  unfold trev
  cases hm : mget d.text A with
  | none =>
    have hno : ∀ x ∈ A, x.2.text ≠ d.text := fun x hx he => mget_none.1 hm (List.mem_map.2 ⟨x, hx, (hA x hx).1.trans he⟩)
    have hf0 : famL d L = 0 := famL_none fun t ht => by
      have : t.text ≠ d.text := hno (t.text, t) (hp.mem_iff.1 (List.mem_map.2 ⟨t, ht, rfl⟩))
      unfold fmatch; simp [this]
    simp only
    refine (List.filter_eq_self.2 fun x hx => ?_).symm
    rw [hg, hf0]
    simp [hno x hx]
  | some t =>
    have htA := mget_some hm
    obtain ⟨e1, e2⟩ := hA _ htA
    simp only at e1 e2
    simp only
    split
    · rename_i hcl
      have hf0 : famL d L = 0 := famL_none fun u hu => by
        cases h : fmatch d u with
        | false => rfl
        | true =>
          unfold fmatch at h; simp at h
          have := huniq t u hm hu h.1.1
          subst this
          exact absurd h.1.2 hcl
      refine (List.filter_eq_self.2 fun x hx => ?_).symm
      rw [hg, hf0]
      by_cases hx2 : x.2.text = d.text
      · have := huniq t x.2 hm (hA x hx).2 hx2
        rw [this]; simp [hcl]
      · simp [hx2]
    · rename_i hcl
      have hcl : t.client = d.client := Classical.byContradiction hcl
      split
      · rename_i hk
        have hfm : famL d L = t.family := famL_one hn e2 (by unfold fmatch; simp [← e1, hcl, hk])
        have hpos := hf t e2
        refine List.filter_congr fun x hx => ?_
        rw [hg, hfm]
        by_cases hx2 : x.2.text = d.text
        · have := huniq t x.2 hm (hA x hx).2 hx2
          rw [this]; simp [← e1, hcl]
        · have : decide (0 < t.family) = true := decide_eq_true (by omega)
          simp [hx2, this]
      · rename_i hk
        have hf0 : famL d L = 0 := famL_none fun u hu => by
          cases h : fmatch d u with
          | false => rfl
          | true =>
            unfold fmatch at h; simp at h
            have := huniq t u hm hu h.1.1
            subst this
            exact absurd h.2 hk
        refine List.filter_congr fun x hx => ?_
        rw [hg, hf0]
        by_cases hx2 : x.2.text = d.text
        · have := huniq t x.2 hm (hA x hx).2 hx2
          rw [this]; simp [← e1, hcl]
        · simp [hx2]
theorem gone_find {A : List (ByteArray × Tok)} {q : Tok → Bool} (hn : (A.map (·.1)).Nodup) {t : Tok} {m : Int} (ht : (t.text, t) ∈ A) (hm : m < t.expires) : (tfind (A.filter fun x => !q x.2) t.text m).isSome = !q t := by
  unfold tfind
  have hn2 : ((A.filter fun x => !q x.2).map (·.1)).Nodup := hn.sublist (List.filter_sublist.map _)
  cases hq : q t with
  | false =>
    have : mget t.text (A.filter fun x => !q x.2) = some t := mget_of_mem hn2 (List.mem_filter.2 ⟨ht, by simp [hq]⟩)
    rw [this]
    simp [Option.filter, hm]
  | true =>
    have : mget t.text (A.filter fun x => !q x.2) = none := by
      rw [mget_none]
      intro hh
      obtain ⟨x, hx, hxe⟩ := List.mem_map.1 hh
      obtain ⟨h1, h2⟩ := List.mem_filter.1 hx
      have h3 : mget t.text A = some x.2 := mget_of_mem hn (by rw [← hxe]; exact h1)
      have h4 : mget t.text A = some t := mget_of_mem hn ht
      rw [h3] at h4
      cases h4
      rw [hq] at h2; cases h2
    rw [this]; rfl
theorem tput_fam {A : List (ByteArray × Tok)} {last : Int} {t : Tok} (h : ∀ x ∈ A, 1 ≤ x.2.family) : ∀ x ∈ (tput A last t).2, 1 ≤ x.2.family := by
  by_cases h0 : (tput A last t).1 = 0
  · obtain ⟨h1, _, h2⟩ := tput_zero h0
    rw [h1]
    intro x hx
    rcases kset_mem hx with hx | rfl
    · exact h x hx.1
    · unfold rightB at h2
      simp at h2
      exact h2.1.2
  · rw [tput_else h0]; exact h
theorem tput_len {A : List (ByteArray × Tok)} {last : Int} {t : Tok} : (tput A last t).2.length ≤ A.length + 1 := by
  by_cases h0 : (tput A last t).1 = 0
  · rw [(tput_zero h0).1]; exact kset_length
  · rw [tput_else h0]; omega
theorem tgone_spec (v : Value) (ps : List TP) (d : TDo) (R : Rds) (h : RS R 9 encT v ps) (hc : ∀ p ∈ ps, TokR R p) (hw : One d.w) :
    Spec Try.prog 3 [v, .agg d.enc.toArray] R [] fun u H' => u = .bool true ∧ H' = [] := by
  have hle := h.le
  obtain ⟨pv, kv_, rfl⟩ := h.val
  have i0 : Ones d.enc := ⟨by
    have h1 := hw.h
    intro u hu
    simp only [TDo.enc, List.mem_cons, List.not_mem_nil, or_false] at hu
    rcases hu with rfl | rfl | rfl | rfl | rfl | rfl | rfl | rfl | rfl | rfl | rfl | rfl | rfl | rfl | rfl <;> first | rfl | assumption⟩
  refine Spec.body Try.func3 rfl Try.results3 Try.ntmps3 rfl ?_
  refine .seq ?_
  refine .region ?_
  refine TriOps.boxA rfl (fun b3 => ?_)
  refine TriOps.q .assign ?_
  refine .nil ?_
  refine seqQ_n ?_
  refine .seq ?_
  refine .region ?_
  refine TriOps.callN (vnew_spec _) (fun u T0 hu => ?_)
  obtain ⟨g, rfl, hg⟩ := hu
  refine TriOps.q .assign ?_
  refine .nil ?_
  refine seqQ_n ?_
  refine .seq ?_
  refine .seq ?_
  refine .region ?_
  refine TriOps.q .move ?_
  refine TriOps.q (.eqNilA rfl rfl) ?_
  refine .nil ?_
  refine seqQ_n ?_
  refine .condF ?_
  refine .skip ?_
  refine seqQ_n ?_
  refine .seq ?_
  refine .seq ?_
  refine .region ?_
  refine TriOps.q .assign ?_
  refine .nil ?_
  refine seqQ_n ?_
  refine .block ?_
  refine .loop (X := Nat × Seg) (fun y => y.1 ≤ 4 ∧ VI g [] (y.1 : Nat) y.2) (fun y => [(0, .slice pv ps.length kv_), (3, .pointer (some ⟨b3, 0, none⟩)), (5, .pointer (some ⟨g, 0, none⟩)), (6, .int .i64 (y.1 : Nat))]) (fun y => [y.2, [(b3, .cells d.enc.toArray 28 (0, 0))]]) (fun y => 4 - y.1) (0, T0) ⟨by omega, hg⟩ (((((EnvLe.nil _).cons rfl).cons rfl).cons rfl).cons rfl) (HLe.refl _) ?_
  rintro ⟨i, T⟩ ⟨hi, hV⟩
  simp only at hi hV ⊢
  refine .seq ?_
  refine .seq ?_
  refine .region ?_
  refine TriOps.q .move ?_
  refine TriOps.q .lss ?_
  refine .nil ?_
  refine seqQ_n ?_
  refine .cond rfl (fun h2 => ?_) (fun h2 => ?_)
  · skip
    have hlt : i < 4 := by have := of_decide_eq_true h2; omega
    refine .skip ?_
    refine seqQ_n ?_
    refine .seq ?_
    refine .block ?_
    refine .region ?_
    refine TriOps.q .move ?_
    refine TriOps.callM (vfamily_spec g [] _ T hV (by omega) (by omega) _) (fun u T1 hu => ?_)
    obtain ⟨rfl, hV1⟩ := hu
    refine .nil ?_
    refine blkQ_n (seqQ_n ?_)
    refine .region ?_
    refine TriOps.q .move ?_
    refine TriOps.q (.i64 ((i + 1 : Nat) : Int) .add ⟨by omega, by omega, by omega⟩) ?_
    refine TriOps.q .assign ?_
    refine .nil ?_
    exact loopQ_i (i + 1, T1) ⟨by simp only; omega, hV1⟩ (by simp only; omega) (((((EnvLe.nil _).cons rfl).cons rfl).cons rfl).cons rfl) (HLe.refl _)
  · skip
    have hi4 : i = 4 := by have := of_decide_eq_false h2; omega
    subst hi4
    refine .exit (seqQ_x (loopQ_x (blkQ_x ?_)))
    refine seqQ_n ?_
    refine .seq ?_
    refine .seq ?_
    refine .region ?_
    refine TriOps.q .assign ?_
    refine .nil ?_
    refine seqQ_n ?_
    refine Tri.cut (X := List (ByteArray × Tok) × Seg) (fun y => y.1.length ≤ 12 ∧ (∀ x ∈ y.1, 1 ≤ x.2.family) ∧ VI g y.1 4 y.2) (fun y => [(3, .pointer (some ⟨b3, 0, none⟩)), (5, .pointer (some ⟨g, 0, none⟩))]) (fun y => [y.2, [(b3, .cells d.enc.toArray 28 (0, 0))]]) ?_ ?_
    · refine .block ?_
      refine .loop (X := Nat × List (ByteArray × Tok) × Seg) (fun y => (y.1 ≤ ps.length ∧ y.1 ≤ 12 ∧ y.2.1.length ≤ y.1) ∧ (∀ x ∈ y.2.1, 1 ≤ x.2.family) ∧ VI g y.2.1 4 y.2.2) (fun y => [(0, .slice pv ps.length kv_), (3, .pointer (some ⟨b3, 0, none⟩)), (5, .pointer (some ⟨g, 0, none⟩)), (7, .int .i64 (y.1 : Nat))]) (fun y => [y.2.2, [(b3, .cells d.enc.toArray 28 (0, 0))]]) (fun y => ps.length - y.1) (0, [], T) ⟨⟨by omega, by omega, by simp⟩, by simp, hV⟩ (((((EnvLe.nil _).cons rfl).cons rfl).cons rfl).cons rfl) (HLe.refl _) ?_
      clear hV T
      rintro ⟨i, A, T⟩ ⟨⟨hi, hi12, hAl⟩, hAf, hV⟩
      simp only at hi hi12 hAl hAf hV ⊢
      refine .seq ?_
      refine .seq ?_
      refine .region ?_
      refine TriOps.q .move ?_
      refine TriOps.q .move ?_
      refine TriOps.q (.lenR h) ?_
      refine TriOps.q .lss ?_
      refine TriOps.q .move ?_
      refine TriOps.split (t := 29) rfl (fun g9_4 => ?_) (fun g9_4 => ?_)
      · skip
        refine TriOps.gT g9_4 ?_
        refine TriOps.q .move ?_
        refine TriOps.gT g9_4 ?_
        refine TriOps.q .lss ?_
        refine TriOps.q (.pickTh g9_4) ?_
        refine .nil ?_
        refine seqQ_n ?_
        refine .cond rfl (fun h3 => ?_) (fun h3 => ?_)
        · skip
          have hlt : i < ps.length ∧ i < 12 := by simp at g9_4 h3; omega
          obtain ⟨⟨wz, tz⟩, hz⟩ : ∃ z, ps[i]? = some z := ⟨_, List.getElem?_eq_getElem hlt.1⟩
          have cz := hc _ (List.mem_of_getElem? hz)
          have iz : Ones (encT (wz, tz)) := ⟨cz.ones⟩
          have pz := h.pc hz
          refine .skip ?_
          refine seqQ_n ?_
          refine .seq ?_
          refine .block ?_
          refine .region ?_
          refine TriOps.q .move ?_
          refine TriOps.q .move ?_
          refine TriOps.q .move ?_
          refine TriOps.indexR i h hz (fun p38 => ?_)
          refine TriOps.q (.loadA rfl) ?_
          refine TriOps.callN (tmine_spec wz tz _ (cz.mono fun b o hb => .inl hb)) (fun w T1 hw => ?_)
          obtain ⟨w1, rfl, hc1⟩ := hw
          have iz1 : Ones (encT (w1, tz.short)) := ⟨hc1.ones⟩
          refine TriOps.callW (vPut_spec g A 4 T hV w1 tz.short _ (hc1.mono fun b o hb => .inr (by have hb' : (b, o) ∈ T1 := hb.1; simp [hb'])) tz.short_few) (fun w T2 hw => ?_)
          obtain ⟨rfl, hV2⟩ := hw
          refine .nil ?_
          refine blkQ_n (seqQ_n ?_)
          refine .region ?_
          refine TriOps.q .move ?_
          refine TriOps.q (.i64 ((i + 1 : Nat) : Int) .add ⟨by omega, by omega, by omega⟩) ?_
          refine TriOps.q .assign ?_
          refine .nil ?_
          exact loopQ_i (i + 1, (tput A 4 tz.short).2, T2) ⟨⟨by simp only; omega, by simp only; omega, by have := tput_len (A := A) (last := 4) (t := tz.short); simp only; omega⟩, tput_fam hAf, hV2⟩ (by simp only; omega) (((((EnvLe.nil _).cons rfl).cons rfl).cons rfl).cons rfl) (HLe.pick [1, 1] _)
        · skip
          refine .exit (seqQ_x (loopQ_x (blkQ_x ?_)))
          exact joinQ_n (A, T) ⟨by simp only; omega, hAf, hV⟩ (((EnvLe.nil _).cons rfl).cons rfl) (HLe.refl _)
      · skip
        refine TriOps.gF g9_4 ?_
        refine TriOps.gF g9_4 ?_
        refine TriOps.q (.pickFh g9_4) ?_
        refine .nil ?_
        refine seqQ_n ?_
        refine .condF ?_
        refine .exit (seqQ_x (loopQ_x (blkQ_x ?_)))
        exact joinQ_n (A, T) ⟨by simp only; omega, hAf, hV⟩ (((EnvLe.nil _).cons rfl).cons rfl) (HLe.refl _)
    · intro x hx
      obtain ⟨A, T⟩ := x
      obtain ⟨hAl, hAf, hV⟩ := hx
      simp only at hAl hAf hV ⊢
      have hAn := hV.nd
      refine seqQ_n ?_
      refine .seq ?_
      refine .region ?_
      refine TriOps.q .move ?_
      refine TriOps.callN (vlist_spec g A 4 T hV (by omega) _ fun p hp => .inr (by simp [hp])) (fun w T3 hw => ?_)
      obtain ⟨ys, To, Ti, rfl, hO, hyc, hyp, hys⟩ := hw
      have hOl := hO.le
      refine TriOps.sub (H' := [To, Ti, T, [(b3, .cells d.enc.toArray 28 (0, 0))]]) (HLe.ofPerm (by simp)) ?_
      have i9 := hO.oneCell
      have hyn : ((toks ys).map (·.text)).Nodup := by
        have h8 := ((hyp.map (·.1)).nodup_iff).2 hAn
        unfold kv at h8
        rw [List.map_map] at h8
        exact h8
      have hyf : ∀ t ∈ toks ys, 1 ≤ t.family := fun t ht => hAf (t.text, t) (hyp.mem_iff.1 (List.mem_map.2 ⟨t, ht, rfl⟩))
      refine TriOps.q .assign ?_
      refine .nil ?_
      refine seqQ_n ?_
      refine .seq ?_
      refine .seq ?_
      refine .region ?_
      refine TriOps.q (.fieldAddr rfl) ?_
      refine TriOps.q (.load1 rfl) ?_
      refine .nil ?_
      refine seqQ_n ?_
      refine Tri.cut (X := Seg) (fun y => VI g (A.filter fun x => !gonef d (famL d (toks ys)) x.2) 4 y) (fun y => [(3, .pointer (some ⟨b3, 0, none⟩)), (5, .pointer (some ⟨g, 0, none⟩)), (8, w)]) (fun y => [To, Ti, y, [(b3, .cells d.enc.toArray 28 (0, 0))]]) ?_ ?_
      · refine .block ?_
        refine .seq ?_
        refine .region ?_
        refine TriOps.q .eqI ?_
        refine TriOps.q .assign ?_
        refine .nil ?_
        refine seqQ_n ?_
        refine .cond rfl (fun h4 => ?_) (fun h4 => ?_)
        · skip
          have k3 : d.kind = 3 := by simpa using h4
          refine .region ?_
          refine TriOps.q .move ?_
          refine TriOps.q (.fieldAddr rfl) ?_
          refine TriOps.q (.load1 rfl) ?_
          refine TriOps.q (.fieldAddr rfl) ?_
          refine TriOps.q (.load1 rfl) ?_
          refine TriOps.callM (vrevoke_spec g A 4 T hV d.text d.client _) (fun u T2 hu => ?_)
          obtain ⟨rfl, hV2⟩ := hu
          rw [trev_gone hyp hyn hyf k3] at hV2
          refine .nil ?_
          refine blkQ_n ?_
          first
            | exact joinQ_n T2 hV2 ((((EnvLe.nil _).cons rfl).cons rfl).cons rfl) (HLe.refl _)
            | exact joinQ_n (T2 ++ Td) ⟨Td, T2, rfl, hV2⟩ ((((EnvLe.nil _).cons rfl).cons rfl).cons rfl) (HLe.ofPerm (by simp))
        · skip
          have k3 : ¬ d.kind = 3 := by simpa using h4
          refine .seq ?_
          refine .region ?_
          refine TriOps.q .eqI ?_
          refine TriOps.q .assign ?_
          refine .nil ?_
          refine seqQ_n ?_
          refine .cond rfl (fun h5 => ?_) (fun h5 => ?_)
          · skip
            have k4 : d.kind = 4 := by simpa using h5
            refine .region ?_
            refine TriOps.q .move ?_
            refine TriOps.q (.fieldAddr rfl) ?_
            refine TriOps.q (.load1 rfl) ?_
            obtain ⟨Td, T00, hTe, hJ⟩ := hV
            subst hTe
            refine TriOps.sub (H' := [To, Ti, T00, Td, [(b3, .cells d.enc.toArray 28 (0, 0))]]) (HLe.ofPerm (by simp)) ?_
            refine TriOps.callM (vcut_spec g A 4 Td T00 hJ d.family _) (fun u T2 hu => ?_)
            obtain ⟨rfl, hV2⟩ := hu
            have hg : (fun x : ByteArray × Tok => !gonef d (famL d (toks ys)) x.2) = fun x => !(x.2.family == d.family) := by
              funext x; unfold gonef; rw [if_neg k3, if_pos k4]
            rw [← hg] at hV2
            refine .nil ?_
            refine blkQ_n ?_
            first
              | exact joinQ_n T2 hV2 ((((EnvLe.nil _).cons rfl).cons rfl).cons rfl) (HLe.refl _)
              | exact joinQ_n (T2 ++ Td) ⟨Td, T2, rfl, hV2⟩ ((((EnvLe.nil _).cons rfl).cons rfl).cons rfl) (HLe.ofPerm (by simp))
          · skip
            have k4 : ¬ d.kind = 4 := by simpa using h5
            refine .seq ?_
            refine .region ?_
            refine TriOps.q .eqI ?_
            refine TriOps.q .assign ?_
            refine .nil ?_
            refine seqQ_n ?_
            refine .cond rfl (fun h6 => ?_) (fun h6 => ?_)
            · skip
              have k5 : d.kind = 5 := by simpa using h6
              refine .region ?_
              refine TriOps.q .move ?_
              refine TriOps.q (.fieldAddr rfl) ?_
              refine TriOps.q (.load1 rfl) ?_
              refine TriOps.q (.fieldAddr rfl) ?_
              refine TriOps.q (.load1 rfl) ?_
              refine TriOps.callM (vdrop_spec g A 4 T hV d.client d.user _) (fun u T2 hu => ?_)
              obtain ⟨rfl, hV2⟩ := hu
              have hg : (fun x : ByteArray × Tok => !gonef d (famL d (toks ys)) x.2) = fun x => !tdropB d.client d.user x.2 := by
                funext x; unfold gonef; rw [if_neg k3, if_neg k4, if_pos k5]
              rw [← hg] at hV2
              refine .nil ?_
              refine blkQ_n ?_
              first
                | exact joinQ_n T2 hV2 ((((EnvLe.nil _).cons rfl).cons rfl).cons rfl) (HLe.refl _)
                | exact joinQ_n (T2 ++ Td) ⟨Td, T2, rfl, hV2⟩ ((((EnvLe.nil _).cons rfl).cons rfl).cons rfl) (HLe.ofPerm (by simp))
            · skip
              have k5 : ¬ d.kind = 5 := by simpa using h6
              refine .region ?_
              refine TriOps.q .move ?_
              refine TriOps.q (.fieldAddr rfl) ?_
              refine TriOps.q (.load1 rfl) ?_
              refine TriOps.callM (vsweep_spec g A 4 T hV d.now _) (fun u T2 hu => ?_)
              obtain ⟨rfl, hV2⟩ := hu
              have hg : (fun x : ByteArray × Tok => !gonef d (famL d (toks ys)) x.2) = fun x => decide (d.now < x.2.expires) := by
                funext x; unfold gonef; rw [if_neg k3, if_neg k4, if_neg k5]
                rw [Bool.eq_iff_iff]; simp
              rw [← hg] at hV2
              refine .nil ?_
              refine blkQ_n ?_
              first
                | exact joinQ_n T2 hV2 ((((EnvLe.nil _).cons rfl).cons rfl).cons rfl) (HLe.refl _)
                | exact joinQ_n (T2 ++ Td) ⟨Td, T2, rfl, hV2⟩ ((((EnvLe.nil _).cons rfl).cons rfl).cons rfl) (HLe.ofPerm (by simp))
      · intro x hx
        revert x
        intro T9 hx
        have hV1 : VI g (A.filter fun x => !gonef d (famL d (toks ys)) x.2) 4 T9 := hx
        clear hV hx
        refine seqQ_n ?_
        refine .seq ?_
        refine .region ?_
        refine TriOps.q .assign ?_
        refine .nil ?_
        refine seqQ_n ?_
        refine .seq ?_
        refine .seq ?_
        refine .region ?_
        refine TriOps.q .assign ?_
        refine .nil ?_
        refine seqQ_n ?_
        refine .block ?_
        refine .loop (X := Nat) (fun i => i ≤ ys.length) (fun i => [(3, .pointer (some ⟨b3, 0, none⟩)), (5, .pointer (some ⟨g, 0, none⟩)), (8, w), (9, .int .i64 (famL d ((toks ys).take i))), (10, .int .i64 (i : Nat))]) (fun _ => [To, Ti, T9, [(b3, .cells d.enc.toArray 28 (0, 0))]]) (fun i => ys.length - i) 0 (by omega) ((((((EnvLe.nil _).cons rfl).cons rfl).cons rfl).cons rfl).cons rfl) (HLe.refl _) ?_
        rintro i hi
        refine .seq ?_
        refine .seq ?_
        refine .region ?_
        refine TriOps.q .move ?_
        refine TriOps.q .move ?_
        refine TriOps.q (.lenO hO) ?_
        refine TriOps.q .lss ?_
        refine .nil ?_
        refine seqQ_n ?_
        refine .cond rfl (fun h7 => ?_) (fun h7 => ?_)
        · skip
          have hlt : i < ys.length := by have := of_decide_eq_true h7; omega
          obtain ⟨⟨wy, ty⟩, hy⟩ : ∃ z, ys[i]? = some z := ⟨_, List.getElem?_eq_getElem hlt⟩
          have cy := hyc _ (List.mem_of_getElem? hy)
          have iy : Ones (encT (wy, ty)) := ⟨cy.ones⟩
          have py : PS To (baseP w (i * 9)) (encT (wy, ty)) := ⟨hO.pc hy⟩
          have hyt : (toks ys)[i]? = some ty := by simp [hy]
          have hft := famL_take (d := d) hyt
          refine .skip ?_
          refine seqQ_n ?_
          refine .seq ?_
          refine .block ?_
          refine .seq ?_
          refine .region_still mixed (by kernel_rfl) ?_
          refine TriOps.q .move ?_
          refine TriOps.q .move ?_
          refine TriOps.q (.indexR i hO.sg hy rfl rfl rfl) ?_
          refine TriOps.q (.fieldAddr rfl) ?_
          refine TriOps.q (.load1 rfl) ?_
          refine TriOps.q (.fieldAddr rfl) ?_
          refine TriOps.q (.load1 rfl) ?_
          refine TriOps.q .eqS ?_
          refine TriOps.q .move ?_
          refine TriOps.split (t := 86) rfl (fun g25_8 => ?_) (fun g25_8 => ?_)
          · skip
            refine TriOps.gT g25_8 ?_
            refine TriOps.q .move ?_
            refine TriOps.gT g25_8 ?_
            refine TriOps.q .move ?_
            refine TriOps.gT g25_8 ?_
            refine TriOps.q (.indexR i hO.sg hy rfl rfl rfl) ?_
            refine TriOps.gT g25_8 ?_
            refine TriOps.q (.fieldAddr rfl) ?_
            refine TriOps.gT g25_8 ?_
            refine TriOps.q (.load1 rfl) ?_
            refine TriOps.gT g25_8 ?_
            refine TriOps.q (.fieldAddr rfl) ?_
            refine TriOps.gT g25_8 ?_
            refine TriOps.q (.load1 rfl) ?_
            refine TriOps.gT g25_8 ?_
            refine TriOps.q .eqS ?_
            refine TriOps.q (.pickTh g25_8) ?_
            refine TriOps.q .move ?_
            refine TriOps.split (t := 96) rfl (fun g25_18 => ?_) (fun g25_18 => ?_)
            · skip
              refine TriOps.gT g25_18 ?_
              refine TriOps.q .move ?_
              refine TriOps.gT g25_18 ?_
              refine TriOps.q .move ?_
              refine TriOps.gT g25_18 ?_
              refine TriOps.q (.indexR i hO.sg hy rfl rfl rfl) ?_
              refine TriOps.gT g25_18 ?_
              refine TriOps.q (.fieldAddr rfl) ?_
              refine TriOps.gT g25_18 ?_
              refine TriOps.q (.load1 rfl) ?_
              refine TriOps.gT g25_18 ?_
              refine TriOps.q .eqI ?_
              refine TriOps.q (.pickTh g25_18) ?_
              refine .nil ?_
              refine seqQ_n ?_
              refine .cond rfl (fun h8 => ?_) (fun h8 => ?_)
              · skip
                have hfm : fmatch d ty = true := by
                  have a1 : decide (ty.text = d.text) = true := g25_8
                  have a2 : decide (ty.client = d.client) = true := g25_18
                  have a3 : (ty.kind == 2) = true := h8
                  unfold fmatch; rw [a1, a2, a3]; rfl
                rw [hfm, if_pos rfl] at hft
                refine .region ?_
                refine TriOps.q .move ?_
                refine TriOps.q .move ?_
                refine TriOps.q (.indexR i hO.sg hy rfl rfl rfl) ?_
                refine TriOps.q (.fieldAddr rfl) ?_
                refine TriOps.q (.load1 rfl) ?_
                refine TriOps.q .assign ?_
                refine .nil ?_
                refine blkQ_n (seqQ_n ?_)
                refine .region ?_
                refine TriOps.q .move ?_
                refine TriOps.q (.i64 ((i + 1 : Nat) : Int) .add ⟨by omega, by omega, by omega⟩) ?_
                refine TriOps.q .assign ?_
                refine .nil ?_
                exact loopQ_i (i + 1) (by omega) (by omega) (by rw [hft]; exact (((((EnvLe.nil _).cons rfl).cons rfl).cons rfl).cons rfl).cons rfl) (HLe.refl _)
              · skip
                have hfm : fmatch d ty = false := by
                  unfold fmatch
                  first
                    | (have a1 : decide (ty.text = d.text) = false := g25_8
                       rw [a1]; rfl)
                    | (have a2 : decide (ty.client = d.client) = false := g25_18
                       rw [a2, Bool.and_false]; rfl)
                    | (have a3 : (ty.kind == 2) = false := h8
                       rw [a3, Bool.and_false])
                rw [hfm, if_neg (by simp)] at hft
                refine .skip ?_
                refine blkQ_n (seqQ_n ?_)
                refine .region ?_
                refine TriOps.q .move ?_
                refine TriOps.q (.i64 ((i + 1 : Nat) : Int) .add ⟨by omega, by omega, by omega⟩) ?_
                refine TriOps.q .assign ?_
                refine .nil ?_
                exact loopQ_i (i + 1) (by omega) (by omega) (by rw [hft]; exact (((((EnvLe.nil _).cons rfl).cons rfl).cons rfl).cons rfl).cons rfl) (HLe.refl _)
            · skip
              refine TriOps.gF g25_18 ?_
              refine TriOps.gF g25_18 ?_
              refine TriOps.gF g25_18 ?_
              refine TriOps.gF g25_18 ?_
              refine TriOps.gF g25_18 ?_
              refine TriOps.gF g25_18 ?_
              refine TriOps.q (.pickFh g25_18) ?_
              refine .nil ?_
              refine seqQ_n ?_
              refine .condF ?_
              have hfm : fmatch d ty = false := by
                unfold fmatch
                first
                  | (have a1 : decide (ty.text = d.text) = false := g25_8
                     rw [a1]; rfl)
                  | (have a2 : decide (ty.client = d.client) = false := g25_18
                     rw [a2, Bool.and_false]; rfl)
                  | (have a3 : (ty.kind == 2) = false := h8
                     rw [a3, Bool.and_false])
              rw [hfm, if_neg (by simp)] at hft
              refine .skip ?_
              refine blkQ_n (seqQ_n ?_)
              refine .region ?_
              refine TriOps.q .move ?_
              refine TriOps.q (.i64 ((i + 1 : Nat) : Int) .add ⟨by omega, by omega, by omega⟩) ?_
              refine TriOps.q .assign ?_
              refine .nil ?_
              exact loopQ_i (i + 1) (by omega) (by omega) (by rw [hft]; exact (((((EnvLe.nil _).cons rfl).cons rfl).cons rfl).cons rfl).cons rfl) (HLe.refl _)
          · skip
            refine TriOps.gF g25_8 ?_
            refine TriOps.gF g25_8 ?_
            refine TriOps.gF g25_8 ?_
            refine TriOps.gF g25_8 ?_
            refine TriOps.gF g25_8 ?_
            refine TriOps.gF g25_8 ?_
            refine TriOps.gF g25_8 ?_
            refine TriOps.gF g25_8 ?_
            refine TriOps.q (.pickFh g25_8) ?_
            refine TriOps.q .move ?_
            refine TriOps.gf rfl rfl ?_
            refine TriOps.gf rfl rfl ?_
            refine TriOps.gf rfl rfl ?_
            refine TriOps.gf rfl rfl ?_
            refine TriOps.gf rfl rfl ?_
            refine TriOps.gf rfl rfl ?_
            refine TriOps.q .pickF ?_
            refine .nil ?_
            refine seqQ_n ?_
            refine .condF ?_
            have hfm : fmatch d ty = false := by
              unfold fmatch
              first
                | (have a1 : decide (ty.text = d.text) = false := g25_8
                   rw [a1]; rfl)
                | (have a2 : decide (ty.client = d.client) = false := g25_18
                   rw [a2, Bool.and_false]; rfl)
                | (have a3 : (ty.kind == 2) = false := h8
                   rw [a3, Bool.and_false])
            rw [hfm, if_neg (by simp)] at hft
            refine .skip ?_
            refine blkQ_n (seqQ_n ?_)
            refine .region ?_
            refine TriOps.q .move ?_
            refine TriOps.q (.i64 ((i + 1 : Nat) : Int) .add ⟨by omega, by omega, by omega⟩) ?_
            refine TriOps.q .assign ?_
            refine .nil ?_
            exact loopQ_i (i + 1) (by omega) (by omega) (by rw [hft]; exact (((((EnvLe.nil _).cons rfl).cons rfl).cons rfl).cons rfl).cons rfl) (HLe.refl _)
        · skip
          have hiy : i = ys.length := by have := of_decide_eq_false h7; omega
          rw [hiy, List.take_of_length_le (by simp)]
          refine .exit (seqQ_x (loopQ_x (blkQ_x ?_)))
          refine seqQ_n ?_
          refine .seq ?_
          refine .seq ?_
          refine .region ?_
          refine TriOps.q .assign ?_
          refine .nil ?_
          refine seqQ_n ?_
          refine .block ?_
          refine .loop (X := Nat) (fun i => i ≤ ys.length) (fun i => [(3, .pointer (some ⟨b3, 0, none⟩)), (5, .pointer (some ⟨g, 0, none⟩)), (8, w), (9, .int .i64 (famL d (toks ys))), (11, .int .i64 (i : Nat))]) (fun _ => [To, Ti, T9, [(b3, .cells d.enc.toArray 28 (0, 0))]]) (fun i => ys.length - i) 0 (by omega) ((((((EnvLe.nil _).cons rfl).cons rfl).cons rfl).cons rfl).cons rfl) (HLe.refl _) ?_
          rintro i hi
          refine .seq ?_
          refine .seq ?_
          refine .region ?_
          refine TriOps.q .move ?_
          refine TriOps.q .move ?_
          refine TriOps.q (.lenO hO) ?_
          refine TriOps.q .lss ?_
          refine .nil ?_
          refine seqQ_n ?_
          refine .cond rfl (fun h9 => ?_) (fun h9 => ?_)
          · skip
            have hlt : i < ys.length := by have := of_decide_eq_true h9; omega
            obtain ⟨⟨wy, ty⟩, hy⟩ : ∃ z, ys[i]? = some z := ⟨_, List.getElem?_eq_getElem hlt⟩
            have cy := hyc _ (List.mem_of_getElem? hy)
            have iy : Ones (encT (wy, ty)) := ⟨cy.ones⟩
            have py : PS To (baseP w (i * 9)) (encT (wy, ty)) := ⟨hO.pc hy⟩
            have hyA : (ty.text, ty) ∈ A := hyp.mem_iff.1 (List.mem_map.2 ⟨ty, List.mem_map.2 ⟨_, List.mem_of_getElem? hy, rfl⟩, rfl⟩)
            refine .skip ?_
            refine seqQ_n ?_
            refine .seq ?_
            refine .block ?_
            refine .seq ?_
            refine .region ?_
            refine TriOps.q .move ?_
            refine TriOps.q .move ?_
            refine TriOps.indexO i hO hy (fun p117 => ?_)
            refine TriOps.q (.loadA rfl) ?_
            refine TriOps.allocA (fun b12 => ?_)
            refine TriOps.storeA rfl rfl ?_
            refine .nil ?_
            refine seqQ_n ?_
            refine .seq ?_
            refine .region ?_
            refine TriOps.q (.fieldAddr rfl) ?_
            refine TriOps.q (.load1 rfl) ?_
            refine TriOps.q (.fieldAddr rfl) ?_
            refine TriOps.q (.load1 rfl) ?_
            refine TriOps.q .leq ?_
            refine TriOps.q .assign ?_
            refine .nil ?_
            refine seqQ_n ?_
            refine .seq ?_
            refine .seq ?_
            refine .region ?_
            refine TriOps.q (.fieldAddr rfl) ?_
            refine TriOps.q (.load1 rfl) ?_
            refine .nil ?_
            refine seqQ_n ?_
            refine Tri.cut (X := Unit) (fun _ => True) (fun _ => [(3, .pointer (some ⟨b3, 0, none⟩)), (5, .pointer (some ⟨g, 0, none⟩)), (8, w), (9, .int .i64 (famL d (toks ys))), (11, .int .i64 (i : Nat)), (12, .pointer (some ⟨b12, 0, none⟩)), (13, .bool (gonef d (famL d (toks ys)) ty))]) (fun _ => [[(b12, .cells (encT (wy, ty)).toArray 34 (0, 0))], To, Ti, T9, [(b3, .cells d.enc.toArray 28 (0, 0))]]) ?_ ?_
            · refine .block ?_
              refine .seq ?_
              refine .region ?_
              refine TriOps.q .eqI ?_
              refine TriOps.q .assign ?_
              refine .nil ?_
              refine seqQ_n ?_
              refine .cond rfl (fun h10 => ?_) (fun h10 => ?_)
              · skip
                have k3 : d.kind = 3 := by simpa using h10
                have hgf : gonef d (famL d (toks ys)) ty = ((decide (ty.text = d.text) && decide (ty.client = d.client)) || (decide (0 < famL d (toks ys)) && ty.family == famL d (toks ys))) := by unfold gonef; rw [if_pos k3]
                refine .region ?_
                refine TriOps.q (.fieldAddr rfl) ?_
                refine TriOps.q (.load1 rfl) ?_
                refine TriOps.q (.fieldAddr rfl) ?_
                refine TriOps.q (.load1 rfl) ?_
                refine TriOps.q .eqS ?_
                refine TriOps.q .move ?_
                refine TriOps.split (t := 133) rfl (fun g34_5 => ?_) (fun g34_5 => ?_)
                · skip
                  have e5 : decide (ty.text = d.text) = true := g34_5
                  rw [e5, Bool.true_and] at hgf
                  refine TriOps.gT g34_5 ?_
                  refine TriOps.q (.fieldAddr rfl) ?_
                  refine TriOps.gT g34_5 ?_
                  refine TriOps.q (.load1 rfl) ?_
                  refine TriOps.gT g34_5 ?_
                  refine TriOps.q (.fieldAddr rfl) ?_
                  refine TriOps.gT g34_5 ?_
                  refine TriOps.q (.load1 rfl) ?_
                  refine TriOps.gT g34_5 ?_
                  refine TriOps.q .eqS ?_
                  refine TriOps.q (.pickTh g34_5) ?_
                  refine TriOps.q .move ?_
                  refine TriOps.split (t := 140) rfl (fun g34_12 => ?_) (fun g34_12 => ?_)
                  · skip
                    have e6 : decide (ty.client = d.client) = true := g34_12
                    rw [e6, Bool.true_or] at hgf
                    refine TriOps.gF g34_12 ?_
                    refine TriOps.gF g34_12 ?_
                    refine TriOps.gF g34_12 ?_
                    refine TriOps.gfU rfl ?_
                    refine TriOps.gfU rfl ?_
                    refine TriOps.gfU rfl ?_
                    refine TriOps.gfU rfl ?_
                    refine TriOps.gF g34_12 ?_
                    refine TriOps.q (.pickTh g34_12) ?_
                    refine TriOps.q .assign ?_
                    refine .nil ?_
                    refine blkQ_n ?_
                    exact joinQ_n () trivial (by rw [hgf]; exact (((((((EnvLe.nil _).cons rfl).cons rfl).cons rfl).cons rfl).cons rfl).cons rfl).cons rfl) (HLe.refl _)
                  · skip
                    try (have e6 : decide (ty.client = d.client) = false := g34_12; rw [e6, Bool.false_or] at hgf)
                    refine TriOps.gT g34_12 ?_
                    refine TriOps.q .move ?_
                    refine TriOps.gT g34_12 ?_
                    refine TriOps.q .gtr ?_
                    refine TriOps.gT g34_12 ?_
                    refine TriOps.q .move ?_
                    refine TriOps.split (t := 143) rfl (fun g34_15 => ?_) (fun g34_15 => ?_)
                    · skip
                      have e7 : decide (0 < famL d (toks ys)) = true := g34_15
                      rw [e7, Bool.true_and] at hgf
                      refine TriOps.gT g34_15 ?_
                      refine TriOps.q (.fieldAddr rfl) ?_
                      refine TriOps.gT g34_15 ?_
                      refine TriOps.q (.load1 rfl) ?_
                      refine TriOps.gT g34_15 ?_
                      refine TriOps.q .move ?_
                      refine TriOps.gT g34_15 ?_
                      refine TriOps.q .eqI ?_
                      refine TriOps.gT g34_12 ?_
                      refine TriOps.q (.pickTh g34_15) ?_
                      refine TriOps.q (.pickFh g34_12) ?_
                      refine TriOps.q .assign ?_
                      refine .nil ?_
                      refine blkQ_n ?_
                      exact joinQ_n () trivial (by rw [hgf]; exact (((((((EnvLe.nil _).cons rfl).cons rfl).cons rfl).cons rfl).cons rfl).cons rfl).cons rfl) (HLe.refl _)
                    · skip
                      have e7 : decide (0 < famL d (toks ys)) = false := g34_15
                      rw [e7, Bool.false_and] at hgf
                      refine TriOps.gF g34_15 ?_
                      refine TriOps.gF g34_15 ?_
                      refine TriOps.gF g34_15 ?_
                      refine TriOps.gF g34_15 ?_
                      refine TriOps.gT g34_12 ?_
                      refine TriOps.q (.pickFh g34_15) ?_
                      refine TriOps.q (.pickFh g34_12) ?_
                      refine TriOps.q .assign ?_
                      refine .nil ?_
                      refine blkQ_n ?_
                      exact joinQ_n () trivial (by rw [hgf]; exact (((((((EnvLe.nil _).cons rfl).cons rfl).cons rfl).cons rfl).cons rfl).cons rfl).cons rfl) (HLe.refl _)
                · skip
                  have e5 : decide (ty.text = d.text) = false := g34_5
                  rw [e5, Bool.false_and, Bool.false_or] at hgf
                  refine TriOps.gF g34_5 ?_
                  refine TriOps.gF g34_5 ?_
                  refine TriOps.gF g34_5 ?_
                  refine TriOps.gF g34_5 ?_
                  refine TriOps.gF g34_5 ?_
                  refine TriOps.q (.pickFh g34_5) ?_
                  refine TriOps.q .move ?_
                  refine TriOps.gt rfl ?_
                  refine TriOps.q .move ?_
                  refine TriOps.gt rfl ?_
                  refine TriOps.q .gtr ?_
                  refine TriOps.gt rfl ?_
                  refine TriOps.q .move ?_
                  refine TriOps.split (t := 143) rfl (fun g34_15 => ?_) (fun g34_15 => ?_)
                  · skip
                    have e7 : decide (0 < famL d (toks ys)) = true := g34_15
                    rw [e7, Bool.true_and] at hgf
                    refine TriOps.gT g34_15 ?_
                    refine TriOps.q (.fieldAddr rfl) ?_
                    refine TriOps.gT g34_15 ?_
                    refine TriOps.q (.load1 rfl) ?_
                    refine TriOps.gT g34_15 ?_
                    refine TriOps.q .move ?_
                    refine TriOps.gT g34_15 ?_
                    refine TriOps.q .eqI ?_
                    refine TriOps.gt rfl ?_
                    refine TriOps.q (.pickTh g34_15) ?_
                    refine TriOps.q .pickF ?_
                    refine TriOps.q .assign ?_
                    refine .nil ?_
                    refine blkQ_n ?_
                    exact joinQ_n () trivial (by rw [hgf]; exact (((((((EnvLe.nil _).cons rfl).cons rfl).cons rfl).cons rfl).cons rfl).cons rfl).cons rfl) (HLe.refl _)
                  · skip
                    have e7 : decide (0 < famL d (toks ys)) = false := g34_15
                    rw [e7, Bool.false_and] at hgf
                    refine TriOps.gF g34_15 ?_
                    refine TriOps.gF g34_15 ?_
                    refine TriOps.gF g34_15 ?_
                    refine TriOps.gF g34_15 ?_
                    refine TriOps.gt rfl ?_
                    refine TriOps.q (.pickFh g34_15) ?_
                    refine TriOps.q .pickF ?_
                    refine TriOps.q .assign ?_
                    refine .nil ?_
                    refine blkQ_n ?_
                    exact joinQ_n () trivial (by rw [hgf]; exact (((((((EnvLe.nil _).cons rfl).cons rfl).cons rfl).cons rfl).cons rfl).cons rfl).cons rfl) (HLe.refl _)
              · skip
                have k3 : ¬ d.kind = 3 := by simpa using h10
                refine .seq ?_
                refine .region ?_
                refine TriOps.q .eqI ?_
                refine TriOps.q .assign ?_
                refine .nil ?_
                refine seqQ_n ?_
                refine .cond rfl (fun h11 => ?_) (fun h11 => ?_)
                · skip
                  have k4 : d.kind = 4 := by simpa using h11
                  have hgf : gonef d (famL d (toks ys)) ty = (ty.family == d.family) := by unfold gonef; rw [if_neg k3, if_pos k4]
                  refine .region ?_
                  refine TriOps.q (.fieldAddr rfl) ?_
                  refine TriOps.q (.load1 rfl) ?_
                  refine TriOps.q (.fieldAddr rfl) ?_
                  refine TriOps.q (.load1 rfl) ?_
                  refine TriOps.q .eqI ?_
                  refine TriOps.q .assign ?_
                  refine .nil ?_
                  refine blkQ_n ?_
                  exact joinQ_n () trivial (by rw [hgf]; exact (((((((EnvLe.nil _).cons rfl).cons rfl).cons rfl).cons rfl).cons rfl).cons rfl).cons rfl) (HLe.refl _)
                · skip
                  have k4 : ¬ d.kind = 4 := by simpa using h11
                  refine .seq ?_
                  refine .region ?_
                  refine TriOps.q .eqI ?_
                  refine TriOps.q .assign ?_
                  refine .nil ?_
                  refine seqQ_n ?_
                  refine .cond rfl (fun h12 => ?_) (fun h12 => ?_)
                  · skip
                    have k5 : d.kind = 5 := by simpa using h12
                    have hgf : gonef d (famL d (toks ys)) ty = tdropB d.client d.user ty := by unfold gonef; rw [if_neg k3, if_neg k4, if_pos k5]
                    unfold tdropB at hgf
                    refine .region ?_
                    refine TriOps.q (.fieldAddr rfl) ?_
                    refine TriOps.q (.load1 rfl) ?_
                    refine TriOps.q (.fieldAddr rfl) ?_
                    refine TriOps.q (.load1 rfl) ?_
                    refine TriOps.q .eqS ?_
                    refine TriOps.q .move ?_
                    refine TriOps.split (t := 164) rfl (fun g38_5 => ?_) (fun g38_5 => ?_)
                    · skip
                      have e5 : decide (ty.client = d.client) = true := g38_5
                      rw [e5, Bool.true_and] at hgf
                      refine TriOps.gT g38_5 ?_
                      refine TriOps.q (.fieldAddr rfl) ?_
                      refine TriOps.gT g38_5 ?_
                      refine TriOps.q (.load1 rfl) ?_
                      refine TriOps.gT g38_5 ?_
                      refine TriOps.q .eqS ?_
                      refine TriOps.gT g38_5 ?_
                      refine TriOps.q .move ?_
                      refine TriOps.split (t := 168) rfl (fun g38_9 => ?_) (fun g38_9 => ?_)
                      · skip
                        have e6 : decide (d.user = ⟨#[]⟩) = true := g38_9
                        rw [e6, Bool.true_or] at hgf
                        refine TriOps.gF g38_9 ?_
                        refine TriOps.gF g38_9 ?_
                        refine TriOps.gF g38_9 ?_
                        refine TriOps.gF g38_9 ?_
                        refine TriOps.gF g38_9 ?_
                        refine TriOps.gT g38_5 ?_
                        refine TriOps.q (.pickTh g38_9) ?_
                        refine TriOps.q (.pickTh g38_5) ?_
                        refine TriOps.q .assign ?_
                        refine .nil ?_
                        refine blkQ_n ?_
                        exact joinQ_n () trivial (by rw [hgf]; exact (((((((EnvLe.nil _).cons rfl).cons rfl).cons rfl).cons rfl).cons rfl).cons rfl).cons rfl) (HLe.refl _)
                      · skip
                        have e6 : decide (d.user = ⟨#[]⟩) = false := g38_9
                        rw [e6, Bool.false_or] at hgf
                        refine TriOps.gT g38_9 ?_
                        refine TriOps.q (.fieldAddr rfl) ?_
                        refine TriOps.gT g38_9 ?_
                        refine TriOps.q (.load1 rfl) ?_
                        refine TriOps.gT g38_9 ?_
                        refine TriOps.q (.fieldAddr rfl) ?_
                        refine TriOps.gT g38_9 ?_
                        refine TriOps.q (.load1 rfl) ?_
                        refine TriOps.gT g38_9 ?_
                        refine TriOps.q .eqS ?_
                        refine TriOps.gT g38_5 ?_
                        refine TriOps.q (.pickFh g38_9) ?_
                        refine TriOps.q (.pickTh g38_5) ?_
                        refine TriOps.q .assign ?_
                        refine .nil ?_
                        refine blkQ_n ?_
                        exact joinQ_n () trivial (by rw [hgf]; exact (((((((EnvLe.nil _).cons rfl).cons rfl).cons rfl).cons rfl).cons rfl).cons rfl).cons rfl) (HLe.refl _)
                    · skip
                      have e5 : decide (ty.client = d.client) = false := g38_5
                      rw [e5, Bool.false_and] at hgf
                      refine TriOps.gF g38_5 ?_
                      refine TriOps.gF g38_5 ?_
                      refine TriOps.gF g38_5 ?_
                      refine TriOps.gF g38_5 ?_
                      refine TriOps.gfU rfl ?_
                      refine TriOps.gfU rfl ?_
                      refine TriOps.gfU rfl ?_
                      refine TriOps.gfU rfl ?_
                      refine TriOps.gfU rfl ?_
                      refine TriOps.gF g38_5 ?_
                      refine TriOps.q (.pickFh g38_5) ?_
                      refine TriOps.q .assign ?_
                      refine .nil ?_
                      refine blkQ_n ?_
                      exact joinQ_n () trivial (by rw [hgf]; exact (((((((EnvLe.nil _).cons rfl).cons rfl).cons rfl).cons rfl).cons rfl).cons rfl).cons rfl) (HLe.refl _)
                  · skip
                    have k5 : ¬ d.kind = 5 := by simpa using h12
                    have hgf : gonef d (famL d (toks ys)) ty = decide (ty.expires ≤ d.now) := by unfold gonef; rw [if_neg k3, if_neg k4, if_neg k5]
                    refine .skip ?_
                    refine blkQ_n ?_
                    exact joinQ_n () trivial (by rw [hgf]; exact (((((((EnvLe.nil _).cons rfl).cons rfl).cons rfl).cons rfl).cons rfl).cons rfl).cons rfl) (HLe.refl _)
            · intro x hx
              refine seqQ_n ?_
              refine .seq ?_
              refine .region ?_
              refine TriOps.q .move ?_
              refine TriOps.q (.fieldAddr rfl) ?_
              refine TriOps.q (.load1 rfl) ?_
              refine TriOps.callN (vfind_spec g _ 4 T9 hV1 ty.text (-4611686018427387904) _ fun p hp => .inr (by simp [hp])) (fun u T5 hu => ?_)
              obtain ⟨w5, t5, rfl, hc5, _⟩ := hu
              have i5 : Ones (encT (w5, t5)) := ⟨hc5.ones⟩
              refine TriOps.q .move ?_
              refine TriOps.q .extract ?_
              refine TriOps.q .extract ?_
              refine TriOps.allocA (fun b14 => ?_)
              refine TriOps.storeA rfl rfl ?_
              refine TriOps.q .assign ?_
              refine .nil ?_
              refine seqQ_n ?_
              refine .seq ?_
              refine .region ?_
              refine TriOps.q .move ?_
              refine TriOps.q .move ?_
              refine TriOps.q .eqB ?_
              refine TriOps.q .move ?_
              refine TriOps.split (t := 186) rfl (fun g40_3 => ?_) (fun g40_3 => ?_)
              · skip
                refine TriOps.gT g40_3 ?_
                refine TriOps.q (.fieldAddr rfl) ?_
                refine TriOps.gT g40_3 ?_
                refine TriOps.q (.load1 rfl) ?_
                refine TriOps.gT g40_3 ?_
                refine TriOps.q .gtr ?_
                refine TriOps.q (.pickTh g40_3) ?_
                refine .nil ?_
                refine seqQ_n ?_
                refine .cond rfl (fun h13 => ?_) (fun h13 => ?_)
                · skip
                  have hexp : -4611686018427387904 < ty.expires := of_decide_eq_true h13
                  rw [gone_find hAn hyA hexp] at g40_3
                  cases hq : gonef d (famL d (toks ys)) ty <;> rw [hq] at g40_3 <;> cases g40_3
                · skip
                  refine .skip ?_
                  refine blkQ_n (seqQ_n ?_)
                  refine .region ?_
                  refine TriOps.q .move ?_
                  refine TriOps.q (.i64 ((i + 1 : Nat) : Int) .add ⟨by omega, by omega, by omega⟩) ?_
                  refine TriOps.q .assign ?_
                  refine .nil ?_
                  exact loopQ_i (i + 1) (by omega) (by omega) ((((((EnvLe.nil _).cons rfl).cons rfl).cons rfl).cons rfl).cons rfl) (HLe.pick [3, 3, 3, 3] _)
              · skip
                refine TriOps.gF g40_3 ?_
                refine TriOps.gF g40_3 ?_
                refine TriOps.gF g40_3 ?_
                refine TriOps.q (.pickFh g40_3) ?_
                refine .nil ?_
                refine seqQ_n ?_
                refine .condF ?_
                refine .skip ?_
                refine blkQ_n (seqQ_n ?_)
                refine .region ?_
                refine TriOps.q .move ?_
                refine TriOps.q (.i64 ((i + 1 : Nat) : Int) .add ⟨by omega, by omega, by omega⟩) ?_
                refine TriOps.q .assign ?_
                refine .nil ?_
                exact loopQ_i (i + 1) (by omega) (by omega) ((((((EnvLe.nil _).cons rfl).cons rfl).cons rfl).cons rfl).cons rfl) (HLe.pick [3, 3, 3, 3] _)
          · skip
            refine .exit (seqQ_x (loopQ_x (blkQ_x ?_)))
            refine seqQ_n ?_
            refine .seq ?_
            refine .region ?_
            refine TriOps.callR (tlives_spec _) (fun w hw => ?_)
            subst hw
            refine TriOps.q .assign ?_
            refine .nil ?_
            refine seqQ_n ?_
            refine .ret (retQ_r _ (.one (.tmp rfl)) (.none _) ?_)
            exact ⟨rfl, rfl⟩
end Go.Proofs.Ytkepgbimlolemaa
