/- Layer 29's law: which tokens are a vault's. No condition. -/
import Derived.Test.YtlmdgdehjpahiaaTokI
set_option linter.unusedVariables false
set_option maxRecDepth 4000
namespace Go.Proofs.Ytlmdgdehjpahiaa
theorem rightL_all {ts : List Tok} {last : Int} (h : rightL ts last = true) : ts.Pairwise fun c d => sLt c.text d.text = true := by
  unfold rightL at h
  simp only [Bool.and_eq_true] at h
  exact rightL_asc h.2
theorem tloads_spec (v : Value) (ps : List TP) (last : Int) (R : Rds) (h : RS R 9 encT v ps) (hc : ∀ p ∈ ps, TokR R p) :
    Spec Try.prog 9 [v, .int .i64 last] R [] fun u H' => u = .bool true ∧ H' = [] := by
  have hle := h.le
  obtain ⟨pv, kv_, rfl⟩ := h.val
  refine Spec.segs (H' := [[], [], []]) (by simp) ?_
  refine Spec.body Try.func9 rfl Try.results9 Try.ntmps9 rfl ?_
  refine .seq ?_
  refine .region ?_
  refine TriOps.q .assign ?_
  refine .nil ?_
  refine seqQ_n ?_
  refine .seq ?_
  refine .region ?_
  refine TriOps.q .assign ?_
  refine .nil ?_
  refine seqQ_n ?_
  refine .seq ?_
  refine .region ?_
  refine TriOps.q .assign ?_
  refine .nil ?_
  refine seqQ_n ?_
  refine .seq ?_
  refine .seq ?_
  refine .region ?_
  refine TriOps.q .assign ?_
  refine .nil ?_
  refine seqQ_n ?_
  refine Tri.cut (X := List TP × List TP × Value × Value × Seg × Seg × Seg) (fun y => (toks y.1 = toks y.2.1 ∧ y.1.length ≤ 15) ∧ (∀ p ∈ y.1, TokR (sg0 y.2.2.2.2.2.2) p ∧ p.2.few) ∧ (∀ p ∈ y.2.1, TokR (sg0 y.2.2.2.2.2.2) p) ∧ OS 73 9 encT y.2.2.1 y.1 y.2.2.2.2.1 ∧ OS 75 9 encT y.2.2.2.1 y.2.1 y.2.2.2.2.2.1) (fun y => [(1, .int .i64 last), (5, y.2.2.1), (6, y.2.2.2.1)]) (fun y => [y.2.2.2.2.1, y.2.2.2.2.2.1, y.2.2.2.2.2.2]) ?_ ?_
  · refine .block ?_
    refine .loop (X := Nat × List TP × List TP × Value × Value × Seg × Seg × Seg) (fun z => (z.1 ≤ ps.length ∧ z.1 ≤ 15 ∧ z.2.1.length = z.1 ∧ z.2.2.1.length = z.1 ∧ toks z.2.1 = toks z.2.2.1) ∧ (∀ p ∈ z.2.1, TokR (sg0 z.2.2.2.2.2.2.2) p ∧ p.2.few) ∧ (∀ p ∈ z.2.2.1, TokR (sg0 z.2.2.2.2.2.2.2) p) ∧ OS 73 9 encT z.2.2.2.1 z.2.1 z.2.2.2.2.2.1 ∧ OS 75 9 encT z.2.2.2.2.1 z.2.2.1 z.2.2.2.2.2.2.1) (fun z => [(0, .slice pv ps.length kv_), (1, .int .i64 last), (5, z.2.2.2.1), (6, z.2.2.2.2.1), (7, .int .i64 (z.1 : Nat))]) (fun z => [z.2.2.2.2.2.1, z.2.2.2.2.2.2.1, z.2.2.2.2.2.2.2]) (fun z => ps.length - z.1) (0, [], [], .slice none 0 0, .slice none 0 0, [], [], []) ⟨⟨by omega, by omega, rfl, rfl, rfl⟩, by simp, by simp, OS.nil, OS.nil⟩ ((((((EnvLe.nil _).cons rfl).cons rfl).cons rfl).cons rfl).cons rfl) (HLe.refl _) ?_
    rintro ⟨i, la, lb, va, vb, Ta, Tb, Td⟩ ⟨⟨hi, hi15, hal, hbl, hab⟩, hac, hbc, hOa, hOb⟩
    simp only at hi hi15 hal hbl hab hac hbc hOa hOb ⊢
    have i1 := hOa.oneCell
    have i2 := hOb.oneCell
    refine .seq ?_
    refine .seq ?_
    refine .region ?_
    refine TriOps.q .move ?_
    refine TriOps.q .move ?_
    refine TriOps.q (.lenR h) ?_
    refine TriOps.q .lss ?_
    refine TriOps.q .move ?_
    refine TriOps.split (t := 14) rfl (fun g4_4 => ?_) (fun g4_4 => ?_)
    · skip
      refine TriOps.gT g4_4 ?_
      refine TriOps.q .move ?_
      refine TriOps.gT g4_4 ?_
      refine TriOps.q .lss ?_
      refine TriOps.q (.pickTh g4_4) ?_
      refine .nil ?_
      refine seqQ_n ?_
      refine .cond rfl (fun h1 => ?_) (fun h1 => ?_)
      · skip
        have hlt : i < ps.length ∧ i < 15 := by simp at g4_4 h1; omega
        obtain ⟨⟨wz, tz⟩, hz⟩ : ∃ z, ps[i]? = some z := ⟨_, List.getElem?_eq_getElem hlt.1⟩
        have cz := hc _ (List.mem_of_getElem? hz)
        have iz : Ones (encT (wz, tz)) := ⟨cz.ones⟩
        have pz := h.pc hz
        refine .skip ?_
        refine seqQ_n ?_
        refine .seq ?_
        refine .block ?_
        refine .region_all [7, 15] mixed ?_
        refine RA.takeO 0 rfl .move (by kernel_rfl) ?_
        refine RA.takeO 1 rfl .move (by kernel_rfl) ?_
        refine RA.takeO 2 rfl .move (by kernel_rfl) ?_
        refine RA.takeO 3 rfl (.indexR i h hz rfl rfl rfl) (by kernel_rfl) ?_
        refine RA.takeO 4 rfl (.loadA rfl) (by kernel_rfl) ?_
        refine RA.take 8 rfl .move (by kernel_rfl) ?_
        refine RA.take 9 rfl .move (by kernel_rfl) ?_
        refine RA.take 10 rfl .move (by kernel_rfl) ?_
        refine RA.take 11 rfl (.indexR i h hz rfl rfl rfl) (by kernel_rfl) ?_
        refine RA.take 12 rfl (.loadA rfl) (by kernel_rfl) ?_
        refine RA.step 5 rfl (by kernel_rfl) rfl ?_
        refine TriOps.callN (tmine_spec wz tz _ (cz.mono fun b o hb => .inl hb)) (fun w T1 hw => ?_)
        obtain ⟨w1, rfl, hc1⟩ := hw
        have iz1 : Ones (encT (w1, tz.short)) := ⟨hc1.ones⟩
        refine .nil (Next.sub ?_)
        refine RA.step 6 rfl (by kernel_rfl) rfl ?_
        refine TriOps.buildSlice1A (fun b26 => ?_)
        refine .nil (Next.sub ?_)
        refine RA.step 7 rfl (by kernel_rfl) rfl ?_
        refine TriOps.append hOa (RS.lits (xs := [((w1, tz.short) : TP)]) rfl (by simp [encT]) (by have := hc1.ones; simpa using this)) (by simp; omega) (fun va2 Ta2 hOa2 => ?_)
        refine .nil (Next.mod rfl ?_)
        refine RA.step 13 rfl (by kernel_rfl) rfl ?_
        refine TriOps.callN (tshort_spec wz tz _ (cz.mono fun b o hb => .inl hb)) (fun w T2 hw => ?_)
        obtain ⟨w2, rfl, hc2⟩ := hw
        have iz2 : Ones (encT (w2, tz.short)) := ⟨hc2.ones⟩
        refine .nil (Next.mod rfl ?_)
        refine RA.step 14 rfl (by kernel_rfl) rfl ?_
        refine TriOps.buildSlice1A (fun b34 => ?_)
        refine .nil (Next.mod rfl ?_)
        refine RA.step 15 rfl (by kernel_rfl) rfl ?_
        refine TriOps.append hOb (RS.lits (xs := [((w2, tz.short) : TP)]) rfl (by simp [encT]) (by have := hc2.ones; simpa using this)) (by simp; omega) (fun vb2 Tb2 hOb2 => ?_)
        refine .nil (Next.mod rfl ?_)
        refine RA.take 16 rfl .assign (by kernel_rfl) ?_
        refine RA.take 17 rfl .assign (by kernel_rfl) ?_
        refine RA.nil (by kernel_rfl) ?_
        refine blkQ_n (seqQ_n ?_)
        refine .region ?_
        refine TriOps.q .move ?_
        refine TriOps.q (.i64 ((i + 1 : Nat) : Int) .add ⟨by omega, by omega, by omega⟩) ?_
        refine TriOps.q .assign ?_
        refine .nil ?_
        refine loopQ_i (i + 1, la ++ [(w1, tz.short)], lb ++ [(w2, tz.short)], va2, vb2, Ta2, Tb2, T1 ++ (T2 ++ Td)) ⟨⟨by simp only; omega, by simp only; omega, by simp [hal], by simp [hbl], by simp [hab]⟩, fun p hp => ?_, fun p hp => ?_, hOa2, hOb2⟩ (by simp only; omega) ((((((EnvLe.nil _).cons rfl).cons rfl).cons rfl).cons rfl).cons rfl) ((HLe.pick [4, 4, 3, 1, 2] _).trans (HLe.ofPerm (by simp [take, dropAt])))
        · rcases List.mem_append.1 hp with hp | hp
          · exact ⟨(hac p hp).1.mono fun b o hb => sg0_right (sg0_right hb), (hac p hp).2⟩
          · simp only [List.mem_singleton] at hp; subst hp
            exact ⟨hc1.mono fun b o hb => sg0_left hb, tz.short_few⟩
        · rcases List.mem_append.1 hp with hp | hp
          · exact (hbc p hp).mono fun b o hb => sg0_right (sg0_right hb)
          · simp only [List.mem_singleton] at hp; subst hp
            exact hc2.mono fun b o hb => sg0_right (sg0_left hb)
      · skip
        refine .exit (seqQ_x (loopQ_x (blkQ_x ?_)))
        exact joinQ_n (la, lb, va, vb, Ta, Tb, Td) ⟨⟨hab, by simp only; omega⟩, hac, hbc, hOa, hOb⟩ ((((EnvLe.nil _).cons rfl).cons rfl).cons rfl) (HLe.refl _)
    · skip
      refine TriOps.gF g4_4 ?_
      refine TriOps.gF g4_4 ?_
      refine TriOps.q (.pickFh g4_4) ?_
      refine .nil ?_
      refine seqQ_n ?_
      refine .condF ?_
      refine .exit (seqQ_x (loopQ_x (blkQ_x ?_)))
      exact joinQ_n (la, lb, va, vb, Ta, Tb, Td) ⟨⟨hab, by simp only; omega⟩, hac, hbc, hOa, hOb⟩ ((((EnvLe.nil _).cons rfl).cons rfl).cons rfl) (HLe.refl _)
  · intro x hx
    obtain ⟨la, lb, va, vb, Ta, Tb, Td⟩ := x
    obtain ⟨⟨hab, hal⟩, hac, hbc, hOa, hOb⟩ := hx
    simp only at hab hal hac hbc hOa hOb ⊢
    have i1 := hOa.oneCell
    obtain ⟨pb, kb, rfl, _⟩ := hOb.shape
    refine seqQ_n ?_
    refine .seq ?_
    refine .region ?_
    refine TriOps.q .move ?_
    refine TriOps.q .move ?_
    refine TriOps.callN (vload_spec va la last _ hOa.rx (fun p hp => (hac p hp).1.mono fun b o hb => .inr (by have hb' : (b, o) ∈ Td := hb.1; simp [hb'])) fun p hp => (hac p hp).2) (fun u T1 hu => ?_)
    obtain ⟨pw, ew, rfl, hpe⟩ : ∃ pw ew, u = .tuple [pw, .int .i64 ew].toArray ∧ ((rightL (toks la) last = true ∧ ew = 0 ∧ ∃ g, pw = .pointer (some ⟨g, 0, none⟩) ∧ VI g (kv (toks la)) last T1) ∨ (rightL (toks la) last = false ∧ ew = 4 ∧ pw = .pointer none)) := by
      rcases hu with ⟨h1, g, rfl, h2⟩ | ⟨h1, rfl⟩
      · exact ⟨_, _, rfl, .inl ⟨h1, rfl, g, rfl, h2⟩⟩
      · exact ⟨_, _, rfl, .inr ⟨h1, rfl, rfl⟩⟩
    have i5 : One pw := by rcases hpe with ⟨_, _, g, rfl, _⟩ | ⟨_, _, rfl⟩ <;> infer_instance
    refine TriOps.q .move ?_
    refine TriOps.q .extract ?_
    refine TriOps.q .extract ?_
    refine TriOps.q .assign ?_
    refine TriOps.q .assign ?_
    refine .nil ?_
    refine seqQ_n ?_
    refine .seq ?_
    refine .seq ?_
    refine .region ?_
    refine TriOps.q .move ?_
    refine TriOps.q .move ?_
    refine TriOps.callR (rright_spec _ lb last _ hOb.rx fun p hp => (hbc p hp).mono fun b o hb => .inr (by have hb' : (b, o) ∈ Td := hb.1; simp [hb'])) (fun u hu => ?_)
    rw [← hab] at hu
    subst hu
    refine TriOps.q .not ?_
    refine .nil ?_
    refine seqQ_n ?_
    refine .cond rfl (fun h2 => ?_) (fun h2 => ?_)
    · skip
      have hno : rightL (toks la) last = false := by simpa using h2
      obtain ⟨rfl, rfl⟩ : ew = 4 ∧ pw = .pointer none := by
        rcases hpe with ⟨h1, _⟩ | ⟨_, h1, h2⟩
        · rw [hno] at h1; cases h1
        · exact ⟨h1, h2⟩
      refine .seq ?_
      refine .region ?_
      refine TriOps.q .move ?_
      refine TriOps.q (.eqNilA rfl rfl) ?_
      refine TriOps.q .move ?_
      refine TriOps.gt rfl ?_
      refine TriOps.q .move ?_
      refine TriOps.gt rfl ?_
      refine TriOps.q .eqI ?_
      refine TriOps.q .pickT ?_
      refine TriOps.q .move ?_
      refine TriOps.split (t := 52) rfl (fun g9_6 => ?_) (fun g9_6 => ?_)
      · skip
        refine TriOps.gT g9_6 ?_
        refine TriOps.callR (tlives_spec _) (fun w hw => ?_)
        subst hw
        refine TriOps.q (.pickTh g9_6) ?_
        refine TriOps.q .assign ?_
        refine .nil ?_
        refine seqQ_n ?_
        refine .ret (seqQ_r (retQ_r _ (.one (.tmp rfl)) (.none _) ?_))
        exact ⟨rfl, rfl⟩
      · skip
        simp at g9_6
    · skip
      have hyes : rightL (toks la) last = true := by simpa using h2
      obtain ⟨rfl, g, rfl, hI⟩ : ew = 0 ∧ ∃ g, pw = .pointer (some ⟨g, 0, none⟩) ∧ VI g (kv (toks la)) last T1 := by
        rcases hpe with ⟨_, h1, h2⟩ | ⟨h1, _⟩
        · exact ⟨h1, h2⟩
        · rw [hyes] at h1; cases h1
      refine .skip ?_
      refine seqQ_n ?_
      refine .seq ?_
      refine .region ?_
      refine TriOps.q .move ?_
      refine TriOps.q .eqI ?_
      refine TriOps.q .move ?_
      refine TriOps.split (t := 57) rfl (fun g10_2 => ?_) (fun g10_2 => ?_)
      · skip
        refine TriOps.gT g10_2 ?_
        refine TriOps.q .move ?_
        refine TriOps.gT g10_2 ?_
        refine TriOps.q .move ?_
        refine TriOps.gT g10_2 ?_
        refine TriOps.q .move ?_
        refine TriOps.gT g10_2 ?_
        refine TriOps.q .bld ?_
        refine TriOps.gT g10_2 ?_
        refine TriOps.boxA rfl (fun b62 => ?_)
        refine TriOps.gT g10_2 ?_
        refine TriOps.callR (tsame_spec g (kv (toks la)) last T1 hI (by simp [kv]; omega) b62 _ lb _ (fun p hp => .inr (by simp [hp])) (PC.of (E := 84) (fr := (0, 0)) (Or.inr (List.Mem.head _))) (hOb.rs fun p hp => .inr (by simp [hp])) (fun p hp => (hbc p hp).mono fun b o hb => .inr (by have hb' : (b, o) ∈ Td := hb.1; simp [hb'])) (by rw [hab]) (by rw [← hab]; exact rightL_all hyes)) (fun w hw => ?_)
        subst hw
        refine TriOps.q (.pickTh g10_2) ?_
        refine TriOps.q .move ?_
        refine TriOps.split (t := 65) rfl (fun g10_10 => ?_) (fun g10_10 => ?_)
        · skip
          refine TriOps.gT g10_10 ?_
          refine TriOps.callR (tlives_spec _) (fun w hw => ?_)
          subst hw
          refine TriOps.q (.pickTh g10_10) ?_
          refine TriOps.q .assign ?_
          refine .nil ?_
          refine seqQ_n ?_
          refine .ret (retQ_r _ (.one (.tmp rfl)) (.none _) ?_)
          exact ⟨rfl, rfl⟩
        · skip
          simp at g10_10
      · skip
        simp at g10_2
end Go.Proofs.Ytlmdgdehjpahiaa
