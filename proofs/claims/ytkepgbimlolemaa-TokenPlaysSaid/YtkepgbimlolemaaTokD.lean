/- Tokens: Rotate. No condition. -/
import Derived.Test.YtkepgbimlolemaaTokC
set_option linter.unusedVariables false
set_option maxRecDepth 4000
namespace Go.Proofs.Ytkepgbimlolemaa
def Tok.mark (t : Tok) : Tok := ⟨t.text, t.kind, t.client, t.user, t.scopes, t.family, t.expires, t.rev, true⟩
def trot (A : List (ByteArray × Tok)) (k client : ByteArray) (now : Int) : Tok × Int × List (ByteArray × Tok) :=
  match mget k A with
  | none => (Tok.zero, 18, A)
  | some t => if t.kind ≠ 2 ∨ t.client ≠ client then (Tok.zero, 18, A) else if t.used then (t, 10, A.filter fun x => !(x.2.family == t.family)) else if t.expires ≤ now then (Tok.zero, 18, A) else (t.mark, 0, kset k t.mark A)
theorem vrotate_spec (g : Nat) (A : List (ByteArray × Tok)) (last : Int) (T : Seg) (h : VI g A last T) (k client : ByteArray) (now : Int) (R : Rds) :
    Spec Try.prog 23 [.pointer (some ⟨g, 0, none⟩), .string k, .string client, .int .i64 now] R [T] fun v H' => ∃ T' Tn, H' = [T', Tn] ∧ ∃ w, v = .tuple [.agg (encT (w, (trot A k client now).1)).toArray, .int .i64 (trot A k client now).2.1].toArray ∧ TokR (sg0 Tn) (w, (trot A k client now).1) ∧ VI g (trot A k client now).2.2 last T' := by
  have hAn := h.nd
  have h0 := h
  obtain ⟨Td, T0, rfl, hJ⟩ := h
  have hJ0 := hJ
  obtain ⟨vm, M, q, Tm, Tq, hT0, hM, hI, hA, hQ⟩ := hJ
  obtain ⟨bm, rfl⟩ : ∃ b, vm = .map (some b) := by obtain ⟨b, es, clock, h1, _⟩ := hM; exact ⟨b, h1⟩
  have ps : PS T0 (.pointer (some ⟨g, 0, none⟩)) [.map (some bm), .pointer (some ⟨q, 0, none⟩), .int .i64 last] := PS.of (E := 65) (fr := (0, 0)) (by rw [hT0]; simp)
  have rm : RM (sg T0) (fun s : ByteArray => .string s) (fun p : TP => .agg (encT p).toArray) (.map (some bm)) M := hM.rm fun p hp => by rw [hT0]; simp [sg, hp]
  obtain ⟨w0, t0, hr0, hc0, hf0, hs0, hz0, hu0⟩ := vi_get hM.nd hI hA k
  have i0 : Ones (encT (w0, t0)) := ⟨hc0.ones⟩
  refine Spec.segs (H' := [T0, Td]) (by simp) ?_
  refine Spec.body Try.func23 rfl Try.results23 Try.ntmps23 rfl ?_
  refine .seq ?_
  refine .region ?_
  refine TriOps.allocA (fun b8 => ?_)
  refine TriOps.q .assign ?_
  refine .nil ?_
  refine seqQ_n ?_
  refine .seq ?_
  refine .seq ?_
  refine .region ?_
  refine TriOps.q .move ?_
  refine TriOps.callR (vok_spec g bm _ _ _) (fun v hv => ?_)
  subst hv
  refine TriOps.q .not ?_
  refine .nil ?_
  refine seqQ_n ?_
  refine .condF ?_
  refine .skip ?_
  refine seqQ_n ?_
  refine .seq ?_
  refine .region ?_
  refine TriOps.q .move ?_
  refine TriOps.q (.nilCheck rfl) ?_
  refine TriOps.q (.fieldAddr rfl) ?_
  refine TriOps.q (.load1 rfl) ?_
  refine TriOps.q .move ?_
  refine TriOps.q (Quiet.cast (v' := .tuple [.agg (encT (w0, t0)).toArray, .bool (mget k A).isSome].toArray) (.lookup2 (rm.mono fun b o hb => .inr (by have hb' : (b, o) ∈ T0 := hb; simp [hb'])) rfl (show _ = some (Value.string k) from rfl)) (by rw [← hs0, ← hr0]; rfl)) ?_
  refine TriOps.q .move ?_
  refine TriOps.q .extract ?_
  refine TriOps.q .extract ?_
  refine TriOps.allocA (fun b10 => ?_)
  refine TriOps.storeA rfl rfl ?_
  refine TriOps.q .assign ?_
  refine .nil ?_
  refine seqQ_n ?_
  refine .seq ?_
  refine .block ?_
  refine .seq ?_
  refine .region ?_
  refine TriOps.q .move ?_
  refine TriOps.q .not ?_
  refine TriOps.q .move ?_
  refine TriOps.split (t := 28) rfl (fun g4_2 => ?_) (fun g4_2 => ?_)
  · skip
    refine TriOps.gF g4_2 ?_
    refine TriOps.gF g4_2 ?_
    refine TriOps.gF g4_2 ?_
    refine TriOps.q (.pickTh g4_2) ?_
    refine TriOps.q .move ?_
    refine TriOps.gf rfl rfl ?_
    refine TriOps.gf rfl rfl ?_
    refine TriOps.gf rfl rfl ?_
    refine TriOps.gf rfl rfl ?_
    refine TriOps.q .pickT ?_
    refine TriOps.q .assign ?_
    refine .nil ?_
    refine seqQ_n ?_
    refine .condT ?_
    refine .seq ?_
    refine .region ?_
    refine TriOps.q .bld ?_
    refine TriOps.storeA rfl rfl ?_
    refine TriOps.q .assign ?_
    refine .nil ?_
    refine seqQ_n ?_
    refine .ret (blkQ_r (seqQ_r (retQ_r _ (.two (.cellA rfl rfl) (.tmp rfl)) ((HLe.pick [2, 2] _).trans (HLe.ofPerm (H' := [T0 ++ Td, []]) (by simp [take, dropAt]))) ?_)))
    have hm : mget k A = none := by simpa using g4_2
    have e : trot A k client now = (Tok.zero, 18, A) := by unfold trot; rw [hm]
    rw [e]; exact ⟨_, _, rfl, .slice none 0 0, rfl, TokR.zero _, h0⟩
  · skip
    refine TriOps.gT g4_2 ?_
    refine TriOps.q (.fieldAddr rfl) ?_
    refine TriOps.gT g4_2 ?_
    refine TriOps.q (.load1 rfl) ?_
    refine TriOps.gT g4_2 ?_
    refine TriOps.q .neI ?_
    refine TriOps.q (.pickFh g4_2) ?_
    refine TriOps.q .move ?_
    refine TriOps.split (t := 33) rfl (fun g4_7 => ?_) (fun g4_7 => ?_)
    · skip
      refine TriOps.gF g4_7 ?_
      refine TriOps.gF g4_7 ?_
      refine TriOps.gF g4_7 ?_
      refine TriOps.gF g4_7 ?_
      refine TriOps.q (.pickTh g4_7) ?_
      refine TriOps.q .assign ?_
      refine .nil ?_
      refine seqQ_n ?_
      refine .condT ?_
      refine .seq ?_
      refine .region ?_
      refine TriOps.q .bld ?_
      refine TriOps.storeA rfl rfl ?_
      refine TriOps.q .assign ?_
      refine .nil ?_
      refine seqQ_n ?_
      refine .ret (blkQ_r (seqQ_r (retQ_r _ (.two (.cellA rfl rfl) (.tmp rfl)) ((HLe.pick [2, 2] _).trans (HLe.ofPerm (H' := [T0 ++ Td, []]) (by simp [take, dropAt]))) ?_)))
      skip
      have hsm : (mget k A).isSome = true := by simpa using g4_2
      obtain ⟨u, hu⟩ := Option.isSome_iff_exists.1 hsm
      have hm : mget k A = some t0 := (hu0 u hu).1 ▸ hu
      have e : trot A k client now = (Tok.zero, 18, A) := by unfold trot; rw [hm]; simp only; rw [if_pos (.inl (by simpa using g4_7))]
      rw [e]; exact ⟨_, _, rfl, .slice none 0 0, rfl, TokR.zero _, h0⟩
    · skip
      refine TriOps.gT g4_7 ?_
      refine TriOps.q (.fieldAddr rfl) ?_
      refine TriOps.gT g4_7 ?_
      refine TriOps.q (.load1 rfl) ?_
      refine TriOps.gT g4_7 ?_
      refine TriOps.q .move ?_
      refine TriOps.gT g4_7 ?_
      refine TriOps.q .neS ?_
      refine TriOps.q (.pickFh g4_7) ?_
      refine TriOps.q .assign ?_
      refine .nil ?_
      refine seqQ_n ?_
      refine .cond rfl (fun h2 => ?_) (fun h2 => ?_)
      · skip
        refine .seq ?_
        refine .region ?_
        refine TriOps.q .bld ?_
        refine TriOps.storeA rfl rfl ?_
        refine TriOps.q .assign ?_
        refine .nil ?_
        refine seqQ_n ?_
        refine .ret (blkQ_r (seqQ_r (retQ_r _ (.two (.cellA rfl rfl) (.tmp rfl)) ((HLe.pick [2, 2] _).trans (HLe.ofPerm (H' := [T0 ++ Td, []]) (by simp [take, dropAt]))) ?_)))
        skip
        have hsm : (mget k A).isSome = true := by simpa using g4_2
        obtain ⟨u, hu⟩ := Option.isSome_iff_exists.1 hsm
        have hm : mget k A = some t0 := (hu0 u hu).1 ▸ hu
        have e : trot A k client now = (Tok.zero, 18, A) := by unfold trot; rw [hm]; simp only; rw [if_pos (.inr (by simpa using h2))]
        rw [e]; exact ⟨_, _, rfl, .slice none 0 0, rfl, TokR.zero _, h0⟩
      · skip
        obtain ⟨hm, hk2, hcl⟩ : mget k A = some t0 ∧ t0.kind = 2 ∧ t0.client = client := by
          have hsm : (mget k A).isSome = true := by simpa using g4_2
          obtain ⟨u, hu⟩ := Option.isSome_iff_exists.1 hsm
          exact ⟨(hu0 u hu).1 ▸ hu, by simpa using g4_7, by simpa using h2⟩
        have hno : ¬ (t0.kind ≠ 2 ∨ t0.client ≠ client) := by simp [hk2, hcl]
        refine .seq ?_
        refine .region ?_
        refine TriOps.q (.fieldAddr rfl) ?_
        refine TriOps.q (.load1 rfl) ?_
        refine TriOps.q .assign ?_
        refine .nil ?_
        refine seqQ_n ?_
        refine .cond rfl (fun h3 => ?_) (fun h3 => ?_)
        · skip
          refine .seq ?_
          refine .region ?_
          refine TriOps.q .move ?_
          refine TriOps.q (.fieldAddr rfl) ?_
          refine TriOps.q (.load1 rfl) ?_
          refine TriOps.callM (vcut_spec g A last Td T0 hJ0 t0.family _) (fun v T2 hv => ?_)
          obtain ⟨rfl, hV2⟩ := hv
          refine .nil ?_
          refine seqQ_n ?_
          refine .seq ?_
          refine .region ?_
          refine TriOps.q (.loadA rfl) ?_
          refine TriOps.callN (tcopied_spec w0 t0 _ (hc0.mono fun b o hb => .inr (by have hb' : (b, o) ∈ Td := hb.1; simp [hb'])) hf0) (fun v T1 hv => ?_)
          obtain ⟨w1, rfl, hc1⟩ := hv
          have i1 : Ones (encT (w1, t0)) := ⟨hc1.ones⟩
          refine TriOps.storeA rfl rfl ?_
          refine TriOps.q .assign ?_
          refine .nil ?_
          refine seqQ_n ?_
          refine .ret (blkQ_r (seqQ_r (retQ_r _ (.two (.cellA rfl rfl) (.tmp rfl)) ((HLe.pick [3, 3, 0] _).trans (HLe.ofPerm (H' := [T2 ++ Td, T1]) (by simp [take, dropAt]))) ?_)))
          have e : trot A k client now = (t0, 10, A.filter fun x => !(x.2.family == t0.family)) := by unfold trot; rw [hm]; simp only; rw [if_neg hno, if_pos h3]
          rw [e]; exact ⟨_, _, rfl, w1, rfl, hc1, Td, T2, rfl, hV2⟩
        · skip
          refine .seq ?_
          refine .region ?_
          refine TriOps.q (.fieldAddr rfl) ?_
          refine TriOps.q (.load1 rfl) ?_
          refine TriOps.q .move ?_
          refine TriOps.q .leq ?_
          refine TriOps.q .assign ?_
          refine .nil ?_
          refine seqQ_n ?_
          refine .cond rfl (fun h4 => ?_) (fun h4 => ?_)
          · skip
            refine .seq ?_
            refine .region ?_
            refine TriOps.q .bld ?_
            refine TriOps.storeA rfl rfl ?_
            refine TriOps.q .assign ?_
            refine .nil ?_
            refine seqQ_n ?_
            refine .ret (blkQ_r (seqQ_r (retQ_r _ (.two (.cellA rfl rfl) (.tmp rfl)) ((HLe.pick [2, 2] _).trans (HLe.ofPerm (H' := [T0 ++ Td, []]) (by simp [take, dropAt]))) ?_)))
            have e : trot A k client now = (Tok.zero, 18, A) := by unfold trot; rw [hm]; simp only; rw [if_neg hno, if_neg (by rw [h3]; simp), if_pos (of_decide_eq_true h4)]
            rw [e]; exact ⟨_, _, rfl, .slice none 0 0, rfl, TokR.zero _, h0⟩
          · skip
            refine .skip ?_
            refine blkQ_n (seqQ_n ?_)
            refine .seq ?_
            refine .region ?_
            refine TriOps.q (.fieldAddr rfl) ?_
            refine TriOps.store1 rfl rfl ?_
            refine .nil ?_
            refine seqQ_n ?_
            refine .seq ?_
            refine .region_tail 6 mixed (by kernel_rfl) ?_
            conv => arg 6; dsimp only [List.take]
            refine TriOps.sub (HLe.open_ (S := [[(g, .cells [.map (some bm), .pointer (some ⟨q, 0, none⟩), .int .i64 last].toArray 65 (0, 0))], Tm, Tq]) 2 (by simp [hT0])) ?_
            show TriOps _ _ _ _ _ _ _ [_, _, _, _, _, _] _
            refine TriOps.q .move ?_
            refine TriOps.q (.nilCheck rfl) ?_
            refine TriOps.q (.fieldAddr rfl) ?_
            refine TriOps.q (.load1 rfl) ?_
            refine TriOps.q .move ?_
            refine TriOps.q (.loadA rfl) ?_
            refine .nil ?_
            refine TriOps.update (u := ((w0, t0.mark) : TP)) hM rfl (show _ = some (Value.string k) from rfl) rfl (fun Tm2 hM2 _ => ?_)
            refine .nil ?_
            refine seqQ_n ?_
            refine .seq ?_
            refine .region ?_
            refine TriOps.q (.loadA rfl) ?_
            refine TriOps.callN (tcopied_spec w0 t0.mark _ (TokR.mono (p := (w0, t0)) hc0 fun b o hb => .inr (by have hb' : (b, o) ∈ Td := hb.1; simp [hb'])) hf0) (fun v T1 hv => ?_)
            obtain ⟨w1, rfl, hc1⟩ := hv
            have i1 : Ones (encT (w1, t0.mark)) := ⟨hc1.ones⟩
            refine TriOps.storeA rfl rfl ?_
            refine TriOps.q .assign ?_
            refine .nil ?_
            refine seqQ_n ?_
            refine .ret (retQ_r _ (.two (.cellA rfl rfl) (.tmp rfl)) ((HLe.pick [1, 1, 1, 3, 0] _).trans (HLe.ofPerm (H' := [((g, .cells [.map (some bm), .pointer (some ⟨q, 0, none⟩), .int .i64 last].toArray 65 (0, 0)) :: (Tm2 ++ Tq)) ++ Td, T1]) (by simp [take, dropAt]))) ?_)
            have e : trot A k client now = (t0.mark, 0, kset k t0.mark A) := by unfold trot; rw [hm]; simp only; rw [if_neg hno, if_neg (by rw [h3]; simp), if_neg (of_decide_eq_false h4)]
            have hk : k = t0.text := (hu0 t0 hm).2.1.symm
            rw [e]
            refine ⟨_, _, rfl, w1, rfl, hc1, Td, _, rfl, _, _, q, Tm2, Tq, rfl, hM2, fun p hp => ?_, ?_, ?_⟩
            · rcases mset_mem hM.nd hp with hp | rfl
              · exact hI p hp
              · exact ⟨hk, TokR.mono (p := (w0, t0)) hc0 fun b o hb => hb, hf0⟩
            · exact (kmap_perm (mset_perm hM.nd)).trans (by rw [kmap_set]; exact kset_perm hA)
            · refine hQ.perm ?_
              rw [kmap_set]
              exact (kset_same (by rw [kmap_keys]; exact hAn) (by rw [kmap_get, hm]; rfl)).symm
end Go.Proofs.Ytkepgbimlolemaa
