/- Tokens: the document's vault: Put, Rotate, Revoke, beside the program's. No condition. -/
import Derived.Test.YtkepgbimlolemaaTokN
import Derived.Test.YtkepgbimlolemaaTokT
set_option linter.unusedVariables false
set_option linter.unusedSimpArgs false
set_option maxRecDepth 4000
namespace Go.Proofs.Ytkepgbimlolemaa
abbrev tins (p : TP) (ps : List TP) : List TP := gins (ltc tcmp) p ps
theorem tput_bad {A : List (ByteArray × Tok)} {last : Int} {t : Tok} (h : rightB t last = false) : tput A last t = (2, A) := by unfold tput; rw [if_pos h]
theorem tput_there {A : List (ByteArray × Tok)} {last : Int} {t u : Tok} (h : rightB t last = true) (h2 : mget t.text A = some u) : tput A last t = (22, A) := by unfold tput; rw [if_neg (by simp [h]), h2]; rfl
theorem tput_full {A : List (ByteArray × Tok)} {last : Int} {t : Tok} (h : rightB t last = true) (h2 : mget t.text A = none) (h3 : 4096 ≤ A.length) : tput A last t = (8, A) := by
  unfold tput; rw [if_neg (by simp [h]), h2]; simp only [Option.isSome_none, Bool.false_eq_true, if_false]; rw [if_pos h3]
theorem tput_ok {A : List (ByteArray × Tok)} {last : Int} {t : Tok} (h : rightB t last = true) (h2 : mget t.text A = none) (h3 : ¬ 4096 ≤ A.length) : tput A last t = (0, kset t.text t.fresh A) := by
  unfold tput; rw [if_neg (by simp [h]), h2]; simp only [Option.isSome_none, Bool.false_eq_true, if_false]; rw [if_neg h3]
theorem rput_spec (xp : Nat) (ps : List TP) (last : Int) (T : Seg) (h : RTV xp ps last T) (hl9 : ps.length ≤ 900) (A : List (ByteArray × Tok)) (hB : BothT A ps) (w : Value) (t : Tok) (R : Rds) (ht : TokR R (w, t)) (hc : ∀ p ∈ ps, TokR R p) :
    Spec Try.prog 21 [.pointer (some ⟨xp, 0, none⟩), .agg (encT (w, t)).toArray] R [T] fun u H' => ∃ T', H' = [T'] ∧ u = .int .i64 (tput A last t).1 ∧ ∃ ps', RTV xp ps' last T' ∧ BothT (tput A last t).2 ps' ∧ (∀ p ∈ ps', p ∈ ps ∨ p = (w, t.fresh)) ∧ ps'.length ≤ ps.length + 1 := by
  have h0 := h
  obtain ⟨vt, Tt, rfl, hO, hl⟩ := h
  have ir : Ones (encT (w, t)) := ⟨ht.ones⟩
  have ir2 : Ones (encT (w, t.fresh)) := ⟨TokR.ones (R := R) (p := (w, t.fresh)) ht⟩
  have i1 := hO.oneCell
  have hlA := hB.len
  refine Spec.segs (H' := [[(xp, .cells [vt, .int .i64 last].toArray 49 (0, 0))], Tt, []]) (by simp) ?_
  refine Spec.body Try.func21 rfl Try.results21 Try.ntmps21 rfl ?_
  refine .seq ?_
  refine .region ?_
  refine TriOps.boxA rfl (fun b3 => ?_)
  refine TriOps.q .assign ?_
  refine .nil ?_
  refine seqQ_n ?_
  refine .seq ?_
  refine .seq ?_
  refine .region_still mixed (by kernel_rfl) ?_
  refine TriOps.q (.fieldAddr rfl) ?_
  refine TriOps.q (.load1 rfl) ?_
  refine TriOps.q .neI ?_
  refine TriOps.q .move ?_
  refine TriOps.split (t := 11) rfl (fun g1_3 => ?_) (fun g1_3 => ?_)
  · skip
    refine TriOps.gT g1_3 ?_
    refine TriOps.q (.fieldAddr rfl) ?_
    refine TriOps.gT g1_3 ?_
    refine TriOps.q (.load1 rfl) ?_
    refine TriOps.gT g1_3 ?_
    refine TriOps.q .neI ?_
    refine TriOps.q (.pickTh g1_3) ?_
    refine TriOps.q .move ?_
    refine TriOps.split (t := 16) rfl (fun g1_8 => ?_) (fun g1_8 => ?_)
    · skip
      refine TriOps.gF g1_8 ?_
      refine TriOps.gF g1_8 ?_
      refine TriOps.gF g1_8 ?_
      refine TriOps.q (.pickTh g1_8) ?_
      refine TriOps.q .move ?_
      refine TriOps.gf rfl rfl ?_
      refine TriOps.gf rfl rfl ?_
      refine TriOps.gf rfl rfl ?_
      refine TriOps.gf rfl rfl ?_
      refine TriOps.gf rfl rfl ?_
      refine TriOps.gf rfl rfl ?_
      refine TriOps.gf rfl rfl ?_
      refine TriOps.q .pickT ?_
      refine .nil ?_
      refine seqQ_n ?_
      refine Tri.cut (X := Unit) (fun _ => rightB t last = true) (fun _ => [(0, .pointer (some ⟨xp, 0, none⟩)), (3, .pointer (some ⟨b3, 0, none⟩))]) (fun _ => [[(b3, .cells (encT (w, t)).toArray 26 (0, 0))], [(xp, .cells [vt, .int .i64 last].toArray 49 (0, 0))], Tt, []]) ?_ ?_
      ·
        refine .condT ?_
        have hrt : rightB t last = false := by
          unfold rightB
          first
            | (have a1 : (t.kind != 1) = true := g1_3
               have a2 : (t.kind != 2) = true := g1_8
               simp at a1 a2
               simp [a1, a2]; done)
            | (have a1 := of_decide_eq_true g1_13
               simp only at a1
               rw [decide_eq_false (p := 1 ≤ t.family) (by omega), Bool.and_false, Bool.false_and]; done)
            | (have a1 := of_decide_eq_true h1
               simp only at a1
               rw [decide_eq_false (p := t.family ≤ last) (by omega), Bool.and_false])
        refine .seq ?_
        refine .region ?_
        refine TriOps.q .assign ?_
        refine .nil ?_
        refine seqQ_n ?_
        refine .ret (joinQ_r (seqQ_r (retQ_r _ (.one (.tmp rfl)) (by first | (refine (HLe.pick [1, 1] _).trans (HLe.ofPerm (H' := [(xp, .cells [vt, .int .i64 last].toArray 49 (0, 0)) :: Tt]) ?_); simp [take, dropAt] <;> fail) | (refine (HLe.pick [1, 2] _).trans (HLe.ofPerm (H' := [(xp, .cells [vo, .int .i64 last].toArray 49 (0, 0)) :: To]) ?_); simp [take, dropAt, setL] <;> fail) | (refine (HLe.pick [2, 2] _).trans (HLe.ofPerm (H' := [(xp, .cells [vo, .int .i64 last].toArray 49 (0, 0)) :: To]) ?_); simp [take, dropAt, setL] <;> fail) | (refine (HLe.pick [1, 2] _).trans (HLe.ofPerm (H' := [(xp, .cells [v5, .int .i64 last].toArray 49 (0, 0)) :: T5]) ?_); simp [take, dropAt, setL] <;> fail) | (refine (HLe.pick [2, 3] _).trans (HLe.ofPerm (H' := [(xp, .cells [v5, .int .i64 last].toArray 49 (0, 0)) :: T5]) ?_); simp [take, dropAt, setL] <;> fail)) ?_)))
        skip
        first
          | (rw [tput_bad hrt]
             exact ⟨_, rfl, rfl, ps, h0, hB, fun p hp => .inl hp, by omega⟩)
          | (obtain ⟨i, w9, t9, _, _, _, hg⟩ := hz.pos (by have := of_decide_eq_true h2; omega)
             rw [hB.get] at hg
             rw [tput_there hrt hg]
             exact ⟨_, rfl, rfl, ps, h0, hB, fun p hp => .inl hp, by omega⟩)
          | (have h9 := of_decide_eq_true h3
             exfalso; omega)
          | (rw [hadd]
             have han : ps.any (ltc tcmp (w, t.fresh)) = false := by rw [Bool.not_eq_true'] at h6; exact h6
             have e0 : gpre (ltc tcmp) (w, t.fresh) ps = ps := by unfold gpre; rw [han]; rfl
             rw [e0, ← gins_end han] at hO5
             exact ⟨_, rfl, rfl, tins (w, t.fresh) ps, ⟨v5, T5, rfl, hO5, by rw [gins_len]; omega⟩, BothT.add (t := t.fresh) hB hno, fun p hp => (List.mem_cons.1 (gins_perm.mem_iff.1 hp)).symm, by rw [gins_len]; omega⟩)
          | (rw [hadd]
             have han : ps.any (ltc tcmp (w, t.fresh)) = true := by rw [Bool.not_eq_false'] at h6; exact h6
             have e0 : gpre (ltc tcmp) (w, t.fresh) ps = gins (ltc tcmp) (w, t.fresh) ps := by unfold gpre; rw [han]; rfl
             rw [e0] at hO4
             exact ⟨_, rfl, rfl, tins (w, t.fresh) ps, ⟨vo, To, rfl, hO4, by rw [gins_len]; omega⟩, BothT.add (t := t.fresh) hB hno, fun p hp => (List.mem_cons.1 (gins_perm.mem_iff.1 hp)).symm, by rw [gins_len]; omega⟩)
      · intro x hx
        have hrt : rightB t last = true := hx
        refine seqQ_n ?_
        refine .seq ?_
        refine .seq ?_
        refine .region ?_
        refine TriOps.q .move ?_
        refine TriOps.q (.fieldAddr rfl) ?_
        refine TriOps.q (.load1 rfl) ?_
        refine TriOps.callR (rtfind_spec xp vt last ps t.text _ hO.rx (fun p hp => (hc p hp).mono fun b o hb => .inl hb)) (fun u hu => ?_)
        obtain ⟨z, rfl, hz⟩ := hu
        refine TriOps.q .geq ?_
        refine .nil ?_
        refine seqQ_n ?_
        refine .cond rfl (fun h2 => ?_) (fun h2 => ?_)
        · skip
          refine .seq ?_
          refine .region ?_
          refine TriOps.q .assign ?_
          refine .nil ?_
          refine seqQ_n ?_
          refine .ret (seqQ_r (retQ_r _ (.one (.tmp rfl)) (by first | (refine (HLe.pick [1, 1] _).trans (HLe.ofPerm (H' := [(xp, .cells [vt, .int .i64 last].toArray 49 (0, 0)) :: Tt]) ?_); simp [take, dropAt] <;> fail) | (refine (HLe.pick [1, 2] _).trans (HLe.ofPerm (H' := [(xp, .cells [vo, .int .i64 last].toArray 49 (0, 0)) :: To]) ?_); simp [take, dropAt, setL] <;> fail) | (refine (HLe.pick [2, 2] _).trans (HLe.ofPerm (H' := [(xp, .cells [vo, .int .i64 last].toArray 49 (0, 0)) :: To]) ?_); simp [take, dropAt, setL] <;> fail) | (refine (HLe.pick [1, 2] _).trans (HLe.ofPerm (H' := [(xp, .cells [v5, .int .i64 last].toArray 49 (0, 0)) :: T5]) ?_); simp [take, dropAt, setL] <;> fail) | (refine (HLe.pick [2, 3] _).trans (HLe.ofPerm (H' := [(xp, .cells [v5, .int .i64 last].toArray 49 (0, 0)) :: T5]) ?_); simp [take, dropAt, setL] <;> fail)) ?_))
          skip
          first
            | (rw [tput_bad hrt]
               exact ⟨_, rfl, rfl, ps, h0, hB, fun p hp => .inl hp, by omega⟩)
            | (obtain ⟨i, w9, t9, _, _, _, hg⟩ := hz.pos (by have := of_decide_eq_true h2; omega)
               rw [hB.get] at hg
               rw [tput_there hrt hg]
               exact ⟨_, rfl, rfl, ps, h0, hB, fun p hp => .inl hp, by omega⟩)
            | (have h9 := of_decide_eq_true h3
               exfalso; omega)
            | (rw [hadd]
               have han : ps.any (ltc tcmp (w, t.fresh)) = false := by rw [Bool.not_eq_true'] at h6; exact h6
               have e0 : gpre (ltc tcmp) (w, t.fresh) ps = ps := by unfold gpre; rw [han]; rfl
               rw [e0, ← gins_end han] at hO5
               exact ⟨_, rfl, rfl, tins (w, t.fresh) ps, ⟨v5, T5, rfl, hO5, by rw [gins_len]; omega⟩, BothT.add (t := t.fresh) hB hno, fun p hp => (List.mem_cons.1 (gins_perm.mem_iff.1 hp)).symm, by rw [gins_len]; omega⟩)
            | (rw [hadd]
               have han : ps.any (ltc tcmp (w, t.fresh)) = true := by rw [Bool.not_eq_false'] at h6; exact h6
               have e0 : gpre (ltc tcmp) (w, t.fresh) ps = gins (ltc tcmp) (w, t.fresh) ps := by unfold gpre; rw [han]; rfl
               rw [e0] at hO4
               exact ⟨_, rfl, rfl, tins (w, t.fresh) ps, ⟨vo, To, rfl, hO4, by rw [gins_len]; omega⟩, BothT.add (t := t.fresh) hB hno, fun p hp => (List.mem_cons.1 (gins_perm.mem_iff.1 hp)).symm, by rw [gins_len]; omega⟩)
        · skip
          have hno : mget t.text A = none := by rw [← hB.get]; exact hz.neg (by have := of_decide_eq_false h2; omega)
          refine .skip ?_
          refine seqQ_n ?_
          refine .seq ?_
          refine .seq ?_
          refine .region ?_
          refine TriOps.q .move ?_
          refine TriOps.q (.nilCheck rfl) ?_
          refine TriOps.q (.fieldAddr rfl) ?_
          refine TriOps.q (.load1 rfl) ?_
          refine TriOps.q (.lenO hO) ?_
          refine TriOps.q .geq ?_
          refine .nil ?_
          refine seqQ_n ?_
          refine .cond rfl (fun h3 => ?_) (fun h3 => ?_)
          · skip
            refine .seq ?_
            refine .region ?_
            refine TriOps.q .assign ?_
            refine .nil ?_
            refine seqQ_n ?_
            refine .ret (seqQ_r (retQ_r _ (.one (.tmp rfl)) (by first | (refine (HLe.pick [1, 1] _).trans (HLe.ofPerm (H' := [(xp, .cells [vt, .int .i64 last].toArray 49 (0, 0)) :: Tt]) ?_); simp [take, dropAt] <;> fail) | (refine (HLe.pick [1, 2] _).trans (HLe.ofPerm (H' := [(xp, .cells [vo, .int .i64 last].toArray 49 (0, 0)) :: To]) ?_); simp [take, dropAt, setL] <;> fail) | (refine (HLe.pick [2, 2] _).trans (HLe.ofPerm (H' := [(xp, .cells [vo, .int .i64 last].toArray 49 (0, 0)) :: To]) ?_); simp [take, dropAt, setL] <;> fail) | (refine (HLe.pick [1, 2] _).trans (HLe.ofPerm (H' := [(xp, .cells [v5, .int .i64 last].toArray 49 (0, 0)) :: T5]) ?_); simp [take, dropAt, setL] <;> fail) | (refine (HLe.pick [2, 3] _).trans (HLe.ofPerm (H' := [(xp, .cells [v5, .int .i64 last].toArray 49 (0, 0)) :: T5]) ?_); simp [take, dropAt, setL] <;> fail)) ?_))
            skip
            first
              | (rw [tput_bad hrt]
                 exact ⟨_, rfl, rfl, ps, h0, hB, fun p hp => .inl hp, by omega⟩)
              | (obtain ⟨i, w9, t9, _, _, _, hg⟩ := hz.pos (by have := of_decide_eq_true h2; omega)
                 rw [hB.get] at hg
                 rw [tput_there hrt hg]
                 exact ⟨_, rfl, rfl, ps, h0, hB, fun p hp => .inl hp, by omega⟩)
              | (have h9 := of_decide_eq_true h3
                 exfalso; omega)
              | (rw [hadd]
                 have han : ps.any (ltc tcmp (w, t.fresh)) = false := by rw [Bool.not_eq_true'] at h6; exact h6
                 have e0 : gpre (ltc tcmp) (w, t.fresh) ps = ps := by unfold gpre; rw [han]; rfl
                 rw [e0, ← gins_end han] at hO5
                 exact ⟨_, rfl, rfl, tins (w, t.fresh) ps, ⟨v5, T5, rfl, hO5, by rw [gins_len]; omega⟩, BothT.add (t := t.fresh) hB hno, fun p hp => (List.mem_cons.1 (gins_perm.mem_iff.1 hp)).symm, by rw [gins_len]; omega⟩)
              | (rw [hadd]
                 have han : ps.any (ltc tcmp (w, t.fresh)) = true := by rw [Bool.not_eq_false'] at h6; exact h6
                 have e0 : gpre (ltc tcmp) (w, t.fresh) ps = gins (ltc tcmp) (w, t.fresh) ps := by unfold gpre; rw [han]; rfl
                 rw [e0] at hO4
                 exact ⟨_, rfl, rfl, tins (w, t.fresh) ps, ⟨vo, To, rfl, hO4, by rw [gins_len]; omega⟩, BothT.add (t := t.fresh) hB hno, fun p hp => (List.mem_cons.1 (gins_perm.mem_iff.1 hp)).symm, by rw [gins_len]; omega⟩)
          · skip
            have hlt9 : ps.length < 4096 := by have := of_decide_eq_false h3; omega
            have hadd := tput_ok hrt hno (by omega)
            refine .skip ?_
            refine seqQ_n ?_
            refine .seq ?_
            refine .region ?_
            refine TriOps.q (.fieldAddr rfl) ?_
            refine TriOps.store1 rfl rfl ?_
            refine .nil ?_
            refine seqQ_n ?_
            refine .seq ?_
            refine .region ?_
            refine TriOps.q .assign ?_
            refine .nil ?_
            refine seqQ_n ?_
            refine .seq ?_
            refine .region ?_
            refine TriOps.q .assign ?_
            refine .nil ?_
            refine seqQ_n ?_
            refine .seq ?_
            refine .seq ?_
            refine .region ?_
            refine TriOps.q .assign ?_
            refine .nil ?_
            refine seqQ_n ?_
            refine .block ?_
            refine .loop (X := Nat × Value × Seg) (fun y => y.1 ≤ ps.length ∧ OS 26 9 encT y.2.1 (gpre (ltc tcmp) (w, t.fresh) (ps.take y.1)) y.2.2) (fun y => [(0, .pointer (some ⟨xp, 0, none⟩)), (3, .pointer (some ⟨b3, 0, none⟩)), (5, y.2.1), (6, .bool ((ps.take y.1).any (ltc tcmp (w, t.fresh)))), (7, .int .i64 (y.1 : Nat))]) (fun y => [[(b3, .cells (encT (w, t.fresh)).toArray 26 (0, 0))], [(xp, .cells [vt, .int .i64 last].toArray 49 (0, 0))], Tt, y.2.2]) (fun y => ps.length - y.1) (0, .slice none 0 0, []) ⟨Nat.zero_le _, OS.nil⟩ ((((((EnvLe.nil _).cons rfl).cons rfl).cons rfl).cons rfl).cons rfl) (HLe.refl _) ?_
            rintro ⟨k, vo, To⟩ ⟨hk, hO4⟩
            simp only at hk hO4 ⊢
            have i4 := hO4.oneCell
            have hle4 := gpre_len (lt := ltc tcmp) (p := ((w, t.fresh) : TP)) (X := ps.take k)
            rw [List.length_take, Nat.min_eq_left hk] at hle4
            refine .seq ?_
            refine .seq ?_
            refine .region ?_
            refine TriOps.q .move ?_
            refine TriOps.q .move ?_
            refine TriOps.q (.nilCheck rfl) ?_
            refine TriOps.q (.fieldAddr rfl) ?_
            refine TriOps.q (.load1 rfl) ?_
            refine TriOps.q (.lenO hO) ?_
            refine TriOps.q .lss ?_
            refine .nil ?_
            refine seqQ_n ?_
            refine .cond rfl (fun h4 => ?_) (fun h4 => ?_)
            · skip
              have hk2 : k < ps.length := by have := of_decide_eq_true h4; omega
              obtain ⟨⟨wy, ty⟩, hx⟩ : ∃ y, ps[k]? = some y := ⟨_, List.getElem?_eq_getElem hk2⟩
              have cx := hc _ (List.mem_of_getElem? hx)
              have ix : Ones (encT (wy, ty)) := ⟨cx.ones⟩
              have e4 := gmid_next (lt := ltc tcmp) (p := ((w, t.fresh) : TP)) hx
              refine .skip ?_
              refine seqQ_n ?_
              refine .seq ?_
              refine .block ?_
              refine .seq ?_
              refine Tri.cut (X := Value × Seg) (fun z => OS 26 9 encT z.1 (gmid (ltc tcmp) (w, t.fresh) (ps.take k) (wy, ty)) z.2) (fun z => [(0, .pointer (some ⟨xp, 0, none⟩)), (3, .pointer (some ⟨b3, 0, none⟩)), (5, z.1), (6, .bool ((ps.take (k + 1)).any (ltc tcmp (w, t.fresh)))), (7, .int .i64 (k : Nat))]) (fun z => [[(b3, .cells (encT (w, t.fresh)).toArray 26 (0, 0))], [(xp, .cells [vt, .int .i64 last].toArray 49 (0, 0))], Tt, z.2]) ?_ ?_
              · refine .seq ?_
                refine .region_still mixed (by kernel_rfl) ?_
                refine TriOps.q .move ?_
                refine TriOps.q .not ?_
                refine TriOps.q .move ?_
                refine TriOps.split (t := 53) rfl (fun g13_2 => ?_) (fun g13_2 => ?_)
                · skip
                  refine TriOps.gT g13_2 ?_
                  refine TriOps.q (.fieldAddr rfl) ?_
                  refine TriOps.gT g13_2 ?_
                  refine TriOps.q (.load1 rfl) ?_
                  refine TriOps.gT g13_2 ?_
                  refine TriOps.q .move ?_
                  refine TriOps.gT g13_2 ?_
                  refine TriOps.q (.nilCheck rfl) ?_
                  refine TriOps.gT g13_2 ?_
                  refine TriOps.q (.fieldAddr rfl) ?_
                  refine TriOps.gT g13_2 ?_
                  refine TriOps.q (.load1 rfl) ?_
                  refine TriOps.gT g13_2 ?_
                  refine TriOps.q .move ?_
                  refine TriOps.gT g13_2 ?_
                  refine TriOps.indexO k hO hx (fun p61 => ?_)
                  refine TriOps.gT g13_2 ?_
                  refine TriOps.q (.fieldAddr rfl) ?_
                  refine TriOps.gT g13_2 ?_
                  refine TriOps.q (.load1 rfl) ?_
                  refine TriOps.gT g13_2 ?_
                  refine TriOps.q .ltS ?_
                  refine TriOps.q (.pickTh g13_2) ?_
                  refine .nil ?_
                  refine seqQ_n ?_
                  refine .cond rfl (fun h5 => ?_) (fun h5 => ?_)
                  · skip
                    first | have hput := gmid_put hx g13_2 ((ltc_tcmp (w, t.fresh) (wy, ty)).trans h5) | skip
                    refine .seq ?_
                    refine .region ?_
                    refine TriOps.q .move ?_
                    refine TriOps.q (.loadA rfl) ?_
                    refine TriOps.buildSlice1A (fun b68 => ?_)
                    refine TriOps.append hO4 (RS.lits (xs := [((w, t.fresh) : TP)]) rfl (by simp [encT]) (by have := ir2.h; simpa using this)) (by simp; omega) (fun v5 T5 hO5 => ?_)
                    refine TriOps.q .assign ?_
                    refine .nil ?_
                    refine seqQ_n ?_
                    refine .region ?_
                    refine TriOps.q .assign ?_
                    refine .nil ?_
                    first
                      | (obtain ⟨hm, hA⟩ := hput
                         exact joinQ_n (v5, T5) (by simp only; rw [hm]; exact hO5) (by simp only; rw [hA]; exact (((((EnvLe.nil _).cons rfl).cons rfl).cons rfl).cons rfl).cons rfl) (HLe.pick [1, 1, 1, 1] _))
                      | (obtain ⟨hm, hA⟩ := hnot
                         exact joinQ_n (vo, To) (by simp only; rw [hm]; simpa using hO4) (by simp only; rw [hA]; exact (((((EnvLe.nil _).cons rfl).cons rfl).cons rfl).cons rfl).cons rfl) (HLe.refl _))
                  · skip
                    first | have hnot := gmid_not (p := ((w, t.fresh) : TP)) hx (.inr ((ltc_tcmp (w, t.fresh) (wy, ty)).trans h5)) | skip
                    refine .skip ?_
                    first
                      | (obtain ⟨hm, hA⟩ := hput
                         exact joinQ_n (v5, T5) (by simp only; rw [hm]; exact hO5) (by simp only; rw [hA]; exact (((((EnvLe.nil _).cons rfl).cons rfl).cons rfl).cons rfl).cons rfl) (HLe.pick [1, 1, 1, 1] _))
                      | (obtain ⟨hm, hA⟩ := hnot
                         exact joinQ_n (vo, To) (by simp only; rw [hm]; simpa using hO4) (by simp only; rw [hA]; exact (((((EnvLe.nil _).cons rfl).cons rfl).cons rfl).cons rfl).cons rfl) (HLe.refl _))
                · skip
                  have hnot := gmid_not (p := ((w, t.fresh) : TP)) hx (.inl g13_2)
                  refine TriOps.gF g13_2 ?_
                  refine TriOps.gF g13_2 ?_
                  refine TriOps.gF g13_2 ?_
                  refine TriOps.gF g13_2 ?_
                  refine TriOps.gF g13_2 ?_
                  refine TriOps.gF g13_2 ?_
                  refine TriOps.gF g13_2 ?_
                  refine TriOps.gF g13_2 ?_
                  refine TriOps.gF g13_2 ?_
                  refine TriOps.gF g13_2 ?_
                  refine TriOps.gF g13_2 ?_
                  refine TriOps.q (.pickFh g13_2) ?_
                  refine .nil ?_
                  refine seqQ_n ?_
                  refine .condF ?_
                  first | have hnot := gmid_not (p := ((w, t.fresh) : TP)) hx (.inr ((ltc_tcmp (w, t.fresh) (wy, ty)).trans h5)) | skip
                  refine .skip ?_
                  first
                    | (obtain ⟨hm, hA⟩ := hput
                       exact joinQ_n (v5, T5) (by simp only; rw [hm]; exact hO5) (by simp only; rw [hA]; exact (((((EnvLe.nil _).cons rfl).cons rfl).cons rfl).cons rfl).cons rfl) (HLe.pick [1, 1, 1, 1] _))
                    | (obtain ⟨hm, hA⟩ := hnot
                       exact joinQ_n (vo, To) (by simp only; rw [hm]; simpa using hO4) (by simp only; rw [hA]; exact (((((EnvLe.nil _).cons rfl).cons rfl).cons rfl).cons rfl).cons rfl) (HLe.refl _))
              · intro y hy
                obtain ⟨vm, Tm⟩ := y
                have hO6 : OS 26 9 encT vm (gmid (ltc tcmp) (w, t.fresh) (ps.take k) (wy, ty)) Tm := hy
                have i6 := hO6.oneCell
                simp only
                refine seqQ_n ?_
                refine .region ?_
                refine TriOps.q .move ?_
                refine TriOps.q .move ?_
                refine TriOps.q (.nilCheck rfl) ?_
                refine TriOps.q (.fieldAddr rfl) ?_
                refine TriOps.q (.load1 rfl) ?_
                refine TriOps.q .move ?_
                refine TriOps.indexO k hO hx (fun p76 => ?_)
                refine TriOps.q (.loadA rfl) ?_
                refine TriOps.buildSlice1A (fun b78 => ?_)
                refine TriOps.append hO6 (RS.lits (xs := [((wy, ty) : TP)]) rfl (by simp [encT]) (by have := cx.ones; simpa using this)) (by have := gpre_len (lt := ltc tcmp) (p := ((w, t.fresh) : TP)) (X := ps.take (k + 1)); rw [← e4] at this; simp at this ⊢; omega) (fun v7 T7 hO7 => ?_)
                rw [e4] at hO7
                refine TriOps.q .assign ?_
                refine .nil ?_
                refine blkQ_n (seqQ_n ?_)
                refine .region ?_
                refine TriOps.q .move ?_
                refine TriOps.q (.i64 ((k + 1 : Nat) : Int) .add ⟨by omega, by omega, by omega⟩) ?_
                refine TriOps.q .assign ?_
                refine .nil ?_
                exact loopQ_i (k + 1, v7, T7) ⟨hk2, hO7⟩ (by simp only; omega) ((((((EnvLe.nil _).cons rfl).cons rfl).cons rfl).cons rfl).cons rfl) (HLe.pick [1, 1, 1, 1] _)
            · skip
              have hk3 : k = ps.length := by have := of_decide_eq_false h4; omega
              subst hk3
              rw [List.take_length] at hO4 hle4 ⊢
              refine .exit (seqQ_x (loopQ_x (blkQ_x ?_)))
              refine seqQ_n ?_
              refine .seq ?_
              refine .seq ?_
              refine .region ?_
              refine TriOps.q .move ?_
              refine TriOps.q .not ?_
              refine .nil ?_
              refine seqQ_n ?_
              refine .cond rfl (fun h6 => ?_) (fun h6 => ?_)
              · skip
                refine .region ?_
                refine TriOps.q .move ?_
                refine TriOps.q (.loadA rfl) ?_
                refine TriOps.buildSlice1A (fun b84 => ?_)
                refine TriOps.append hO4 (RS.lits (xs := [((w, t.fresh) : TP)]) rfl (by simp [encT]) (by have := ir2.h; simpa using this)) (by simp; omega) (fun v5 T5 hO5 => ?_)
                have i5 := hO5.oneCell
                refine TriOps.q .assign ?_
                refine .nil ?_
                refine seqQ_n ?_
                refine .seq ?_
                refine .region ?_
                refine TriOps.q .move ?_
                refine TriOps.q .move ?_
                refine TriOps.q (.nilCheck rfl) ?_
                refine TriOps.q (.fieldAddr rfl) ?_
                refine TriOps.store1 rfl rfl ?_
                refine .nil ?_
                refine seqQ_n ?_
                refine .seq ?_
                refine .region ?_
                refine TriOps.q .assign ?_
                refine .nil ?_
                refine seqQ_n ?_
                refine .ret (retQ_r _ (.one (.tmp rfl)) (by first | (refine (HLe.pick [1, 1] _).trans (HLe.ofPerm (H' := [(xp, .cells [vt, .int .i64 last].toArray 49 (0, 0)) :: Tt]) ?_); simp [take, dropAt] <;> fail) | (refine (HLe.pick [1, 2] _).trans (HLe.ofPerm (H' := [(xp, .cells [vo, .int .i64 last].toArray 49 (0, 0)) :: To]) ?_); simp [take, dropAt, setL] <;> fail) | (refine (HLe.pick [2, 2] _).trans (HLe.ofPerm (H' := [(xp, .cells [vo, .int .i64 last].toArray 49 (0, 0)) :: To]) ?_); simp [take, dropAt, setL] <;> fail) | (refine (HLe.pick [1, 2] _).trans (HLe.ofPerm (H' := [(xp, .cells [v5, .int .i64 last].toArray 49 (0, 0)) :: T5]) ?_); simp [take, dropAt, setL] <;> fail) | (refine (HLe.pick [2, 3] _).trans (HLe.ofPerm (H' := [(xp, .cells [v5, .int .i64 last].toArray 49 (0, 0)) :: T5]) ?_); simp [take, dropAt, setL] <;> fail)) ?_)
                skip
                first
                  | (rw [tput_bad hrt]
                     exact ⟨_, rfl, rfl, ps, h0, hB, fun p hp => .inl hp, by omega⟩)
                  | (obtain ⟨i, w9, t9, _, _, _, hg⟩ := hz.pos (by have := of_decide_eq_true h2; omega)
                     rw [hB.get] at hg
                     rw [tput_there hrt hg]
                     exact ⟨_, rfl, rfl, ps, h0, hB, fun p hp => .inl hp, by omega⟩)
                  | (have h9 := of_decide_eq_true h3
                     exfalso; omega)
                  | (rw [hadd]
                     have han : ps.any (ltc tcmp (w, t.fresh)) = false := by rw [Bool.not_eq_true'] at h6; exact h6
                     have e0 : gpre (ltc tcmp) (w, t.fresh) ps = ps := by unfold gpre; rw [han]; rfl
                     rw [e0, ← gins_end han] at hO5
                     exact ⟨_, rfl, rfl, tins (w, t.fresh) ps, ⟨v5, T5, rfl, hO5, by rw [gins_len]; omega⟩, BothT.add (t := t.fresh) hB hno, fun p hp => (List.mem_cons.1 (gins_perm.mem_iff.1 hp)).symm, by rw [gins_len]; omega⟩)
                  | (rw [hadd]
                     have han : ps.any (ltc tcmp (w, t.fresh)) = true := by rw [Bool.not_eq_false'] at h6; exact h6
                     have e0 : gpre (ltc tcmp) (w, t.fresh) ps = gins (ltc tcmp) (w, t.fresh) ps := by unfold gpre; rw [han]; rfl
                     rw [e0] at hO4
                     exact ⟨_, rfl, rfl, tins (w, t.fresh) ps, ⟨vo, To, rfl, hO4, by rw [gins_len]; omega⟩, BothT.add (t := t.fresh) hB hno, fun p hp => (List.mem_cons.1 (gins_perm.mem_iff.1 hp)).symm, by rw [gins_len]; omega⟩)
              · skip
                refine .skip ?_
                refine seqQ_n ?_
                refine .seq ?_
                refine .region ?_
                refine TriOps.q .move ?_
                refine TriOps.q .move ?_
                refine TriOps.q (.nilCheck rfl) ?_
                refine TriOps.q (.fieldAddr rfl) ?_
                refine TriOps.store1 rfl rfl ?_
                refine .nil ?_
                refine seqQ_n ?_
                refine .seq ?_
                refine .region ?_
                refine TriOps.q .assign ?_
                refine .nil ?_
                refine seqQ_n ?_
                refine .ret (retQ_r _ (.one (.tmp rfl)) (by first | (refine (HLe.pick [1, 1] _).trans (HLe.ofPerm (H' := [(xp, .cells [vt, .int .i64 last].toArray 49 (0, 0)) :: Tt]) ?_); simp [take, dropAt] <;> fail) | (refine (HLe.pick [1, 2] _).trans (HLe.ofPerm (H' := [(xp, .cells [vo, .int .i64 last].toArray 49 (0, 0)) :: To]) ?_); simp [take, dropAt, setL] <;> fail) | (refine (HLe.pick [2, 2] _).trans (HLe.ofPerm (H' := [(xp, .cells [vo, .int .i64 last].toArray 49 (0, 0)) :: To]) ?_); simp [take, dropAt, setL] <;> fail) | (refine (HLe.pick [1, 2] _).trans (HLe.ofPerm (H' := [(xp, .cells [v5, .int .i64 last].toArray 49 (0, 0)) :: T5]) ?_); simp [take, dropAt, setL] <;> fail) | (refine (HLe.pick [2, 3] _).trans (HLe.ofPerm (H' := [(xp, .cells [v5, .int .i64 last].toArray 49 (0, 0)) :: T5]) ?_); simp [take, dropAt, setL] <;> fail)) ?_)
                skip
                first
                  | (rw [tput_bad hrt]
                     exact ⟨_, rfl, rfl, ps, h0, hB, fun p hp => .inl hp, by omega⟩)
                  | (obtain ⟨i, w9, t9, _, _, _, hg⟩ := hz.pos (by have := of_decide_eq_true h2; omega)
                     rw [hB.get] at hg
                     rw [tput_there hrt hg]
                     exact ⟨_, rfl, rfl, ps, h0, hB, fun p hp => .inl hp, by omega⟩)
                  | (have h9 := of_decide_eq_true h3
                     exfalso; omega)
                  | (rw [hadd]
                     have han : ps.any (ltc tcmp (w, t.fresh)) = false := by rw [Bool.not_eq_true'] at h6; exact h6
                     have e0 : gpre (ltc tcmp) (w, t.fresh) ps = ps := by unfold gpre; rw [han]; rfl
                     rw [e0, ← gins_end han] at hO5
                     exact ⟨_, rfl, rfl, tins (w, t.fresh) ps, ⟨v5, T5, rfl, hO5, by rw [gins_len]; omega⟩, BothT.add (t := t.fresh) hB hno, fun p hp => (List.mem_cons.1 (gins_perm.mem_iff.1 hp)).symm, by rw [gins_len]; omega⟩)
                  | (rw [hadd]
                     have han : ps.any (ltc tcmp (w, t.fresh)) = true := by rw [Bool.not_eq_false'] at h6; exact h6
                     have e0 : gpre (ltc tcmp) (w, t.fresh) ps = gins (ltc tcmp) (w, t.fresh) ps := by unfold gpre; rw [han]; rfl
                     rw [e0] at hO4
                     exact ⟨_, rfl, rfl, tins (w, t.fresh) ps, ⟨vo, To, rfl, hO4, by rw [gins_len]; omega⟩, BothT.add (t := t.fresh) hB hno, fun p hp => (List.mem_cons.1 (gins_perm.mem_iff.1 hp)).symm, by rw [gins_len]; omega⟩)
    · skip
      refine TriOps.gT g1_8 ?_
      refine TriOps.q (.fieldAddr rfl) ?_
      refine TriOps.gT g1_8 ?_
      refine TriOps.q (.load1 rfl) ?_
      refine TriOps.gT g1_8 ?_
      refine TriOps.q .lss ?_
      refine TriOps.q (.pickFh g1_8) ?_
      refine TriOps.q .move ?_
      refine TriOps.split (t := 21) rfl (fun g1_13 => ?_) (fun g1_13 => ?_)
      · skip
        refine TriOps.gF g1_13 ?_
        refine TriOps.gF g1_13 ?_
        refine TriOps.gF g1_13 ?_
        refine TriOps.gF g1_13 ?_
        refine TriOps.gF g1_13 ?_
        refine TriOps.gF g1_13 ?_
        refine TriOps.gF g1_13 ?_
        refine TriOps.q (.pickTh g1_13) ?_
        refine .nil ?_
        refine seqQ_n ?_
        refine Tri.cut (X := Unit) (fun _ => rightB t last = true) (fun _ => [(0, .pointer (some ⟨xp, 0, none⟩)), (3, .pointer (some ⟨b3, 0, none⟩))]) (fun _ => [[(b3, .cells (encT (w, t)).toArray 26 (0, 0))], [(xp, .cells [vt, .int .i64 last].toArray 49 (0, 0))], Tt, []]) ?_ ?_
        ·
          refine .condT ?_
          have hrt : rightB t last = false := by
            unfold rightB
            first
              | (have a1 : (t.kind != 1) = true := g1_3
                 have a2 : (t.kind != 2) = true := g1_8
                 simp at a1 a2
                 simp [a1, a2]; done)
              | (have a1 := of_decide_eq_true g1_13
                 simp only at a1
                 rw [decide_eq_false (p := 1 ≤ t.family) (by omega), Bool.and_false, Bool.false_and]; done)
              | (have a1 := of_decide_eq_true h1
                 simp only at a1
                 rw [decide_eq_false (p := t.family ≤ last) (by omega), Bool.and_false])
          refine .seq ?_
          refine .region ?_
          refine TriOps.q .assign ?_
          refine .nil ?_
          refine seqQ_n ?_
          refine .ret (joinQ_r (seqQ_r (retQ_r _ (.one (.tmp rfl)) (by first | (refine (HLe.pick [1, 1] _).trans (HLe.ofPerm (H' := [(xp, .cells [vt, .int .i64 last].toArray 49 (0, 0)) :: Tt]) ?_); simp [take, dropAt] <;> fail) | (refine (HLe.pick [1, 2] _).trans (HLe.ofPerm (H' := [(xp, .cells [vo, .int .i64 last].toArray 49 (0, 0)) :: To]) ?_); simp [take, dropAt, setL] <;> fail) | (refine (HLe.pick [2, 2] _).trans (HLe.ofPerm (H' := [(xp, .cells [vo, .int .i64 last].toArray 49 (0, 0)) :: To]) ?_); simp [take, dropAt, setL] <;> fail) | (refine (HLe.pick [1, 2] _).trans (HLe.ofPerm (H' := [(xp, .cells [v5, .int .i64 last].toArray 49 (0, 0)) :: T5]) ?_); simp [take, dropAt, setL] <;> fail) | (refine (HLe.pick [2, 3] _).trans (HLe.ofPerm (H' := [(xp, .cells [v5, .int .i64 last].toArray 49 (0, 0)) :: T5]) ?_); simp [take, dropAt, setL] <;> fail)) ?_)))
          skip
          first
            | (rw [tput_bad hrt]
               exact ⟨_, rfl, rfl, ps, h0, hB, fun p hp => .inl hp, by omega⟩)
            | (obtain ⟨i, w9, t9, _, _, _, hg⟩ := hz.pos (by have := of_decide_eq_true h2; omega)
               rw [hB.get] at hg
               rw [tput_there hrt hg]
               exact ⟨_, rfl, rfl, ps, h0, hB, fun p hp => .inl hp, by omega⟩)
            | (have h9 := of_decide_eq_true h3
               exfalso; omega)
            | (rw [hadd]
               have han : ps.any (ltc tcmp (w, t.fresh)) = false := by rw [Bool.not_eq_true'] at h6; exact h6
               have e0 : gpre (ltc tcmp) (w, t.fresh) ps = ps := by unfold gpre; rw [han]; rfl
               rw [e0, ← gins_end han] at hO5
               exact ⟨_, rfl, rfl, tins (w, t.fresh) ps, ⟨v5, T5, rfl, hO5, by rw [gins_len]; omega⟩, BothT.add (t := t.fresh) hB hno, fun p hp => (List.mem_cons.1 (gins_perm.mem_iff.1 hp)).symm, by rw [gins_len]; omega⟩)
            | (rw [hadd]
               have han : ps.any (ltc tcmp (w, t.fresh)) = true := by rw [Bool.not_eq_false'] at h6; exact h6
               have e0 : gpre (ltc tcmp) (w, t.fresh) ps = gins (ltc tcmp) (w, t.fresh) ps := by unfold gpre; rw [han]; rfl
               rw [e0] at hO4
               exact ⟨_, rfl, rfl, tins (w, t.fresh) ps, ⟨vo, To, rfl, hO4, by rw [gins_len]; omega⟩, BothT.add (t := t.fresh) hB hno, fun p hp => (List.mem_cons.1 (gins_perm.mem_iff.1 hp)).symm, by rw [gins_len]; omega⟩)
        · intro x hx
          have hrt : rightB t last = true := hx
          refine seqQ_n ?_
          refine .seq ?_
          refine .seq ?_
          refine .region ?_
          refine TriOps.q .move ?_
          refine TriOps.q (.fieldAddr rfl) ?_
          refine TriOps.q (.load1 rfl) ?_
          refine TriOps.callR (rtfind_spec xp vt last ps t.text _ hO.rx (fun p hp => (hc p hp).mono fun b o hb => .inl hb)) (fun u hu => ?_)
          obtain ⟨z, rfl, hz⟩ := hu
          refine TriOps.q .geq ?_
          refine .nil ?_
          refine seqQ_n ?_
          refine .cond rfl (fun h2 => ?_) (fun h2 => ?_)
          · skip
            refine .seq ?_
            refine .region ?_
            refine TriOps.q .assign ?_
            refine .nil ?_
            refine seqQ_n ?_
            refine .ret (seqQ_r (retQ_r _ (.one (.tmp rfl)) (by first | (refine (HLe.pick [1, 1] _).trans (HLe.ofPerm (H' := [(xp, .cells [vt, .int .i64 last].toArray 49 (0, 0)) :: Tt]) ?_); simp [take, dropAt] <;> fail) | (refine (HLe.pick [1, 2] _).trans (HLe.ofPerm (H' := [(xp, .cells [vo, .int .i64 last].toArray 49 (0, 0)) :: To]) ?_); simp [take, dropAt, setL] <;> fail) | (refine (HLe.pick [2, 2] _).trans (HLe.ofPerm (H' := [(xp, .cells [vo, .int .i64 last].toArray 49 (0, 0)) :: To]) ?_); simp [take, dropAt, setL] <;> fail) | (refine (HLe.pick [1, 2] _).trans (HLe.ofPerm (H' := [(xp, .cells [v5, .int .i64 last].toArray 49 (0, 0)) :: T5]) ?_); simp [take, dropAt, setL] <;> fail) | (refine (HLe.pick [2, 3] _).trans (HLe.ofPerm (H' := [(xp, .cells [v5, .int .i64 last].toArray 49 (0, 0)) :: T5]) ?_); simp [take, dropAt, setL] <;> fail)) ?_))
            skip
            first
              | (rw [tput_bad hrt]
                 exact ⟨_, rfl, rfl, ps, h0, hB, fun p hp => .inl hp, by omega⟩)
              | (obtain ⟨i, w9, t9, _, _, _, hg⟩ := hz.pos (by have := of_decide_eq_true h2; omega)
                 rw [hB.get] at hg
                 rw [tput_there hrt hg]
                 exact ⟨_, rfl, rfl, ps, h0, hB, fun p hp => .inl hp, by omega⟩)
              | (have h9 := of_decide_eq_true h3
                 exfalso; omega)
              | (rw [hadd]
                 have han : ps.any (ltc tcmp (w, t.fresh)) = false := by rw [Bool.not_eq_true'] at h6; exact h6
                 have e0 : gpre (ltc tcmp) (w, t.fresh) ps = ps := by unfold gpre; rw [han]; rfl
                 rw [e0, ← gins_end han] at hO5
                 exact ⟨_, rfl, rfl, tins (w, t.fresh) ps, ⟨v5, T5, rfl, hO5, by rw [gins_len]; omega⟩, BothT.add (t := t.fresh) hB hno, fun p hp => (List.mem_cons.1 (gins_perm.mem_iff.1 hp)).symm, by rw [gins_len]; omega⟩)
              | (rw [hadd]
                 have han : ps.any (ltc tcmp (w, t.fresh)) = true := by rw [Bool.not_eq_false'] at h6; exact h6
                 have e0 : gpre (ltc tcmp) (w, t.fresh) ps = gins (ltc tcmp) (w, t.fresh) ps := by unfold gpre; rw [han]; rfl
                 rw [e0] at hO4
                 exact ⟨_, rfl, rfl, tins (w, t.fresh) ps, ⟨vo, To, rfl, hO4, by rw [gins_len]; omega⟩, BothT.add (t := t.fresh) hB hno, fun p hp => (List.mem_cons.1 (gins_perm.mem_iff.1 hp)).symm, by rw [gins_len]; omega⟩)
          · skip
            have hno : mget t.text A = none := by rw [← hB.get]; exact hz.neg (by have := of_decide_eq_false h2; omega)
            refine .skip ?_
            refine seqQ_n ?_
            refine .seq ?_
            refine .seq ?_
            refine .region ?_
            refine TriOps.q .move ?_
            refine TriOps.q (.nilCheck rfl) ?_
            refine TriOps.q (.fieldAddr rfl) ?_
            refine TriOps.q (.load1 rfl) ?_
            refine TriOps.q (.lenO hO) ?_
            refine TriOps.q .geq ?_
            refine .nil ?_
            refine seqQ_n ?_
            refine .cond rfl (fun h3 => ?_) (fun h3 => ?_)
            · skip
              refine .seq ?_
              refine .region ?_
              refine TriOps.q .assign ?_
              refine .nil ?_
              refine seqQ_n ?_
              refine .ret (seqQ_r (retQ_r _ (.one (.tmp rfl)) (by first | (refine (HLe.pick [1, 1] _).trans (HLe.ofPerm (H' := [(xp, .cells [vt, .int .i64 last].toArray 49 (0, 0)) :: Tt]) ?_); simp [take, dropAt] <;> fail) | (refine (HLe.pick [1, 2] _).trans (HLe.ofPerm (H' := [(xp, .cells [vo, .int .i64 last].toArray 49 (0, 0)) :: To]) ?_); simp [take, dropAt, setL] <;> fail) | (refine (HLe.pick [2, 2] _).trans (HLe.ofPerm (H' := [(xp, .cells [vo, .int .i64 last].toArray 49 (0, 0)) :: To]) ?_); simp [take, dropAt, setL] <;> fail) | (refine (HLe.pick [1, 2] _).trans (HLe.ofPerm (H' := [(xp, .cells [v5, .int .i64 last].toArray 49 (0, 0)) :: T5]) ?_); simp [take, dropAt, setL] <;> fail) | (refine (HLe.pick [2, 3] _).trans (HLe.ofPerm (H' := [(xp, .cells [v5, .int .i64 last].toArray 49 (0, 0)) :: T5]) ?_); simp [take, dropAt, setL] <;> fail)) ?_))
              skip
              first
                | (rw [tput_bad hrt]
                   exact ⟨_, rfl, rfl, ps, h0, hB, fun p hp => .inl hp, by omega⟩)
                | (obtain ⟨i, w9, t9, _, _, _, hg⟩ := hz.pos (by have := of_decide_eq_true h2; omega)
                   rw [hB.get] at hg
                   rw [tput_there hrt hg]
                   exact ⟨_, rfl, rfl, ps, h0, hB, fun p hp => .inl hp, by omega⟩)
                | (have h9 := of_decide_eq_true h3
                   exfalso; omega)
                | (rw [hadd]
                   have han : ps.any (ltc tcmp (w, t.fresh)) = false := by rw [Bool.not_eq_true'] at h6; exact h6
                   have e0 : gpre (ltc tcmp) (w, t.fresh) ps = ps := by unfold gpre; rw [han]; rfl
                   rw [e0, ← gins_end han] at hO5
                   exact ⟨_, rfl, rfl, tins (w, t.fresh) ps, ⟨v5, T5, rfl, hO5, by rw [gins_len]; omega⟩, BothT.add (t := t.fresh) hB hno, fun p hp => (List.mem_cons.1 (gins_perm.mem_iff.1 hp)).symm, by rw [gins_len]; omega⟩)
                | (rw [hadd]
                   have han : ps.any (ltc tcmp (w, t.fresh)) = true := by rw [Bool.not_eq_false'] at h6; exact h6
                   have e0 : gpre (ltc tcmp) (w, t.fresh) ps = gins (ltc tcmp) (w, t.fresh) ps := by unfold gpre; rw [han]; rfl
                   rw [e0] at hO4
                   exact ⟨_, rfl, rfl, tins (w, t.fresh) ps, ⟨vo, To, rfl, hO4, by rw [gins_len]; omega⟩, BothT.add (t := t.fresh) hB hno, fun p hp => (List.mem_cons.1 (gins_perm.mem_iff.1 hp)).symm, by rw [gins_len]; omega⟩)
            · skip
              have hlt9 : ps.length < 4096 := by have := of_decide_eq_false h3; omega
              have hadd := tput_ok hrt hno (by omega)
              refine .skip ?_
              refine seqQ_n ?_
              refine .seq ?_
              refine .region ?_
              refine TriOps.q (.fieldAddr rfl) ?_
              refine TriOps.store1 rfl rfl ?_
              refine .nil ?_
              refine seqQ_n ?_
              refine .seq ?_
              refine .region ?_
              refine TriOps.q .assign ?_
              refine .nil ?_
              refine seqQ_n ?_
              refine .seq ?_
              refine .region ?_
              refine TriOps.q .assign ?_
              refine .nil ?_
              refine seqQ_n ?_
              refine .seq ?_
              refine .seq ?_
              refine .region ?_
              refine TriOps.q .assign ?_
              refine .nil ?_
              refine seqQ_n ?_
              refine .block ?_
              refine .loop (X := Nat × Value × Seg) (fun y => y.1 ≤ ps.length ∧ OS 26 9 encT y.2.1 (gpre (ltc tcmp) (w, t.fresh) (ps.take y.1)) y.2.2) (fun y => [(0, .pointer (some ⟨xp, 0, none⟩)), (3, .pointer (some ⟨b3, 0, none⟩)), (5, y.2.1), (6, .bool ((ps.take y.1).any (ltc tcmp (w, t.fresh)))), (7, .int .i64 (y.1 : Nat))]) (fun y => [[(b3, .cells (encT (w, t.fresh)).toArray 26 (0, 0))], [(xp, .cells [vt, .int .i64 last].toArray 49 (0, 0))], Tt, y.2.2]) (fun y => ps.length - y.1) (0, .slice none 0 0, []) ⟨Nat.zero_le _, OS.nil⟩ ((((((EnvLe.nil _).cons rfl).cons rfl).cons rfl).cons rfl).cons rfl) (HLe.refl _) ?_
              rintro ⟨k, vo, To⟩ ⟨hk, hO4⟩
              simp only at hk hO4 ⊢
              have i4 := hO4.oneCell
              have hle4 := gpre_len (lt := ltc tcmp) (p := ((w, t.fresh) : TP)) (X := ps.take k)
              rw [List.length_take, Nat.min_eq_left hk] at hle4
              refine .seq ?_
              refine .seq ?_
              refine .region ?_
              refine TriOps.q .move ?_
              refine TriOps.q .move ?_
              refine TriOps.q (.nilCheck rfl) ?_
              refine TriOps.q (.fieldAddr rfl) ?_
              refine TriOps.q (.load1 rfl) ?_
              refine TriOps.q (.lenO hO) ?_
              refine TriOps.q .lss ?_
              refine .nil ?_
              refine seqQ_n ?_
              refine .cond rfl (fun h4 => ?_) (fun h4 => ?_)
              · skip
                have hk2 : k < ps.length := by have := of_decide_eq_true h4; omega
                obtain ⟨⟨wy, ty⟩, hx⟩ : ∃ y, ps[k]? = some y := ⟨_, List.getElem?_eq_getElem hk2⟩
                have cx := hc _ (List.mem_of_getElem? hx)
                have ix : Ones (encT (wy, ty)) := ⟨cx.ones⟩
                have e4 := gmid_next (lt := ltc tcmp) (p := ((w, t.fresh) : TP)) hx
                refine .skip ?_
                refine seqQ_n ?_
                refine .seq ?_
                refine .block ?_
                refine .seq ?_
                refine Tri.cut (X := Value × Seg) (fun z => OS 26 9 encT z.1 (gmid (ltc tcmp) (w, t.fresh) (ps.take k) (wy, ty)) z.2) (fun z => [(0, .pointer (some ⟨xp, 0, none⟩)), (3, .pointer (some ⟨b3, 0, none⟩)), (5, z.1), (6, .bool ((ps.take (k + 1)).any (ltc tcmp (w, t.fresh)))), (7, .int .i64 (k : Nat))]) (fun z => [[(b3, .cells (encT (w, t.fresh)).toArray 26 (0, 0))], [(xp, .cells [vt, .int .i64 last].toArray 49 (0, 0))], Tt, z.2]) ?_ ?_
                · refine .seq ?_
                  refine .region_still mixed (by kernel_rfl) ?_
                  refine TriOps.q .move ?_
                  refine TriOps.q .not ?_
                  refine TriOps.q .move ?_
                  refine TriOps.split (t := 53) rfl (fun g13_2 => ?_) (fun g13_2 => ?_)
                  · skip
                    refine TriOps.gT g13_2 ?_
                    refine TriOps.q (.fieldAddr rfl) ?_
                    refine TriOps.gT g13_2 ?_
                    refine TriOps.q (.load1 rfl) ?_
                    refine TriOps.gT g13_2 ?_
                    refine TriOps.q .move ?_
                    refine TriOps.gT g13_2 ?_
                    refine TriOps.q (.nilCheck rfl) ?_
                    refine TriOps.gT g13_2 ?_
                    refine TriOps.q (.fieldAddr rfl) ?_
                    refine TriOps.gT g13_2 ?_
                    refine TriOps.q (.load1 rfl) ?_
                    refine TriOps.gT g13_2 ?_
                    refine TriOps.q .move ?_
                    refine TriOps.gT g13_2 ?_
                    refine TriOps.indexO k hO hx (fun p61 => ?_)
                    refine TriOps.gT g13_2 ?_
                    refine TriOps.q (.fieldAddr rfl) ?_
                    refine TriOps.gT g13_2 ?_
                    refine TriOps.q (.load1 rfl) ?_
                    refine TriOps.gT g13_2 ?_
                    refine TriOps.q .ltS ?_
                    refine TriOps.q (.pickTh g13_2) ?_
                    refine .nil ?_
                    refine seqQ_n ?_
                    refine .cond rfl (fun h5 => ?_) (fun h5 => ?_)
                    · skip
                      first | have hput := gmid_put hx g13_2 ((ltc_tcmp (w, t.fresh) (wy, ty)).trans h5) | skip
                      refine .seq ?_
                      refine .region ?_
                      refine TriOps.q .move ?_
                      refine TriOps.q (.loadA rfl) ?_
                      refine TriOps.buildSlice1A (fun b68 => ?_)
                      refine TriOps.append hO4 (RS.lits (xs := [((w, t.fresh) : TP)]) rfl (by simp [encT]) (by have := ir2.h; simpa using this)) (by simp; omega) (fun v5 T5 hO5 => ?_)
                      refine TriOps.q .assign ?_
                      refine .nil ?_
                      refine seqQ_n ?_
                      refine .region ?_
                      refine TriOps.q .assign ?_
                      refine .nil ?_
                      first
                        | (obtain ⟨hm, hA⟩ := hput
                           exact joinQ_n (v5, T5) (by simp only; rw [hm]; exact hO5) (by simp only; rw [hA]; exact (((((EnvLe.nil _).cons rfl).cons rfl).cons rfl).cons rfl).cons rfl) (HLe.pick [1, 1, 1, 1] _))
                        | (obtain ⟨hm, hA⟩ := hnot
                           exact joinQ_n (vo, To) (by simp only; rw [hm]; simpa using hO4) (by simp only; rw [hA]; exact (((((EnvLe.nil _).cons rfl).cons rfl).cons rfl).cons rfl).cons rfl) (HLe.refl _))
                    · skip
                      first | have hnot := gmid_not (p := ((w, t.fresh) : TP)) hx (.inr ((ltc_tcmp (w, t.fresh) (wy, ty)).trans h5)) | skip
                      refine .skip ?_
                      first
                        | (obtain ⟨hm, hA⟩ := hput
                           exact joinQ_n (v5, T5) (by simp only; rw [hm]; exact hO5) (by simp only; rw [hA]; exact (((((EnvLe.nil _).cons rfl).cons rfl).cons rfl).cons rfl).cons rfl) (HLe.pick [1, 1, 1, 1] _))
                        | (obtain ⟨hm, hA⟩ := hnot
                           exact joinQ_n (vo, To) (by simp only; rw [hm]; simpa using hO4) (by simp only; rw [hA]; exact (((((EnvLe.nil _).cons rfl).cons rfl).cons rfl).cons rfl).cons rfl) (HLe.refl _))
                  · skip
                    have hnot := gmid_not (p := ((w, t.fresh) : TP)) hx (.inl g13_2)
                    refine TriOps.gF g13_2 ?_
                    refine TriOps.gF g13_2 ?_
                    refine TriOps.gF g13_2 ?_
                    refine TriOps.gF g13_2 ?_
                    refine TriOps.gF g13_2 ?_
                    refine TriOps.gF g13_2 ?_
                    refine TriOps.gF g13_2 ?_
                    refine TriOps.gF g13_2 ?_
                    refine TriOps.gF g13_2 ?_
                    refine TriOps.gF g13_2 ?_
                    refine TriOps.gF g13_2 ?_
                    refine TriOps.q (.pickFh g13_2) ?_
                    refine .nil ?_
                    refine seqQ_n ?_
                    refine .condF ?_
                    first | have hnot := gmid_not (p := ((w, t.fresh) : TP)) hx (.inr ((ltc_tcmp (w, t.fresh) (wy, ty)).trans h5)) | skip
                    refine .skip ?_
                    first
                      | (obtain ⟨hm, hA⟩ := hput
                         exact joinQ_n (v5, T5) (by simp only; rw [hm]; exact hO5) (by simp only; rw [hA]; exact (((((EnvLe.nil _).cons rfl).cons rfl).cons rfl).cons rfl).cons rfl) (HLe.pick [1, 1, 1, 1] _))
                      | (obtain ⟨hm, hA⟩ := hnot
                         exact joinQ_n (vo, To) (by simp only; rw [hm]; simpa using hO4) (by simp only; rw [hA]; exact (((((EnvLe.nil _).cons rfl).cons rfl).cons rfl).cons rfl).cons rfl) (HLe.refl _))
                · intro y hy
                  obtain ⟨vm, Tm⟩ := y
                  have hO6 : OS 26 9 encT vm (gmid (ltc tcmp) (w, t.fresh) (ps.take k) (wy, ty)) Tm := hy
                  have i6 := hO6.oneCell
                  simp only
                  refine seqQ_n ?_
                  refine .region ?_
                  refine TriOps.q .move ?_
                  refine TriOps.q .move ?_
                  refine TriOps.q (.nilCheck rfl) ?_
                  refine TriOps.q (.fieldAddr rfl) ?_
                  refine TriOps.q (.load1 rfl) ?_
                  refine TriOps.q .move ?_
                  refine TriOps.indexO k hO hx (fun p76 => ?_)
                  refine TriOps.q (.loadA rfl) ?_
                  refine TriOps.buildSlice1A (fun b78 => ?_)
                  refine TriOps.append hO6 (RS.lits (xs := [((wy, ty) : TP)]) rfl (by simp [encT]) (by have := cx.ones; simpa using this)) (by have := gpre_len (lt := ltc tcmp) (p := ((w, t.fresh) : TP)) (X := ps.take (k + 1)); rw [← e4] at this; simp at this ⊢; omega) (fun v7 T7 hO7 => ?_)
                  rw [e4] at hO7
                  refine TriOps.q .assign ?_
                  refine .nil ?_
                  refine blkQ_n (seqQ_n ?_)
                  refine .region ?_
                  refine TriOps.q .move ?_
                  refine TriOps.q (.i64 ((k + 1 : Nat) : Int) .add ⟨by omega, by omega, by omega⟩) ?_
                  refine TriOps.q .assign ?_
                  refine .nil ?_
                  exact loopQ_i (k + 1, v7, T7) ⟨hk2, hO7⟩ (by simp only; omega) ((((((EnvLe.nil _).cons rfl).cons rfl).cons rfl).cons rfl).cons rfl) (HLe.pick [1, 1, 1, 1] _)
              · skip
                have hk3 : k = ps.length := by have := of_decide_eq_false h4; omega
                subst hk3
                rw [List.take_length] at hO4 hle4 ⊢
                refine .exit (seqQ_x (loopQ_x (blkQ_x ?_)))
                refine seqQ_n ?_
                refine .seq ?_
                refine .seq ?_
                refine .region ?_
                refine TriOps.q .move ?_
                refine TriOps.q .not ?_
                refine .nil ?_
                refine seqQ_n ?_
                refine .cond rfl (fun h6 => ?_) (fun h6 => ?_)
                · skip
                  refine .region ?_
                  refine TriOps.q .move ?_
                  refine TriOps.q (.loadA rfl) ?_
                  refine TriOps.buildSlice1A (fun b84 => ?_)
                  refine TriOps.append hO4 (RS.lits (xs := [((w, t.fresh) : TP)]) rfl (by simp [encT]) (by have := ir2.h; simpa using this)) (by simp; omega) (fun v5 T5 hO5 => ?_)
                  have i5 := hO5.oneCell
                  refine TriOps.q .assign ?_
                  refine .nil ?_
                  refine seqQ_n ?_
                  refine .seq ?_
                  refine .region ?_
                  refine TriOps.q .move ?_
                  refine TriOps.q .move ?_
                  refine TriOps.q (.nilCheck rfl) ?_
                  refine TriOps.q (.fieldAddr rfl) ?_
                  refine TriOps.store1 rfl rfl ?_
                  refine .nil ?_
                  refine seqQ_n ?_
                  refine .seq ?_
                  refine .region ?_
                  refine TriOps.q .assign ?_
                  refine .nil ?_
                  refine seqQ_n ?_
                  refine .ret (retQ_r _ (.one (.tmp rfl)) (by first | (refine (HLe.pick [1, 1] _).trans (HLe.ofPerm (H' := [(xp, .cells [vt, .int .i64 last].toArray 49 (0, 0)) :: Tt]) ?_); simp [take, dropAt] <;> fail) | (refine (HLe.pick [1, 2] _).trans (HLe.ofPerm (H' := [(xp, .cells [vo, .int .i64 last].toArray 49 (0, 0)) :: To]) ?_); simp [take, dropAt, setL] <;> fail) | (refine (HLe.pick [2, 2] _).trans (HLe.ofPerm (H' := [(xp, .cells [vo, .int .i64 last].toArray 49 (0, 0)) :: To]) ?_); simp [take, dropAt, setL] <;> fail) | (refine (HLe.pick [1, 2] _).trans (HLe.ofPerm (H' := [(xp, .cells [v5, .int .i64 last].toArray 49 (0, 0)) :: T5]) ?_); simp [take, dropAt, setL] <;> fail) | (refine (HLe.pick [2, 3] _).trans (HLe.ofPerm (H' := [(xp, .cells [v5, .int .i64 last].toArray 49 (0, 0)) :: T5]) ?_); simp [take, dropAt, setL] <;> fail)) ?_)
                  skip
                  first
                    | (rw [tput_bad hrt]
                       exact ⟨_, rfl, rfl, ps, h0, hB, fun p hp => .inl hp, by omega⟩)
                    | (obtain ⟨i, w9, t9, _, _, _, hg⟩ := hz.pos (by have := of_decide_eq_true h2; omega)
                       rw [hB.get] at hg
                       rw [tput_there hrt hg]
                       exact ⟨_, rfl, rfl, ps, h0, hB, fun p hp => .inl hp, by omega⟩)
                    | (have h9 := of_decide_eq_true h3
                       exfalso; omega)
                    | (rw [hadd]
                       have han : ps.any (ltc tcmp (w, t.fresh)) = false := by rw [Bool.not_eq_true'] at h6; exact h6
                       have e0 : gpre (ltc tcmp) (w, t.fresh) ps = ps := by unfold gpre; rw [han]; rfl
                       rw [e0, ← gins_end han] at hO5
                       exact ⟨_, rfl, rfl, tins (w, t.fresh) ps, ⟨v5, T5, rfl, hO5, by rw [gins_len]; omega⟩, BothT.add (t := t.fresh) hB hno, fun p hp => (List.mem_cons.1 (gins_perm.mem_iff.1 hp)).symm, by rw [gins_len]; omega⟩)
                    | (rw [hadd]
                       have han : ps.any (ltc tcmp (w, t.fresh)) = true := by rw [Bool.not_eq_false'] at h6; exact h6
                       have e0 : gpre (ltc tcmp) (w, t.fresh) ps = gins (ltc tcmp) (w, t.fresh) ps := by unfold gpre; rw [han]; rfl
                       rw [e0] at hO4
                       exact ⟨_, rfl, rfl, tins (w, t.fresh) ps, ⟨vo, To, rfl, hO4, by rw [gins_len]; omega⟩, BothT.add (t := t.fresh) hB hno, fun p hp => (List.mem_cons.1 (gins_perm.mem_iff.1 hp)).symm, by rw [gins_len]; omega⟩)
                · skip
                  refine .skip ?_
                  refine seqQ_n ?_
                  refine .seq ?_
                  refine .region ?_
                  refine TriOps.q .move ?_
                  refine TriOps.q .move ?_
                  refine TriOps.q (.nilCheck rfl) ?_
                  refine TriOps.q (.fieldAddr rfl) ?_
                  refine TriOps.store1 rfl rfl ?_
                  refine .nil ?_
                  refine seqQ_n ?_
                  refine .seq ?_
                  refine .region ?_
                  refine TriOps.q .assign ?_
                  refine .nil ?_
                  refine seqQ_n ?_
                  refine .ret (retQ_r _ (.one (.tmp rfl)) (by first | (refine (HLe.pick [1, 1] _).trans (HLe.ofPerm (H' := [(xp, .cells [vt, .int .i64 last].toArray 49 (0, 0)) :: Tt]) ?_); simp [take, dropAt] <;> fail) | (refine (HLe.pick [1, 2] _).trans (HLe.ofPerm (H' := [(xp, .cells [vo, .int .i64 last].toArray 49 (0, 0)) :: To]) ?_); simp [take, dropAt, setL] <;> fail) | (refine (HLe.pick [2, 2] _).trans (HLe.ofPerm (H' := [(xp, .cells [vo, .int .i64 last].toArray 49 (0, 0)) :: To]) ?_); simp [take, dropAt, setL] <;> fail) | (refine (HLe.pick [1, 2] _).trans (HLe.ofPerm (H' := [(xp, .cells [v5, .int .i64 last].toArray 49 (0, 0)) :: T5]) ?_); simp [take, dropAt, setL] <;> fail) | (refine (HLe.pick [2, 3] _).trans (HLe.ofPerm (H' := [(xp, .cells [v5, .int .i64 last].toArray 49 (0, 0)) :: T5]) ?_); simp [take, dropAt, setL] <;> fail)) ?_)
                  skip
                  first
                    | (rw [tput_bad hrt]
                       exact ⟨_, rfl, rfl, ps, h0, hB, fun p hp => .inl hp, by omega⟩)
                    | (obtain ⟨i, w9, t9, _, _, _, hg⟩ := hz.pos (by have := of_decide_eq_true h2; omega)
                       rw [hB.get] at hg
                       rw [tput_there hrt hg]
                       exact ⟨_, rfl, rfl, ps, h0, hB, fun p hp => .inl hp, by omega⟩)
                    | (have h9 := of_decide_eq_true h3
                       exfalso; omega)
                    | (rw [hadd]
                       have han : ps.any (ltc tcmp (w, t.fresh)) = false := by rw [Bool.not_eq_true'] at h6; exact h6
                       have e0 : gpre (ltc tcmp) (w, t.fresh) ps = ps := by unfold gpre; rw [han]; rfl
                       rw [e0, ← gins_end han] at hO5
                       exact ⟨_, rfl, rfl, tins (w, t.fresh) ps, ⟨v5, T5, rfl, hO5, by rw [gins_len]; omega⟩, BothT.add (t := t.fresh) hB hno, fun p hp => (List.mem_cons.1 (gins_perm.mem_iff.1 hp)).symm, by rw [gins_len]; omega⟩)
                    | (rw [hadd]
                       have han : ps.any (ltc tcmp (w, t.fresh)) = true := by rw [Bool.not_eq_false'] at h6; exact h6
                       have e0 : gpre (ltc tcmp) (w, t.fresh) ps = gins (ltc tcmp) (w, t.fresh) ps := by unfold gpre; rw [han]; rfl
                       rw [e0] at hO4
                       exact ⟨_, rfl, rfl, tins (w, t.fresh) ps, ⟨vo, To, rfl, hO4, by rw [gins_len]; omega⟩, BothT.add (t := t.fresh) hB hno, fun p hp => (List.mem_cons.1 (gins_perm.mem_iff.1 hp)).symm, by rw [gins_len]; omega⟩)
      · skip
        refine TriOps.gT g1_13 ?_
        refine TriOps.q (.fieldAddr rfl) ?_
        refine TriOps.gT g1_13 ?_
        refine TriOps.q (.load1 rfl) ?_
        refine TriOps.gT g1_13 ?_
        refine TriOps.q .move ?_
        refine TriOps.gT g1_13 ?_
        refine TriOps.q (.nilCheck rfl) ?_
        refine TriOps.gT g1_13 ?_
        refine TriOps.q (.fieldAddr rfl) ?_
        refine TriOps.gT g1_13 ?_
        refine TriOps.q (.load1 rfl) ?_
        refine TriOps.gT g1_13 ?_
        refine TriOps.q .gtr ?_
        refine TriOps.q (.pickFh g1_13) ?_
        refine .nil ?_
        refine seqQ_n ?_
        refine Tri.cut (X := Unit) (fun _ => rightB t last = true) (fun _ => [(0, .pointer (some ⟨xp, 0, none⟩)), (3, .pointer (some ⟨b3, 0, none⟩))]) (fun _ => [[(b3, .cells (encT (w, t)).toArray 26 (0, 0))], [(xp, .cells [vt, .int .i64 last].toArray 49 (0, 0))], Tt, []]) ?_ ?_
        ·
          refine .cond rfl (fun h1 => ?_) (fun h1 => ?_)
          · skip
            have hrt : rightB t last = false := by
              unfold rightB
              first
                | (have a1 : (t.kind != 1) = true := g1_3
                   have a2 : (t.kind != 2) = true := g1_8
                   simp at a1 a2
                   simp [a1, a2]; done)
                | (have a1 := of_decide_eq_true g1_13
                   simp only at a1
                   rw [decide_eq_false (p := 1 ≤ t.family) (by omega), Bool.and_false, Bool.false_and]; done)
                | (have a1 := of_decide_eq_true h1
                   simp only at a1
                   rw [decide_eq_false (p := t.family ≤ last) (by omega), Bool.and_false])
            refine .seq ?_
            refine .region ?_
            refine TriOps.q .assign ?_
            refine .nil ?_
            refine seqQ_n ?_
            refine .ret (joinQ_r (seqQ_r (retQ_r _ (.one (.tmp rfl)) (by first | (refine (HLe.pick [1, 1] _).trans (HLe.ofPerm (H' := [(xp, .cells [vt, .int .i64 last].toArray 49 (0, 0)) :: Tt]) ?_); simp [take, dropAt] <;> fail) | (refine (HLe.pick [1, 2] _).trans (HLe.ofPerm (H' := [(xp, .cells [vo, .int .i64 last].toArray 49 (0, 0)) :: To]) ?_); simp [take, dropAt, setL] <;> fail) | (refine (HLe.pick [2, 2] _).trans (HLe.ofPerm (H' := [(xp, .cells [vo, .int .i64 last].toArray 49 (0, 0)) :: To]) ?_); simp [take, dropAt, setL] <;> fail) | (refine (HLe.pick [1, 2] _).trans (HLe.ofPerm (H' := [(xp, .cells [v5, .int .i64 last].toArray 49 (0, 0)) :: T5]) ?_); simp [take, dropAt, setL] <;> fail) | (refine (HLe.pick [2, 3] _).trans (HLe.ofPerm (H' := [(xp, .cells [v5, .int .i64 last].toArray 49 (0, 0)) :: T5]) ?_); simp [take, dropAt, setL] <;> fail)) ?_)))
            skip
            first
              | (rw [tput_bad hrt]
                 exact ⟨_, rfl, rfl, ps, h0, hB, fun p hp => .inl hp, by omega⟩)
              | (obtain ⟨i, w9, t9, _, _, _, hg⟩ := hz.pos (by have := of_decide_eq_true h2; omega)
                 rw [hB.get] at hg
                 rw [tput_there hrt hg]
                 exact ⟨_, rfl, rfl, ps, h0, hB, fun p hp => .inl hp, by omega⟩)
              | (have h9 := of_decide_eq_true h3
                 exfalso; omega)
              | (rw [hadd]
                 have han : ps.any (ltc tcmp (w, t.fresh)) = false := by rw [Bool.not_eq_true'] at h6; exact h6
                 have e0 : gpre (ltc tcmp) (w, t.fresh) ps = ps := by unfold gpre; rw [han]; rfl
                 rw [e0, ← gins_end han] at hO5
                 exact ⟨_, rfl, rfl, tins (w, t.fresh) ps, ⟨v5, T5, rfl, hO5, by rw [gins_len]; omega⟩, BothT.add (t := t.fresh) hB hno, fun p hp => (List.mem_cons.1 (gins_perm.mem_iff.1 hp)).symm, by rw [gins_len]; omega⟩)
              | (rw [hadd]
                 have han : ps.any (ltc tcmp (w, t.fresh)) = true := by rw [Bool.not_eq_false'] at h6; exact h6
                 have e0 : gpre (ltc tcmp) (w, t.fresh) ps = gins (ltc tcmp) (w, t.fresh) ps := by unfold gpre; rw [han]; rfl
                 rw [e0] at hO4
                 exact ⟨_, rfl, rfl, tins (w, t.fresh) ps, ⟨vo, To, rfl, hO4, by rw [gins_len]; omega⟩, BothT.add (t := t.fresh) hB hno, fun p hp => (List.mem_cons.1 (gins_perm.mem_iff.1 hp)).symm, by rw [gins_len]; omega⟩)
          · skip
            have hrt : rightB t last = true := by
              have a1 : t.kind = 1 ∨ t.kind = 2 := by
                first
                  | (have a1 : (t.kind != 1) = false := g1_3
                     simp at a1; exact .inl a1)
                  | (have a1 : (t.kind != 2) = false := g1_8
                     simp at a1; exact .inr a1)
              have a2 := of_decide_eq_false g1_13
              have a3 := of_decide_eq_false h1
              simp only at a2 a3
              unfold rightB
              rw [decide_eq_true (p := 1 ≤ t.family) (by omega), decide_eq_true (p := t.family ≤ last) (by omega)]
              rcases a1 with a1 | a1 <;> simp [a1]
            refine .skip ?_
            exact joinQ_n () hrt (((EnvLe.nil _).cons rfl).cons rfl) (HLe.refl _)
        · intro x hx
          have hrt : rightB t last = true := hx
          refine seqQ_n ?_
          refine .seq ?_
          refine .seq ?_
          refine .region ?_
          refine TriOps.q .move ?_
          refine TriOps.q (.fieldAddr rfl) ?_
          refine TriOps.q (.load1 rfl) ?_
          refine TriOps.callR (rtfind_spec xp vt last ps t.text _ hO.rx (fun p hp => (hc p hp).mono fun b o hb => .inl hb)) (fun u hu => ?_)
          obtain ⟨z, rfl, hz⟩ := hu
          refine TriOps.q .geq ?_
          refine .nil ?_
          refine seqQ_n ?_
          refine .cond rfl (fun h2 => ?_) (fun h2 => ?_)
          · skip
            refine .seq ?_
            refine .region ?_
            refine TriOps.q .assign ?_
            refine .nil ?_
            refine seqQ_n ?_
            refine .ret (seqQ_r (retQ_r _ (.one (.tmp rfl)) (by first | (refine (HLe.pick [1, 1] _).trans (HLe.ofPerm (H' := [(xp, .cells [vt, .int .i64 last].toArray 49 (0, 0)) :: Tt]) ?_); simp [take, dropAt] <;> fail) | (refine (HLe.pick [1, 2] _).trans (HLe.ofPerm (H' := [(xp, .cells [vo, .int .i64 last].toArray 49 (0, 0)) :: To]) ?_); simp [take, dropAt, setL] <;> fail) | (refine (HLe.pick [2, 2] _).trans (HLe.ofPerm (H' := [(xp, .cells [vo, .int .i64 last].toArray 49 (0, 0)) :: To]) ?_); simp [take, dropAt, setL] <;> fail) | (refine (HLe.pick [1, 2] _).trans (HLe.ofPerm (H' := [(xp, .cells [v5, .int .i64 last].toArray 49 (0, 0)) :: T5]) ?_); simp [take, dropAt, setL] <;> fail) | (refine (HLe.pick [2, 3] _).trans (HLe.ofPerm (H' := [(xp, .cells [v5, .int .i64 last].toArray 49 (0, 0)) :: T5]) ?_); simp [take, dropAt, setL] <;> fail)) ?_))
            skip
            first
              | (rw [tput_bad hrt]
                 exact ⟨_, rfl, rfl, ps, h0, hB, fun p hp => .inl hp, by omega⟩)
              | (obtain ⟨i, w9, t9, _, _, _, hg⟩ := hz.pos (by have := of_decide_eq_true h2; omega)
                 rw [hB.get] at hg
                 rw [tput_there hrt hg]
                 exact ⟨_, rfl, rfl, ps, h0, hB, fun p hp => .inl hp, by omega⟩)
              | (have h9 := of_decide_eq_true h3
                 exfalso; omega)
              | (rw [hadd]
                 have han : ps.any (ltc tcmp (w, t.fresh)) = false := by rw [Bool.not_eq_true'] at h6; exact h6
                 have e0 : gpre (ltc tcmp) (w, t.fresh) ps = ps := by unfold gpre; rw [han]; rfl
                 rw [e0, ← gins_end han] at hO5
                 exact ⟨_, rfl, rfl, tins (w, t.fresh) ps, ⟨v5, T5, rfl, hO5, by rw [gins_len]; omega⟩, BothT.add (t := t.fresh) hB hno, fun p hp => (List.mem_cons.1 (gins_perm.mem_iff.1 hp)).symm, by rw [gins_len]; omega⟩)
              | (rw [hadd]
                 have han : ps.any (ltc tcmp (w, t.fresh)) = true := by rw [Bool.not_eq_false'] at h6; exact h6
                 have e0 : gpre (ltc tcmp) (w, t.fresh) ps = gins (ltc tcmp) (w, t.fresh) ps := by unfold gpre; rw [han]; rfl
                 rw [e0] at hO4
                 exact ⟨_, rfl, rfl, tins (w, t.fresh) ps, ⟨vo, To, rfl, hO4, by rw [gins_len]; omega⟩, BothT.add (t := t.fresh) hB hno, fun p hp => (List.mem_cons.1 (gins_perm.mem_iff.1 hp)).symm, by rw [gins_len]; omega⟩)
          · skip
            have hno : mget t.text A = none := by rw [← hB.get]; exact hz.neg (by have := of_decide_eq_false h2; omega)
            refine .skip ?_
            refine seqQ_n ?_
            refine .seq ?_
            refine .seq ?_
            refine .region ?_
            refine TriOps.q .move ?_
            refine TriOps.q (.nilCheck rfl) ?_
            refine TriOps.q (.fieldAddr rfl) ?_
            refine TriOps.q (.load1 rfl) ?_
            refine TriOps.q (.lenO hO) ?_
            refine TriOps.q .geq ?_
            refine .nil ?_
            refine seqQ_n ?_
            refine .cond rfl (fun h3 => ?_) (fun h3 => ?_)
            · skip
              refine .seq ?_
              refine .region ?_
              refine TriOps.q .assign ?_
              refine .nil ?_
              refine seqQ_n ?_
              refine .ret (seqQ_r (retQ_r _ (.one (.tmp rfl)) (by first | (refine (HLe.pick [1, 1] _).trans (HLe.ofPerm (H' := [(xp, .cells [vt, .int .i64 last].toArray 49 (0, 0)) :: Tt]) ?_); simp [take, dropAt] <;> fail) | (refine (HLe.pick [1, 2] _).trans (HLe.ofPerm (H' := [(xp, .cells [vo, .int .i64 last].toArray 49 (0, 0)) :: To]) ?_); simp [take, dropAt, setL] <;> fail) | (refine (HLe.pick [2, 2] _).trans (HLe.ofPerm (H' := [(xp, .cells [vo, .int .i64 last].toArray 49 (0, 0)) :: To]) ?_); simp [take, dropAt, setL] <;> fail) | (refine (HLe.pick [1, 2] _).trans (HLe.ofPerm (H' := [(xp, .cells [v5, .int .i64 last].toArray 49 (0, 0)) :: T5]) ?_); simp [take, dropAt, setL] <;> fail) | (refine (HLe.pick [2, 3] _).trans (HLe.ofPerm (H' := [(xp, .cells [v5, .int .i64 last].toArray 49 (0, 0)) :: T5]) ?_); simp [take, dropAt, setL] <;> fail)) ?_))
              skip
              first
                | (rw [tput_bad hrt]
                   exact ⟨_, rfl, rfl, ps, h0, hB, fun p hp => .inl hp, by omega⟩)
                | (obtain ⟨i, w9, t9, _, _, _, hg⟩ := hz.pos (by have := of_decide_eq_true h2; omega)
                   rw [hB.get] at hg
                   rw [tput_there hrt hg]
                   exact ⟨_, rfl, rfl, ps, h0, hB, fun p hp => .inl hp, by omega⟩)
                | (have h9 := of_decide_eq_true h3
                   exfalso; omega)
                | (rw [hadd]
                   have han : ps.any (ltc tcmp (w, t.fresh)) = false := by rw [Bool.not_eq_true'] at h6; exact h6
                   have e0 : gpre (ltc tcmp) (w, t.fresh) ps = ps := by unfold gpre; rw [han]; rfl
                   rw [e0, ← gins_end han] at hO5
                   exact ⟨_, rfl, rfl, tins (w, t.fresh) ps, ⟨v5, T5, rfl, hO5, by rw [gins_len]; omega⟩, BothT.add (t := t.fresh) hB hno, fun p hp => (List.mem_cons.1 (gins_perm.mem_iff.1 hp)).symm, by rw [gins_len]; omega⟩)
                | (rw [hadd]
                   have han : ps.any (ltc tcmp (w, t.fresh)) = true := by rw [Bool.not_eq_false'] at h6; exact h6
                   have e0 : gpre (ltc tcmp) (w, t.fresh) ps = gins (ltc tcmp) (w, t.fresh) ps := by unfold gpre; rw [han]; rfl
                   rw [e0] at hO4
                   exact ⟨_, rfl, rfl, tins (w, t.fresh) ps, ⟨vo, To, rfl, hO4, by rw [gins_len]; omega⟩, BothT.add (t := t.fresh) hB hno, fun p hp => (List.mem_cons.1 (gins_perm.mem_iff.1 hp)).symm, by rw [gins_len]; omega⟩)
            · skip
              have hlt9 : ps.length < 4096 := by have := of_decide_eq_false h3; omega
              have hadd := tput_ok hrt hno (by omega)
              refine .skip ?_
              refine seqQ_n ?_
              refine .seq ?_
              refine .region ?_
              refine TriOps.q (.fieldAddr rfl) ?_
              refine TriOps.store1 rfl rfl ?_
              refine .nil ?_
              refine seqQ_n ?_
              refine .seq ?_
              refine .region ?_
              refine TriOps.q .assign ?_
              refine .nil ?_
              refine seqQ_n ?_
              refine .seq ?_
              refine .region ?_
              refine TriOps.q .assign ?_
              refine .nil ?_
              refine seqQ_n ?_
              refine .seq ?_
              refine .seq ?_
              refine .region ?_
              refine TriOps.q .assign ?_
              refine .nil ?_
              refine seqQ_n ?_
              refine .block ?_
              refine .loop (X := Nat × Value × Seg) (fun y => y.1 ≤ ps.length ∧ OS 26 9 encT y.2.1 (gpre (ltc tcmp) (w, t.fresh) (ps.take y.1)) y.2.2) (fun y => [(0, .pointer (some ⟨xp, 0, none⟩)), (3, .pointer (some ⟨b3, 0, none⟩)), (5, y.2.1), (6, .bool ((ps.take y.1).any (ltc tcmp (w, t.fresh)))), (7, .int .i64 (y.1 : Nat))]) (fun y => [[(b3, .cells (encT (w, t.fresh)).toArray 26 (0, 0))], [(xp, .cells [vt, .int .i64 last].toArray 49 (0, 0))], Tt, y.2.2]) (fun y => ps.length - y.1) (0, .slice none 0 0, []) ⟨Nat.zero_le _, OS.nil⟩ ((((((EnvLe.nil _).cons rfl).cons rfl).cons rfl).cons rfl).cons rfl) (HLe.refl _) ?_
              rintro ⟨k, vo, To⟩ ⟨hk, hO4⟩
              simp only at hk hO4 ⊢
              have i4 := hO4.oneCell
              have hle4 := gpre_len (lt := ltc tcmp) (p := ((w, t.fresh) : TP)) (X := ps.take k)
              rw [List.length_take, Nat.min_eq_left hk] at hle4
              refine .seq ?_
              refine .seq ?_
              refine .region ?_
              refine TriOps.q .move ?_
              refine TriOps.q .move ?_
              refine TriOps.q (.nilCheck rfl) ?_
              refine TriOps.q (.fieldAddr rfl) ?_
              refine TriOps.q (.load1 rfl) ?_
              refine TriOps.q (.lenO hO) ?_
              refine TriOps.q .lss ?_
              refine .nil ?_
              refine seqQ_n ?_
              refine .cond rfl (fun h4 => ?_) (fun h4 => ?_)
              · skip
                have hk2 : k < ps.length := by have := of_decide_eq_true h4; omega
                obtain ⟨⟨wy, ty⟩, hx⟩ : ∃ y, ps[k]? = some y := ⟨_, List.getElem?_eq_getElem hk2⟩
                have cx := hc _ (List.mem_of_getElem? hx)
                have ix : Ones (encT (wy, ty)) := ⟨cx.ones⟩
                have e4 := gmid_next (lt := ltc tcmp) (p := ((w, t.fresh) : TP)) hx
                refine .skip ?_
                refine seqQ_n ?_
                refine .seq ?_
                refine .block ?_
                refine .seq ?_
                refine Tri.cut (X := Value × Seg) (fun z => OS 26 9 encT z.1 (gmid (ltc tcmp) (w, t.fresh) (ps.take k) (wy, ty)) z.2) (fun z => [(0, .pointer (some ⟨xp, 0, none⟩)), (3, .pointer (some ⟨b3, 0, none⟩)), (5, z.1), (6, .bool ((ps.take (k + 1)).any (ltc tcmp (w, t.fresh)))), (7, .int .i64 (k : Nat))]) (fun z => [[(b3, .cells (encT (w, t.fresh)).toArray 26 (0, 0))], [(xp, .cells [vt, .int .i64 last].toArray 49 (0, 0))], Tt, z.2]) ?_ ?_
                · refine .seq ?_
                  refine .region_still mixed (by kernel_rfl) ?_
                  refine TriOps.q .move ?_
                  refine TriOps.q .not ?_
                  refine TriOps.q .move ?_
                  refine TriOps.split (t := 53) rfl (fun g13_2 => ?_) (fun g13_2 => ?_)
                  · skip
                    refine TriOps.gT g13_2 ?_
                    refine TriOps.q (.fieldAddr rfl) ?_
                    refine TriOps.gT g13_2 ?_
                    refine TriOps.q (.load1 rfl) ?_
                    refine TriOps.gT g13_2 ?_
                    refine TriOps.q .move ?_
                    refine TriOps.gT g13_2 ?_
                    refine TriOps.q (.nilCheck rfl) ?_
                    refine TriOps.gT g13_2 ?_
                    refine TriOps.q (.fieldAddr rfl) ?_
                    refine TriOps.gT g13_2 ?_
                    refine TriOps.q (.load1 rfl) ?_
                    refine TriOps.gT g13_2 ?_
                    refine TriOps.q .move ?_
                    refine TriOps.gT g13_2 ?_
                    refine TriOps.indexO k hO hx (fun p61 => ?_)
                    refine TriOps.gT g13_2 ?_
                    refine TriOps.q (.fieldAddr rfl) ?_
                    refine TriOps.gT g13_2 ?_
                    refine TriOps.q (.load1 rfl) ?_
                    refine TriOps.gT g13_2 ?_
                    refine TriOps.q .ltS ?_
                    refine TriOps.q (.pickTh g13_2) ?_
                    refine .nil ?_
                    refine seqQ_n ?_
                    refine .cond rfl (fun h5 => ?_) (fun h5 => ?_)
                    · skip
                      first | have hput := gmid_put hx g13_2 ((ltc_tcmp (w, t.fresh) (wy, ty)).trans h5) | skip
                      refine .seq ?_
                      refine .region ?_
                      refine TriOps.q .move ?_
                      refine TriOps.q (.loadA rfl) ?_
                      refine TriOps.buildSlice1A (fun b68 => ?_)
                      refine TriOps.append hO4 (RS.lits (xs := [((w, t.fresh) : TP)]) rfl (by simp [encT]) (by have := ir2.h; simpa using this)) (by simp; omega) (fun v5 T5 hO5 => ?_)
                      refine TriOps.q .assign ?_
                      refine .nil ?_
                      refine seqQ_n ?_
                      refine .region ?_
                      refine TriOps.q .assign ?_
                      refine .nil ?_
                      first
                        | (obtain ⟨hm, hA⟩ := hput
                           exact joinQ_n (v5, T5) (by simp only; rw [hm]; exact hO5) (by simp only; rw [hA]; exact (((((EnvLe.nil _).cons rfl).cons rfl).cons rfl).cons rfl).cons rfl) (HLe.pick [1, 1, 1, 1] _))
                        | (obtain ⟨hm, hA⟩ := hnot
                           exact joinQ_n (vo, To) (by simp only; rw [hm]; simpa using hO4) (by simp only; rw [hA]; exact (((((EnvLe.nil _).cons rfl).cons rfl).cons rfl).cons rfl).cons rfl) (HLe.refl _))
                    · skip
                      first | have hnot := gmid_not (p := ((w, t.fresh) : TP)) hx (.inr ((ltc_tcmp (w, t.fresh) (wy, ty)).trans h5)) | skip
                      refine .skip ?_
                      first
                        | (obtain ⟨hm, hA⟩ := hput
                           exact joinQ_n (v5, T5) (by simp only; rw [hm]; exact hO5) (by simp only; rw [hA]; exact (((((EnvLe.nil _).cons rfl).cons rfl).cons rfl).cons rfl).cons rfl) (HLe.pick [1, 1, 1, 1] _))
                        | (obtain ⟨hm, hA⟩ := hnot
                           exact joinQ_n (vo, To) (by simp only; rw [hm]; simpa using hO4) (by simp only; rw [hA]; exact (((((EnvLe.nil _).cons rfl).cons rfl).cons rfl).cons rfl).cons rfl) (HLe.refl _))
                  · skip
                    have hnot := gmid_not (p := ((w, t.fresh) : TP)) hx (.inl g13_2)
                    refine TriOps.gF g13_2 ?_
                    refine TriOps.gF g13_2 ?_
                    refine TriOps.gF g13_2 ?_
                    refine TriOps.gF g13_2 ?_
                    refine TriOps.gF g13_2 ?_
                    refine TriOps.gF g13_2 ?_
                    refine TriOps.gF g13_2 ?_
                    refine TriOps.gF g13_2 ?_
                    refine TriOps.gF g13_2 ?_
                    refine TriOps.gF g13_2 ?_
                    refine TriOps.gF g13_2 ?_
                    refine TriOps.q (.pickFh g13_2) ?_
                    refine .nil ?_
                    refine seqQ_n ?_
                    refine .condF ?_
                    first | have hnot := gmid_not (p := ((w, t.fresh) : TP)) hx (.inr ((ltc_tcmp (w, t.fresh) (wy, ty)).trans h5)) | skip
                    refine .skip ?_
                    first
                      | (obtain ⟨hm, hA⟩ := hput
                         exact joinQ_n (v5, T5) (by simp only; rw [hm]; exact hO5) (by simp only; rw [hA]; exact (((((EnvLe.nil _).cons rfl).cons rfl).cons rfl).cons rfl).cons rfl) (HLe.pick [1, 1, 1, 1] _))
                      | (obtain ⟨hm, hA⟩ := hnot
                         exact joinQ_n (vo, To) (by simp only; rw [hm]; simpa using hO4) (by simp only; rw [hA]; exact (((((EnvLe.nil _).cons rfl).cons rfl).cons rfl).cons rfl).cons rfl) (HLe.refl _))
                · intro y hy
                  obtain ⟨vm, Tm⟩ := y
                  have hO6 : OS 26 9 encT vm (gmid (ltc tcmp) (w, t.fresh) (ps.take k) (wy, ty)) Tm := hy
                  have i6 := hO6.oneCell
                  simp only
                  refine seqQ_n ?_
                  refine .region ?_
                  refine TriOps.q .move ?_
                  refine TriOps.q .move ?_
                  refine TriOps.q (.nilCheck rfl) ?_
                  refine TriOps.q (.fieldAddr rfl) ?_
                  refine TriOps.q (.load1 rfl) ?_
                  refine TriOps.q .move ?_
                  refine TriOps.indexO k hO hx (fun p76 => ?_)
                  refine TriOps.q (.loadA rfl) ?_
                  refine TriOps.buildSlice1A (fun b78 => ?_)
                  refine TriOps.append hO6 (RS.lits (xs := [((wy, ty) : TP)]) rfl (by simp [encT]) (by have := cx.ones; simpa using this)) (by have := gpre_len (lt := ltc tcmp) (p := ((w, t.fresh) : TP)) (X := ps.take (k + 1)); rw [← e4] at this; simp at this ⊢; omega) (fun v7 T7 hO7 => ?_)
                  rw [e4] at hO7
                  refine TriOps.q .assign ?_
                  refine .nil ?_
                  refine blkQ_n (seqQ_n ?_)
                  refine .region ?_
                  refine TriOps.q .move ?_
                  refine TriOps.q (.i64 ((k + 1 : Nat) : Int) .add ⟨by omega, by omega, by omega⟩) ?_
                  refine TriOps.q .assign ?_
                  refine .nil ?_
                  exact loopQ_i (k + 1, v7, T7) ⟨hk2, hO7⟩ (by simp only; omega) ((((((EnvLe.nil _).cons rfl).cons rfl).cons rfl).cons rfl).cons rfl) (HLe.pick [1, 1, 1, 1] _)
              · skip
                have hk3 : k = ps.length := by have := of_decide_eq_false h4; omega
                subst hk3
                rw [List.take_length] at hO4 hle4 ⊢
                refine .exit (seqQ_x (loopQ_x (blkQ_x ?_)))
                refine seqQ_n ?_
                refine .seq ?_
                refine .seq ?_
                refine .region ?_
                refine TriOps.q .move ?_
                refine TriOps.q .not ?_
                refine .nil ?_
                refine seqQ_n ?_
                refine .cond rfl (fun h6 => ?_) (fun h6 => ?_)
                · skip
                  refine .region ?_
                  refine TriOps.q .move ?_
                  refine TriOps.q (.loadA rfl) ?_
                  refine TriOps.buildSlice1A (fun b84 => ?_)
                  refine TriOps.append hO4 (RS.lits (xs := [((w, t.fresh) : TP)]) rfl (by simp [encT]) (by have := ir2.h; simpa using this)) (by simp; omega) (fun v5 T5 hO5 => ?_)
                  have i5 := hO5.oneCell
                  refine TriOps.q .assign ?_
                  refine .nil ?_
                  refine seqQ_n ?_
                  refine .seq ?_
                  refine .region ?_
                  refine TriOps.q .move ?_
                  refine TriOps.q .move ?_
                  refine TriOps.q (.nilCheck rfl) ?_
                  refine TriOps.q (.fieldAddr rfl) ?_
                  refine TriOps.store1 rfl rfl ?_
                  refine .nil ?_
                  refine seqQ_n ?_
                  refine .seq ?_
                  refine .region ?_
                  refine TriOps.q .assign ?_
                  refine .nil ?_
                  refine seqQ_n ?_
                  refine .ret (retQ_r _ (.one (.tmp rfl)) (by first | (refine (HLe.pick [1, 1] _).trans (HLe.ofPerm (H' := [(xp, .cells [vt, .int .i64 last].toArray 49 (0, 0)) :: Tt]) ?_); simp [take, dropAt] <;> fail) | (refine (HLe.pick [1, 2] _).trans (HLe.ofPerm (H' := [(xp, .cells [vo, .int .i64 last].toArray 49 (0, 0)) :: To]) ?_); simp [take, dropAt, setL] <;> fail) | (refine (HLe.pick [2, 2] _).trans (HLe.ofPerm (H' := [(xp, .cells [vo, .int .i64 last].toArray 49 (0, 0)) :: To]) ?_); simp [take, dropAt, setL] <;> fail) | (refine (HLe.pick [1, 2] _).trans (HLe.ofPerm (H' := [(xp, .cells [v5, .int .i64 last].toArray 49 (0, 0)) :: T5]) ?_); simp [take, dropAt, setL] <;> fail) | (refine (HLe.pick [2, 3] _).trans (HLe.ofPerm (H' := [(xp, .cells [v5, .int .i64 last].toArray 49 (0, 0)) :: T5]) ?_); simp [take, dropAt, setL] <;> fail)) ?_)
                  skip
                  first
                    | (rw [tput_bad hrt]
                       exact ⟨_, rfl, rfl, ps, h0, hB, fun p hp => .inl hp, by omega⟩)
                    | (obtain ⟨i, w9, t9, _, _, _, hg⟩ := hz.pos (by have := of_decide_eq_true h2; omega)
                       rw [hB.get] at hg
                       rw [tput_there hrt hg]
                       exact ⟨_, rfl, rfl, ps, h0, hB, fun p hp => .inl hp, by omega⟩)
                    | (have h9 := of_decide_eq_true h3
                       exfalso; omega)
                    | (rw [hadd]
                       have han : ps.any (ltc tcmp (w, t.fresh)) = false := by rw [Bool.not_eq_true'] at h6; exact h6
                       have e0 : gpre (ltc tcmp) (w, t.fresh) ps = ps := by unfold gpre; rw [han]; rfl
                       rw [e0, ← gins_end han] at hO5
                       exact ⟨_, rfl, rfl, tins (w, t.fresh) ps, ⟨v5, T5, rfl, hO5, by rw [gins_len]; omega⟩, BothT.add (t := t.fresh) hB hno, fun p hp => (List.mem_cons.1 (gins_perm.mem_iff.1 hp)).symm, by rw [gins_len]; omega⟩)
                    | (rw [hadd]
                       have han : ps.any (ltc tcmp (w, t.fresh)) = true := by rw [Bool.not_eq_false'] at h6; exact h6
                       have e0 : gpre (ltc tcmp) (w, t.fresh) ps = gins (ltc tcmp) (w, t.fresh) ps := by unfold gpre; rw [han]; rfl
                       rw [e0] at hO4
                       exact ⟨_, rfl, rfl, tins (w, t.fresh) ps, ⟨vo, To, rfl, hO4, by rw [gins_len]; omega⟩, BothT.add (t := t.fresh) hB hno, fun p hp => (List.mem_cons.1 (gins_perm.mem_iff.1 hp)).symm, by rw [gins_len]; omega⟩)
                · skip
                  refine .skip ?_
                  refine seqQ_n ?_
                  refine .seq ?_
                  refine .region ?_
                  refine TriOps.q .move ?_
                  refine TriOps.q .move ?_
                  refine TriOps.q (.nilCheck rfl) ?_
                  refine TriOps.q (.fieldAddr rfl) ?_
                  refine TriOps.store1 rfl rfl ?_
                  refine .nil ?_
                  refine seqQ_n ?_
                  refine .seq ?_
                  refine .region ?_
                  refine TriOps.q .assign ?_
                  refine .nil ?_
                  refine seqQ_n ?_
                  refine .ret (retQ_r _ (.one (.tmp rfl)) (by first | (refine (HLe.pick [1, 1] _).trans (HLe.ofPerm (H' := [(xp, .cells [vt, .int .i64 last].toArray 49 (0, 0)) :: Tt]) ?_); simp [take, dropAt] <;> fail) | (refine (HLe.pick [1, 2] _).trans (HLe.ofPerm (H' := [(xp, .cells [vo, .int .i64 last].toArray 49 (0, 0)) :: To]) ?_); simp [take, dropAt, setL] <;> fail) | (refine (HLe.pick [2, 2] _).trans (HLe.ofPerm (H' := [(xp, .cells [vo, .int .i64 last].toArray 49 (0, 0)) :: To]) ?_); simp [take, dropAt, setL] <;> fail) | (refine (HLe.pick [1, 2] _).trans (HLe.ofPerm (H' := [(xp, .cells [v5, .int .i64 last].toArray 49 (0, 0)) :: T5]) ?_); simp [take, dropAt, setL] <;> fail) | (refine (HLe.pick [2, 3] _).trans (HLe.ofPerm (H' := [(xp, .cells [v5, .int .i64 last].toArray 49 (0, 0)) :: T5]) ?_); simp [take, dropAt, setL] <;> fail)) ?_)
                  skip
                  first
                    | (rw [tput_bad hrt]
                       exact ⟨_, rfl, rfl, ps, h0, hB, fun p hp => .inl hp, by omega⟩)
                    | (obtain ⟨i, w9, t9, _, _, _, hg⟩ := hz.pos (by have := of_decide_eq_true h2; omega)
                       rw [hB.get] at hg
                       rw [tput_there hrt hg]
                       exact ⟨_, rfl, rfl, ps, h0, hB, fun p hp => .inl hp, by omega⟩)
                    | (have h9 := of_decide_eq_true h3
                       exfalso; omega)
                    | (rw [hadd]
                       have han : ps.any (ltc tcmp (w, t.fresh)) = false := by rw [Bool.not_eq_true'] at h6; exact h6
                       have e0 : gpre (ltc tcmp) (w, t.fresh) ps = ps := by unfold gpre; rw [han]; rfl
                       rw [e0, ← gins_end han] at hO5
                       exact ⟨_, rfl, rfl, tins (w, t.fresh) ps, ⟨v5, T5, rfl, hO5, by rw [gins_len]; omega⟩, BothT.add (t := t.fresh) hB hno, fun p hp => (List.mem_cons.1 (gins_perm.mem_iff.1 hp)).symm, by rw [gins_len]; omega⟩)
                    | (rw [hadd]
                       have han : ps.any (ltc tcmp (w, t.fresh)) = true := by rw [Bool.not_eq_false'] at h6; exact h6
                       have e0 : gpre (ltc tcmp) (w, t.fresh) ps = gins (ltc tcmp) (w, t.fresh) ps := by unfold gpre; rw [han]; rfl
                       rw [e0] at hO4
                       exact ⟨_, rfl, rfl, tins (w, t.fresh) ps, ⟨vo, To, rfl, hO4, by rw [gins_len]; omega⟩, BothT.add (t := t.fresh) hB hno, fun p hp => (List.mem_cons.1 (gins_perm.mem_iff.1 hp)).symm, by rw [gins_len]; omega⟩)
  · skip
    refine TriOps.gF g1_3 ?_
    refine TriOps.gF g1_3 ?_
    refine TriOps.gF g1_3 ?_
    refine TriOps.q (.pickFh g1_3) ?_
    refine TriOps.q .move ?_
    refine TriOps.gt rfl ?_
    refine TriOps.q (.fieldAddr rfl) ?_
    refine TriOps.gt rfl ?_
    refine TriOps.q (.load1 rfl) ?_
    refine TriOps.gt rfl ?_
    refine TriOps.q .lss ?_
    refine TriOps.q .pickF ?_
    refine TriOps.q .move ?_
    refine TriOps.split (t := 21) rfl (fun g1_13 => ?_) (fun g1_13 => ?_)
    · skip
      refine TriOps.gF g1_13 ?_
      refine TriOps.gF g1_13 ?_
      refine TriOps.gF g1_13 ?_
      refine TriOps.gF g1_13 ?_
      refine TriOps.gF g1_13 ?_
      refine TriOps.gF g1_13 ?_
      refine TriOps.gF g1_13 ?_
      refine TriOps.q (.pickTh g1_13) ?_
      refine .nil ?_
      refine seqQ_n ?_
      refine Tri.cut (X := Unit) (fun _ => rightB t last = true) (fun _ => [(0, .pointer (some ⟨xp, 0, none⟩)), (3, .pointer (some ⟨b3, 0, none⟩))]) (fun _ => [[(b3, .cells (encT (w, t)).toArray 26 (0, 0))], [(xp, .cells [vt, .int .i64 last].toArray 49 (0, 0))], Tt, []]) ?_ ?_
      ·
        refine .condT ?_
        have hrt : rightB t last = false := by
          unfold rightB
          first
            | (have a1 : (t.kind != 1) = true := g1_3
               have a2 : (t.kind != 2) = true := g1_8
               simp at a1 a2
               simp [a1, a2]; done)
            | (have a1 := of_decide_eq_true g1_13
               simp only at a1
               rw [decide_eq_false (p := 1 ≤ t.family) (by omega), Bool.and_false, Bool.false_and]; done)
            | (have a1 := of_decide_eq_true h1
               simp only at a1
               rw [decide_eq_false (p := t.family ≤ last) (by omega), Bool.and_false])
        refine .seq ?_
        refine .region ?_
        refine TriOps.q .assign ?_
        refine .nil ?_
        refine seqQ_n ?_
        refine .ret (joinQ_r (seqQ_r (retQ_r _ (.one (.tmp rfl)) (by first | (refine (HLe.pick [1, 1] _).trans (HLe.ofPerm (H' := [(xp, .cells [vt, .int .i64 last].toArray 49 (0, 0)) :: Tt]) ?_); simp [take, dropAt] <;> fail) | (refine (HLe.pick [1, 2] _).trans (HLe.ofPerm (H' := [(xp, .cells [vo, .int .i64 last].toArray 49 (0, 0)) :: To]) ?_); simp [take, dropAt, setL] <;> fail) | (refine (HLe.pick [2, 2] _).trans (HLe.ofPerm (H' := [(xp, .cells [vo, .int .i64 last].toArray 49 (0, 0)) :: To]) ?_); simp [take, dropAt, setL] <;> fail) | (refine (HLe.pick [1, 2] _).trans (HLe.ofPerm (H' := [(xp, .cells [v5, .int .i64 last].toArray 49 (0, 0)) :: T5]) ?_); simp [take, dropAt, setL] <;> fail) | (refine (HLe.pick [2, 3] _).trans (HLe.ofPerm (H' := [(xp, .cells [v5, .int .i64 last].toArray 49 (0, 0)) :: T5]) ?_); simp [take, dropAt, setL] <;> fail)) ?_)))
        skip
        first
          | (rw [tput_bad hrt]
             exact ⟨_, rfl, rfl, ps, h0, hB, fun p hp => .inl hp, by omega⟩)
          | (obtain ⟨i, w9, t9, _, _, _, hg⟩ := hz.pos (by have := of_decide_eq_true h2; omega)
             rw [hB.get] at hg
             rw [tput_there hrt hg]
             exact ⟨_, rfl, rfl, ps, h0, hB, fun p hp => .inl hp, by omega⟩)
          | (have h9 := of_decide_eq_true h3
             exfalso; omega)
          | (rw [hadd]
             have han : ps.any (ltc tcmp (w, t.fresh)) = false := by rw [Bool.not_eq_true'] at h6; exact h6
             have e0 : gpre (ltc tcmp) (w, t.fresh) ps = ps := by unfold gpre; rw [han]; rfl
             rw [e0, ← gins_end han] at hO5
             exact ⟨_, rfl, rfl, tins (w, t.fresh) ps, ⟨v5, T5, rfl, hO5, by rw [gins_len]; omega⟩, BothT.add (t := t.fresh) hB hno, fun p hp => (List.mem_cons.1 (gins_perm.mem_iff.1 hp)).symm, by rw [gins_len]; omega⟩)
          | (rw [hadd]
             have han : ps.any (ltc tcmp (w, t.fresh)) = true := by rw [Bool.not_eq_false'] at h6; exact h6
             have e0 : gpre (ltc tcmp) (w, t.fresh) ps = gins (ltc tcmp) (w, t.fresh) ps := by unfold gpre; rw [han]; rfl
             rw [e0] at hO4
             exact ⟨_, rfl, rfl, tins (w, t.fresh) ps, ⟨vo, To, rfl, hO4, by rw [gins_len]; omega⟩, BothT.add (t := t.fresh) hB hno, fun p hp => (List.mem_cons.1 (gins_perm.mem_iff.1 hp)).symm, by rw [gins_len]; omega⟩)
      · intro x hx
        have hrt : rightB t last = true := hx
        refine seqQ_n ?_
        refine .seq ?_
        refine .seq ?_
        refine .region ?_
        refine TriOps.q .move ?_
        refine TriOps.q (.fieldAddr rfl) ?_
        refine TriOps.q (.load1 rfl) ?_
        refine TriOps.callR (rtfind_spec xp vt last ps t.text _ hO.rx (fun p hp => (hc p hp).mono fun b o hb => .inl hb)) (fun u hu => ?_)
        obtain ⟨z, rfl, hz⟩ := hu
        refine TriOps.q .geq ?_
        refine .nil ?_
        refine seqQ_n ?_
        refine .cond rfl (fun h2 => ?_) (fun h2 => ?_)
        · skip
          refine .seq ?_
          refine .region ?_
          refine TriOps.q .assign ?_
          refine .nil ?_
          refine seqQ_n ?_
          refine .ret (seqQ_r (retQ_r _ (.one (.tmp rfl)) (by first | (refine (HLe.pick [1, 1] _).trans (HLe.ofPerm (H' := [(xp, .cells [vt, .int .i64 last].toArray 49 (0, 0)) :: Tt]) ?_); simp [take, dropAt] <;> fail) | (refine (HLe.pick [1, 2] _).trans (HLe.ofPerm (H' := [(xp, .cells [vo, .int .i64 last].toArray 49 (0, 0)) :: To]) ?_); simp [take, dropAt, setL] <;> fail) | (refine (HLe.pick [2, 2] _).trans (HLe.ofPerm (H' := [(xp, .cells [vo, .int .i64 last].toArray 49 (0, 0)) :: To]) ?_); simp [take, dropAt, setL] <;> fail) | (refine (HLe.pick [1, 2] _).trans (HLe.ofPerm (H' := [(xp, .cells [v5, .int .i64 last].toArray 49 (0, 0)) :: T5]) ?_); simp [take, dropAt, setL] <;> fail) | (refine (HLe.pick [2, 3] _).trans (HLe.ofPerm (H' := [(xp, .cells [v5, .int .i64 last].toArray 49 (0, 0)) :: T5]) ?_); simp [take, dropAt, setL] <;> fail)) ?_))
          skip
          first
            | (rw [tput_bad hrt]
               exact ⟨_, rfl, rfl, ps, h0, hB, fun p hp => .inl hp, by omega⟩)
            | (obtain ⟨i, w9, t9, _, _, _, hg⟩ := hz.pos (by have := of_decide_eq_true h2; omega)
               rw [hB.get] at hg
               rw [tput_there hrt hg]
               exact ⟨_, rfl, rfl, ps, h0, hB, fun p hp => .inl hp, by omega⟩)
            | (have h9 := of_decide_eq_true h3
               exfalso; omega)
            | (rw [hadd]
               have han : ps.any (ltc tcmp (w, t.fresh)) = false := by rw [Bool.not_eq_true'] at h6; exact h6
               have e0 : gpre (ltc tcmp) (w, t.fresh) ps = ps := by unfold gpre; rw [han]; rfl
               rw [e0, ← gins_end han] at hO5
               exact ⟨_, rfl, rfl, tins (w, t.fresh) ps, ⟨v5, T5, rfl, hO5, by rw [gins_len]; omega⟩, BothT.add (t := t.fresh) hB hno, fun p hp => (List.mem_cons.1 (gins_perm.mem_iff.1 hp)).symm, by rw [gins_len]; omega⟩)
            | (rw [hadd]
               have han : ps.any (ltc tcmp (w, t.fresh)) = true := by rw [Bool.not_eq_false'] at h6; exact h6
               have e0 : gpre (ltc tcmp) (w, t.fresh) ps = gins (ltc tcmp) (w, t.fresh) ps := by unfold gpre; rw [han]; rfl
               rw [e0] at hO4
               exact ⟨_, rfl, rfl, tins (w, t.fresh) ps, ⟨vo, To, rfl, hO4, by rw [gins_len]; omega⟩, BothT.add (t := t.fresh) hB hno, fun p hp => (List.mem_cons.1 (gins_perm.mem_iff.1 hp)).symm, by rw [gins_len]; omega⟩)
        · skip
          have hno : mget t.text A = none := by rw [← hB.get]; exact hz.neg (by have := of_decide_eq_false h2; omega)
          refine .skip ?_
          refine seqQ_n ?_
          refine .seq ?_
          refine .seq ?_
          refine .region ?_
          refine TriOps.q .move ?_
          refine TriOps.q (.nilCheck rfl) ?_
          refine TriOps.q (.fieldAddr rfl) ?_
          refine TriOps.q (.load1 rfl) ?_
          refine TriOps.q (.lenO hO) ?_
          refine TriOps.q .geq ?_
          refine .nil ?_
          refine seqQ_n ?_
          refine .cond rfl (fun h3 => ?_) (fun h3 => ?_)
          · skip
            refine .seq ?_
            refine .region ?_
            refine TriOps.q .assign ?_
            refine .nil ?_
            refine seqQ_n ?_
            refine .ret (seqQ_r (retQ_r _ (.one (.tmp rfl)) (by first | (refine (HLe.pick [1, 1] _).trans (HLe.ofPerm (H' := [(xp, .cells [vt, .int .i64 last].toArray 49 (0, 0)) :: Tt]) ?_); simp [take, dropAt] <;> fail) | (refine (HLe.pick [1, 2] _).trans (HLe.ofPerm (H' := [(xp, .cells [vo, .int .i64 last].toArray 49 (0, 0)) :: To]) ?_); simp [take, dropAt, setL] <;> fail) | (refine (HLe.pick [2, 2] _).trans (HLe.ofPerm (H' := [(xp, .cells [vo, .int .i64 last].toArray 49 (0, 0)) :: To]) ?_); simp [take, dropAt, setL] <;> fail) | (refine (HLe.pick [1, 2] _).trans (HLe.ofPerm (H' := [(xp, .cells [v5, .int .i64 last].toArray 49 (0, 0)) :: T5]) ?_); simp [take, dropAt, setL] <;> fail) | (refine (HLe.pick [2, 3] _).trans (HLe.ofPerm (H' := [(xp, .cells [v5, .int .i64 last].toArray 49 (0, 0)) :: T5]) ?_); simp [take, dropAt, setL] <;> fail)) ?_))
            skip
            first
              | (rw [tput_bad hrt]
                 exact ⟨_, rfl, rfl, ps, h0, hB, fun p hp => .inl hp, by omega⟩)
              | (obtain ⟨i, w9, t9, _, _, _, hg⟩ := hz.pos (by have := of_decide_eq_true h2; omega)
                 rw [hB.get] at hg
                 rw [tput_there hrt hg]
                 exact ⟨_, rfl, rfl, ps, h0, hB, fun p hp => .inl hp, by omega⟩)
              | (have h9 := of_decide_eq_true h3
                 exfalso; omega)
              | (rw [hadd]
                 have han : ps.any (ltc tcmp (w, t.fresh)) = false := by rw [Bool.not_eq_true'] at h6; exact h6
                 have e0 : gpre (ltc tcmp) (w, t.fresh) ps = ps := by unfold gpre; rw [han]; rfl
                 rw [e0, ← gins_end han] at hO5
                 exact ⟨_, rfl, rfl, tins (w, t.fresh) ps, ⟨v5, T5, rfl, hO5, by rw [gins_len]; omega⟩, BothT.add (t := t.fresh) hB hno, fun p hp => (List.mem_cons.1 (gins_perm.mem_iff.1 hp)).symm, by rw [gins_len]; omega⟩)
              | (rw [hadd]
                 have han : ps.any (ltc tcmp (w, t.fresh)) = true := by rw [Bool.not_eq_false'] at h6; exact h6
                 have e0 : gpre (ltc tcmp) (w, t.fresh) ps = gins (ltc tcmp) (w, t.fresh) ps := by unfold gpre; rw [han]; rfl
                 rw [e0] at hO4
                 exact ⟨_, rfl, rfl, tins (w, t.fresh) ps, ⟨vo, To, rfl, hO4, by rw [gins_len]; omega⟩, BothT.add (t := t.fresh) hB hno, fun p hp => (List.mem_cons.1 (gins_perm.mem_iff.1 hp)).symm, by rw [gins_len]; omega⟩)
          · skip
            have hlt9 : ps.length < 4096 := by have := of_decide_eq_false h3; omega
            have hadd := tput_ok hrt hno (by omega)
            refine .skip ?_
            refine seqQ_n ?_
            refine .seq ?_
            refine .region ?_
            refine TriOps.q (.fieldAddr rfl) ?_
            refine TriOps.store1 rfl rfl ?_
            refine .nil ?_
            refine seqQ_n ?_
            refine .seq ?_
            refine .region ?_
            refine TriOps.q .assign ?_
            refine .nil ?_
            refine seqQ_n ?_
            refine .seq ?_
            refine .region ?_
            refine TriOps.q .assign ?_
            refine .nil ?_
            refine seqQ_n ?_
            refine .seq ?_
            refine .seq ?_
            refine .region ?_
            refine TriOps.q .assign ?_
            refine .nil ?_
            refine seqQ_n ?_
            refine .block ?_
            refine .loop (X := Nat × Value × Seg) (fun y => y.1 ≤ ps.length ∧ OS 26 9 encT y.2.1 (gpre (ltc tcmp) (w, t.fresh) (ps.take y.1)) y.2.2) (fun y => [(0, .pointer (some ⟨xp, 0, none⟩)), (3, .pointer (some ⟨b3, 0, none⟩)), (5, y.2.1), (6, .bool ((ps.take y.1).any (ltc tcmp (w, t.fresh)))), (7, .int .i64 (y.1 : Nat))]) (fun y => [[(b3, .cells (encT (w, t.fresh)).toArray 26 (0, 0))], [(xp, .cells [vt, .int .i64 last].toArray 49 (0, 0))], Tt, y.2.2]) (fun y => ps.length - y.1) (0, .slice none 0 0, []) ⟨Nat.zero_le _, OS.nil⟩ ((((((EnvLe.nil _).cons rfl).cons rfl).cons rfl).cons rfl).cons rfl) (HLe.refl _) ?_
            rintro ⟨k, vo, To⟩ ⟨hk, hO4⟩
            simp only at hk hO4 ⊢
            have i4 := hO4.oneCell
            have hle4 := gpre_len (lt := ltc tcmp) (p := ((w, t.fresh) : TP)) (X := ps.take k)
            rw [List.length_take, Nat.min_eq_left hk] at hle4
            refine .seq ?_
            refine .seq ?_
            refine .region ?_
            refine TriOps.q .move ?_
            refine TriOps.q .move ?_
            refine TriOps.q (.nilCheck rfl) ?_
            refine TriOps.q (.fieldAddr rfl) ?_
            refine TriOps.q (.load1 rfl) ?_
            refine TriOps.q (.lenO hO) ?_
            refine TriOps.q .lss ?_
            refine .nil ?_
            refine seqQ_n ?_
            refine .cond rfl (fun h4 => ?_) (fun h4 => ?_)
            · skip
              have hk2 : k < ps.length := by have := of_decide_eq_true h4; omega
              obtain ⟨⟨wy, ty⟩, hx⟩ : ∃ y, ps[k]? = some y := ⟨_, List.getElem?_eq_getElem hk2⟩
              have cx := hc _ (List.mem_of_getElem? hx)
              have ix : Ones (encT (wy, ty)) := ⟨cx.ones⟩
              have e4 := gmid_next (lt := ltc tcmp) (p := ((w, t.fresh) : TP)) hx
              refine .skip ?_
              refine seqQ_n ?_
              refine .seq ?_
              refine .block ?_
              refine .seq ?_
              refine Tri.cut (X := Value × Seg) (fun z => OS 26 9 encT z.1 (gmid (ltc tcmp) (w, t.fresh) (ps.take k) (wy, ty)) z.2) (fun z => [(0, .pointer (some ⟨xp, 0, none⟩)), (3, .pointer (some ⟨b3, 0, none⟩)), (5, z.1), (6, .bool ((ps.take (k + 1)).any (ltc tcmp (w, t.fresh)))), (7, .int .i64 (k : Nat))]) (fun z => [[(b3, .cells (encT (w, t.fresh)).toArray 26 (0, 0))], [(xp, .cells [vt, .int .i64 last].toArray 49 (0, 0))], Tt, z.2]) ?_ ?_
              · refine .seq ?_
                refine .region_still mixed (by kernel_rfl) ?_
                refine TriOps.q .move ?_
                refine TriOps.q .not ?_
                refine TriOps.q .move ?_
                refine TriOps.split (t := 53) rfl (fun g13_2 => ?_) (fun g13_2 => ?_)
                · skip
                  refine TriOps.gT g13_2 ?_
                  refine TriOps.q (.fieldAddr rfl) ?_
                  refine TriOps.gT g13_2 ?_
                  refine TriOps.q (.load1 rfl) ?_
                  refine TriOps.gT g13_2 ?_
                  refine TriOps.q .move ?_
                  refine TriOps.gT g13_2 ?_
                  refine TriOps.q (.nilCheck rfl) ?_
                  refine TriOps.gT g13_2 ?_
                  refine TriOps.q (.fieldAddr rfl) ?_
                  refine TriOps.gT g13_2 ?_
                  refine TriOps.q (.load1 rfl) ?_
                  refine TriOps.gT g13_2 ?_
                  refine TriOps.q .move ?_
                  refine TriOps.gT g13_2 ?_
                  refine TriOps.indexO k hO hx (fun p61 => ?_)
                  refine TriOps.gT g13_2 ?_
                  refine TriOps.q (.fieldAddr rfl) ?_
                  refine TriOps.gT g13_2 ?_
                  refine TriOps.q (.load1 rfl) ?_
                  refine TriOps.gT g13_2 ?_
                  refine TriOps.q .ltS ?_
                  refine TriOps.q (.pickTh g13_2) ?_
                  refine .nil ?_
                  refine seqQ_n ?_
                  refine .cond rfl (fun h5 => ?_) (fun h5 => ?_)
                  · skip
                    first | have hput := gmid_put hx g13_2 ((ltc_tcmp (w, t.fresh) (wy, ty)).trans h5) | skip
                    refine .seq ?_
                    refine .region ?_
                    refine TriOps.q .move ?_
                    refine TriOps.q (.loadA rfl) ?_
                    refine TriOps.buildSlice1A (fun b68 => ?_)
                    refine TriOps.append hO4 (RS.lits (xs := [((w, t.fresh) : TP)]) rfl (by simp [encT]) (by have := ir2.h; simpa using this)) (by simp; omega) (fun v5 T5 hO5 => ?_)
                    refine TriOps.q .assign ?_
                    refine .nil ?_
                    refine seqQ_n ?_
                    refine .region ?_
                    refine TriOps.q .assign ?_
                    refine .nil ?_
                    first
                      | (obtain ⟨hm, hA⟩ := hput
                         exact joinQ_n (v5, T5) (by simp only; rw [hm]; exact hO5) (by simp only; rw [hA]; exact (((((EnvLe.nil _).cons rfl).cons rfl).cons rfl).cons rfl).cons rfl) (HLe.pick [1, 1, 1, 1] _))
                      | (obtain ⟨hm, hA⟩ := hnot
                         exact joinQ_n (vo, To) (by simp only; rw [hm]; simpa using hO4) (by simp only; rw [hA]; exact (((((EnvLe.nil _).cons rfl).cons rfl).cons rfl).cons rfl).cons rfl) (HLe.refl _))
                  · skip
                    first | have hnot := gmid_not (p := ((w, t.fresh) : TP)) hx (.inr ((ltc_tcmp (w, t.fresh) (wy, ty)).trans h5)) | skip
                    refine .skip ?_
                    first
                      | (obtain ⟨hm, hA⟩ := hput
                         exact joinQ_n (v5, T5) (by simp only; rw [hm]; exact hO5) (by simp only; rw [hA]; exact (((((EnvLe.nil _).cons rfl).cons rfl).cons rfl).cons rfl).cons rfl) (HLe.pick [1, 1, 1, 1] _))
                      | (obtain ⟨hm, hA⟩ := hnot
                         exact joinQ_n (vo, To) (by simp only; rw [hm]; simpa using hO4) (by simp only; rw [hA]; exact (((((EnvLe.nil _).cons rfl).cons rfl).cons rfl).cons rfl).cons rfl) (HLe.refl _))
                · skip
                  have hnot := gmid_not (p := ((w, t.fresh) : TP)) hx (.inl g13_2)
                  refine TriOps.gF g13_2 ?_
                  refine TriOps.gF g13_2 ?_
                  refine TriOps.gF g13_2 ?_
                  refine TriOps.gF g13_2 ?_
                  refine TriOps.gF g13_2 ?_
                  refine TriOps.gF g13_2 ?_
                  refine TriOps.gF g13_2 ?_
                  refine TriOps.gF g13_2 ?_
                  refine TriOps.gF g13_2 ?_
                  refine TriOps.gF g13_2 ?_
                  refine TriOps.gF g13_2 ?_
                  refine TriOps.q (.pickFh g13_2) ?_
                  refine .nil ?_
                  refine seqQ_n ?_
                  refine .condF ?_
                  first | have hnot := gmid_not (p := ((w, t.fresh) : TP)) hx (.inr ((ltc_tcmp (w, t.fresh) (wy, ty)).trans h5)) | skip
                  refine .skip ?_
                  first
                    | (obtain ⟨hm, hA⟩ := hput
                       exact joinQ_n (v5, T5) (by simp only; rw [hm]; exact hO5) (by simp only; rw [hA]; exact (((((EnvLe.nil _).cons rfl).cons rfl).cons rfl).cons rfl).cons rfl) (HLe.pick [1, 1, 1, 1] _))
                    | (obtain ⟨hm, hA⟩ := hnot
                       exact joinQ_n (vo, To) (by simp only; rw [hm]; simpa using hO4) (by simp only; rw [hA]; exact (((((EnvLe.nil _).cons rfl).cons rfl).cons rfl).cons rfl).cons rfl) (HLe.refl _))
              · intro y hy
                obtain ⟨vm, Tm⟩ := y
                have hO6 : OS 26 9 encT vm (gmid (ltc tcmp) (w, t.fresh) (ps.take k) (wy, ty)) Tm := hy
                have i6 := hO6.oneCell
                simp only
                refine seqQ_n ?_
                refine .region ?_
                refine TriOps.q .move ?_
                refine TriOps.q .move ?_
                refine TriOps.q (.nilCheck rfl) ?_
                refine TriOps.q (.fieldAddr rfl) ?_
                refine TriOps.q (.load1 rfl) ?_
                refine TriOps.q .move ?_
                refine TriOps.indexO k hO hx (fun p76 => ?_)
                refine TriOps.q (.loadA rfl) ?_
                refine TriOps.buildSlice1A (fun b78 => ?_)
                refine TriOps.append hO6 (RS.lits (xs := [((wy, ty) : TP)]) rfl (by simp [encT]) (by have := cx.ones; simpa using this)) (by have := gpre_len (lt := ltc tcmp) (p := ((w, t.fresh) : TP)) (X := ps.take (k + 1)); rw [← e4] at this; simp at this ⊢; omega) (fun v7 T7 hO7 => ?_)
                rw [e4] at hO7
                refine TriOps.q .assign ?_
                refine .nil ?_
                refine blkQ_n (seqQ_n ?_)
                refine .region ?_
                refine TriOps.q .move ?_
                refine TriOps.q (.i64 ((k + 1 : Nat) : Int) .add ⟨by omega, by omega, by omega⟩) ?_
                refine TriOps.q .assign ?_
                refine .nil ?_
                exact loopQ_i (k + 1, v7, T7) ⟨hk2, hO7⟩ (by simp only; omega) ((((((EnvLe.nil _).cons rfl).cons rfl).cons rfl).cons rfl).cons rfl) (HLe.pick [1, 1, 1, 1] _)
            · skip
              have hk3 : k = ps.length := by have := of_decide_eq_false h4; omega
              subst hk3
              rw [List.take_length] at hO4 hle4 ⊢
              refine .exit (seqQ_x (loopQ_x (blkQ_x ?_)))
              refine seqQ_n ?_
              refine .seq ?_
              refine .seq ?_
              refine .region ?_
              refine TriOps.q .move ?_
              refine TriOps.q .not ?_
              refine .nil ?_
              refine seqQ_n ?_
              refine .cond rfl (fun h6 => ?_) (fun h6 => ?_)
              · skip
                refine .region ?_
                refine TriOps.q .move ?_
                refine TriOps.q (.loadA rfl) ?_
                refine TriOps.buildSlice1A (fun b84 => ?_)
                refine TriOps.append hO4 (RS.lits (xs := [((w, t.fresh) : TP)]) rfl (by simp [encT]) (by have := ir2.h; simpa using this)) (by simp; omega) (fun v5 T5 hO5 => ?_)
                have i5 := hO5.oneCell
                refine TriOps.q .assign ?_
                refine .nil ?_
                refine seqQ_n ?_
                refine .seq ?_
                refine .region ?_
                refine TriOps.q .move ?_
                refine TriOps.q .move ?_
                refine TriOps.q (.nilCheck rfl) ?_
                refine TriOps.q (.fieldAddr rfl) ?_
                refine TriOps.store1 rfl rfl ?_
                refine .nil ?_
                refine seqQ_n ?_
                refine .seq ?_
                refine .region ?_
                refine TriOps.q .assign ?_
                refine .nil ?_
                refine seqQ_n ?_
                refine .ret (retQ_r _ (.one (.tmp rfl)) (by first | (refine (HLe.pick [1, 1] _).trans (HLe.ofPerm (H' := [(xp, .cells [vt, .int .i64 last].toArray 49 (0, 0)) :: Tt]) ?_); simp [take, dropAt] <;> fail) | (refine (HLe.pick [1, 2] _).trans (HLe.ofPerm (H' := [(xp, .cells [vo, .int .i64 last].toArray 49 (0, 0)) :: To]) ?_); simp [take, dropAt, setL] <;> fail) | (refine (HLe.pick [2, 2] _).trans (HLe.ofPerm (H' := [(xp, .cells [vo, .int .i64 last].toArray 49 (0, 0)) :: To]) ?_); simp [take, dropAt, setL] <;> fail) | (refine (HLe.pick [1, 2] _).trans (HLe.ofPerm (H' := [(xp, .cells [v5, .int .i64 last].toArray 49 (0, 0)) :: T5]) ?_); simp [take, dropAt, setL] <;> fail) | (refine (HLe.pick [2, 3] _).trans (HLe.ofPerm (H' := [(xp, .cells [v5, .int .i64 last].toArray 49 (0, 0)) :: T5]) ?_); simp [take, dropAt, setL] <;> fail)) ?_)
                skip
                first
                  | (rw [tput_bad hrt]
                     exact ⟨_, rfl, rfl, ps, h0, hB, fun p hp => .inl hp, by omega⟩)
                  | (obtain ⟨i, w9, t9, _, _, _, hg⟩ := hz.pos (by have := of_decide_eq_true h2; omega)
                     rw [hB.get] at hg
                     rw [tput_there hrt hg]
                     exact ⟨_, rfl, rfl, ps, h0, hB, fun p hp => .inl hp, by omega⟩)
                  | (have h9 := of_decide_eq_true h3
                     exfalso; omega)
                  | (rw [hadd]
                     have han : ps.any (ltc tcmp (w, t.fresh)) = false := by rw [Bool.not_eq_true'] at h6; exact h6
                     have e0 : gpre (ltc tcmp) (w, t.fresh) ps = ps := by unfold gpre; rw [han]; rfl
                     rw [e0, ← gins_end han] at hO5
                     exact ⟨_, rfl, rfl, tins (w, t.fresh) ps, ⟨v5, T5, rfl, hO5, by rw [gins_len]; omega⟩, BothT.add (t := t.fresh) hB hno, fun p hp => (List.mem_cons.1 (gins_perm.mem_iff.1 hp)).symm, by rw [gins_len]; omega⟩)
                  | (rw [hadd]
                     have han : ps.any (ltc tcmp (w, t.fresh)) = true := by rw [Bool.not_eq_false'] at h6; exact h6
                     have e0 : gpre (ltc tcmp) (w, t.fresh) ps = gins (ltc tcmp) (w, t.fresh) ps := by unfold gpre; rw [han]; rfl
                     rw [e0] at hO4
                     exact ⟨_, rfl, rfl, tins (w, t.fresh) ps, ⟨vo, To, rfl, hO4, by rw [gins_len]; omega⟩, BothT.add (t := t.fresh) hB hno, fun p hp => (List.mem_cons.1 (gins_perm.mem_iff.1 hp)).symm, by rw [gins_len]; omega⟩)
              · skip
                refine .skip ?_
                refine seqQ_n ?_
                refine .seq ?_
                refine .region ?_
                refine TriOps.q .move ?_
                refine TriOps.q .move ?_
                refine TriOps.q (.nilCheck rfl) ?_
                refine TriOps.q (.fieldAddr rfl) ?_
                refine TriOps.store1 rfl rfl ?_
                refine .nil ?_
                refine seqQ_n ?_
                refine .seq ?_
                refine .region ?_
                refine TriOps.q .assign ?_
                refine .nil ?_
                refine seqQ_n ?_
                refine .ret (retQ_r _ (.one (.tmp rfl)) (by first | (refine (HLe.pick [1, 1] _).trans (HLe.ofPerm (H' := [(xp, .cells [vt, .int .i64 last].toArray 49 (0, 0)) :: Tt]) ?_); simp [take, dropAt] <;> fail) | (refine (HLe.pick [1, 2] _).trans (HLe.ofPerm (H' := [(xp, .cells [vo, .int .i64 last].toArray 49 (0, 0)) :: To]) ?_); simp [take, dropAt, setL] <;> fail) | (refine (HLe.pick [2, 2] _).trans (HLe.ofPerm (H' := [(xp, .cells [vo, .int .i64 last].toArray 49 (0, 0)) :: To]) ?_); simp [take, dropAt, setL] <;> fail) | (refine (HLe.pick [1, 2] _).trans (HLe.ofPerm (H' := [(xp, .cells [v5, .int .i64 last].toArray 49 (0, 0)) :: T5]) ?_); simp [take, dropAt, setL] <;> fail) | (refine (HLe.pick [2, 3] _).trans (HLe.ofPerm (H' := [(xp, .cells [v5, .int .i64 last].toArray 49 (0, 0)) :: T5]) ?_); simp [take, dropAt, setL] <;> fail)) ?_)
                skip
                first
                  | (rw [tput_bad hrt]
                     exact ⟨_, rfl, rfl, ps, h0, hB, fun p hp => .inl hp, by omega⟩)
                  | (obtain ⟨i, w9, t9, _, _, _, hg⟩ := hz.pos (by have := of_decide_eq_true h2; omega)
                     rw [hB.get] at hg
                     rw [tput_there hrt hg]
                     exact ⟨_, rfl, rfl, ps, h0, hB, fun p hp => .inl hp, by omega⟩)
                  | (have h9 := of_decide_eq_true h3
                     exfalso; omega)
                  | (rw [hadd]
                     have han : ps.any (ltc tcmp (w, t.fresh)) = false := by rw [Bool.not_eq_true'] at h6; exact h6
                     have e0 : gpre (ltc tcmp) (w, t.fresh) ps = ps := by unfold gpre; rw [han]; rfl
                     rw [e0, ← gins_end han] at hO5
                     exact ⟨_, rfl, rfl, tins (w, t.fresh) ps, ⟨v5, T5, rfl, hO5, by rw [gins_len]; omega⟩, BothT.add (t := t.fresh) hB hno, fun p hp => (List.mem_cons.1 (gins_perm.mem_iff.1 hp)).symm, by rw [gins_len]; omega⟩)
                  | (rw [hadd]
                     have han : ps.any (ltc tcmp (w, t.fresh)) = true := by rw [Bool.not_eq_false'] at h6; exact h6
                     have e0 : gpre (ltc tcmp) (w, t.fresh) ps = gins (ltc tcmp) (w, t.fresh) ps := by unfold gpre; rw [han]; rfl
                     rw [e0] at hO4
                     exact ⟨_, rfl, rfl, tins (w, t.fresh) ps, ⟨vo, To, rfl, hO4, by rw [gins_len]; omega⟩, BothT.add (t := t.fresh) hB hno, fun p hp => (List.mem_cons.1 (gins_perm.mem_iff.1 hp)).symm, by rw [gins_len]; omega⟩)
    · skip
      refine TriOps.gT g1_13 ?_
      refine TriOps.q (.fieldAddr rfl) ?_
      refine TriOps.gT g1_13 ?_
      refine TriOps.q (.load1 rfl) ?_
      refine TriOps.gT g1_13 ?_
      refine TriOps.q .move ?_
      refine TriOps.gT g1_13 ?_
      refine TriOps.q (.nilCheck rfl) ?_
      refine TriOps.gT g1_13 ?_
      refine TriOps.q (.fieldAddr rfl) ?_
      refine TriOps.gT g1_13 ?_
      refine TriOps.q (.load1 rfl) ?_
      refine TriOps.gT g1_13 ?_
      refine TriOps.q .gtr ?_
      refine TriOps.q (.pickFh g1_13) ?_
      refine .nil ?_
      refine seqQ_n ?_
      refine Tri.cut (X := Unit) (fun _ => rightB t last = true) (fun _ => [(0, .pointer (some ⟨xp, 0, none⟩)), (3, .pointer (some ⟨b3, 0, none⟩))]) (fun _ => [[(b3, .cells (encT (w, t)).toArray 26 (0, 0))], [(xp, .cells [vt, .int .i64 last].toArray 49 (0, 0))], Tt, []]) ?_ ?_
      ·
        refine .cond rfl (fun h1 => ?_) (fun h1 => ?_)
        · skip
          have hrt : rightB t last = false := by
            unfold rightB
            first
              | (have a1 : (t.kind != 1) = true := g1_3
                 have a2 : (t.kind != 2) = true := g1_8
                 simp at a1 a2
                 simp [a1, a2]; done)
              | (have a1 := of_decide_eq_true g1_13
                 simp only at a1
                 rw [decide_eq_false (p := 1 ≤ t.family) (by omega), Bool.and_false, Bool.false_and]; done)
              | (have a1 := of_decide_eq_true h1
                 simp only at a1
                 rw [decide_eq_false (p := t.family ≤ last) (by omega), Bool.and_false])
          refine .seq ?_
          refine .region ?_
          refine TriOps.q .assign ?_
          refine .nil ?_
          refine seqQ_n ?_
          refine .ret (joinQ_r (seqQ_r (retQ_r _ (.one (.tmp rfl)) (by first | (refine (HLe.pick [1, 1] _).trans (HLe.ofPerm (H' := [(xp, .cells [vt, .int .i64 last].toArray 49 (0, 0)) :: Tt]) ?_); simp [take, dropAt] <;> fail) | (refine (HLe.pick [1, 2] _).trans (HLe.ofPerm (H' := [(xp, .cells [vo, .int .i64 last].toArray 49 (0, 0)) :: To]) ?_); simp [take, dropAt, setL] <;> fail) | (refine (HLe.pick [2, 2] _).trans (HLe.ofPerm (H' := [(xp, .cells [vo, .int .i64 last].toArray 49 (0, 0)) :: To]) ?_); simp [take, dropAt, setL] <;> fail) | (refine (HLe.pick [1, 2] _).trans (HLe.ofPerm (H' := [(xp, .cells [v5, .int .i64 last].toArray 49 (0, 0)) :: T5]) ?_); simp [take, dropAt, setL] <;> fail) | (refine (HLe.pick [2, 3] _).trans (HLe.ofPerm (H' := [(xp, .cells [v5, .int .i64 last].toArray 49 (0, 0)) :: T5]) ?_); simp [take, dropAt, setL] <;> fail)) ?_)))
          skip
          first
            | (rw [tput_bad hrt]
               exact ⟨_, rfl, rfl, ps, h0, hB, fun p hp => .inl hp, by omega⟩)
            | (obtain ⟨i, w9, t9, _, _, _, hg⟩ := hz.pos (by have := of_decide_eq_true h2; omega)
               rw [hB.get] at hg
               rw [tput_there hrt hg]
               exact ⟨_, rfl, rfl, ps, h0, hB, fun p hp => .inl hp, by omega⟩)
            | (have h9 := of_decide_eq_true h3
               exfalso; omega)
            | (rw [hadd]
               have han : ps.any (ltc tcmp (w, t.fresh)) = false := by rw [Bool.not_eq_true'] at h6; exact h6
               have e0 : gpre (ltc tcmp) (w, t.fresh) ps = ps := by unfold gpre; rw [han]; rfl
               rw [e0, ← gins_end han] at hO5
               exact ⟨_, rfl, rfl, tins (w, t.fresh) ps, ⟨v5, T5, rfl, hO5, by rw [gins_len]; omega⟩, BothT.add (t := t.fresh) hB hno, fun p hp => (List.mem_cons.1 (gins_perm.mem_iff.1 hp)).symm, by rw [gins_len]; omega⟩)
            | (rw [hadd]
               have han : ps.any (ltc tcmp (w, t.fresh)) = true := by rw [Bool.not_eq_false'] at h6; exact h6
               have e0 : gpre (ltc tcmp) (w, t.fresh) ps = gins (ltc tcmp) (w, t.fresh) ps := by unfold gpre; rw [han]; rfl
               rw [e0] at hO4
               exact ⟨_, rfl, rfl, tins (w, t.fresh) ps, ⟨vo, To, rfl, hO4, by rw [gins_len]; omega⟩, BothT.add (t := t.fresh) hB hno, fun p hp => (List.mem_cons.1 (gins_perm.mem_iff.1 hp)).symm, by rw [gins_len]; omega⟩)
        · skip
          have hrt : rightB t last = true := by
            have a1 : t.kind = 1 ∨ t.kind = 2 := by
              first
                | (have a1 : (t.kind != 1) = false := g1_3
                   simp at a1; exact .inl a1)
                | (have a1 : (t.kind != 2) = false := g1_8
                   simp at a1; exact .inr a1)
            have a2 := of_decide_eq_false g1_13
            have a3 := of_decide_eq_false h1
            simp only at a2 a3
            unfold rightB
            rw [decide_eq_true (p := 1 ≤ t.family) (by omega), decide_eq_true (p := t.family ≤ last) (by omega)]
            rcases a1 with a1 | a1 <;> simp [a1]
          refine .skip ?_
          exact joinQ_n () hrt (((EnvLe.nil _).cons rfl).cons rfl) (HLe.refl _)
      · intro x hx
        have hrt : rightB t last = true := hx
        refine seqQ_n ?_
        refine .seq ?_
        refine .seq ?_
        refine .region ?_
        refine TriOps.q .move ?_
        refine TriOps.q (.fieldAddr rfl) ?_
        refine TriOps.q (.load1 rfl) ?_
        refine TriOps.callR (rtfind_spec xp vt last ps t.text _ hO.rx (fun p hp => (hc p hp).mono fun b o hb => .inl hb)) (fun u hu => ?_)
        obtain ⟨z, rfl, hz⟩ := hu
        refine TriOps.q .geq ?_
        refine .nil ?_
        refine seqQ_n ?_
        refine .cond rfl (fun h2 => ?_) (fun h2 => ?_)
        · skip
          refine .seq ?_
          refine .region ?_
          refine TriOps.q .assign ?_
          refine .nil ?_
          refine seqQ_n ?_
          refine .ret (seqQ_r (retQ_r _ (.one (.tmp rfl)) (by first | (refine (HLe.pick [1, 1] _).trans (HLe.ofPerm (H' := [(xp, .cells [vt, .int .i64 last].toArray 49 (0, 0)) :: Tt]) ?_); simp [take, dropAt] <;> fail) | (refine (HLe.pick [1, 2] _).trans (HLe.ofPerm (H' := [(xp, .cells [vo, .int .i64 last].toArray 49 (0, 0)) :: To]) ?_); simp [take, dropAt, setL] <;> fail) | (refine (HLe.pick [2, 2] _).trans (HLe.ofPerm (H' := [(xp, .cells [vo, .int .i64 last].toArray 49 (0, 0)) :: To]) ?_); simp [take, dropAt, setL] <;> fail) | (refine (HLe.pick [1, 2] _).trans (HLe.ofPerm (H' := [(xp, .cells [v5, .int .i64 last].toArray 49 (0, 0)) :: T5]) ?_); simp [take, dropAt, setL] <;> fail) | (refine (HLe.pick [2, 3] _).trans (HLe.ofPerm (H' := [(xp, .cells [v5, .int .i64 last].toArray 49 (0, 0)) :: T5]) ?_); simp [take, dropAt, setL] <;> fail)) ?_))
          skip
          first
            | (rw [tput_bad hrt]
               exact ⟨_, rfl, rfl, ps, h0, hB, fun p hp => .inl hp, by omega⟩)
            | (obtain ⟨i, w9, t9, _, _, _, hg⟩ := hz.pos (by have := of_decide_eq_true h2; omega)
               rw [hB.get] at hg
               rw [tput_there hrt hg]
               exact ⟨_, rfl, rfl, ps, h0, hB, fun p hp => .inl hp, by omega⟩)
            | (have h9 := of_decide_eq_true h3
               exfalso; omega)
            | (rw [hadd]
               have han : ps.any (ltc tcmp (w, t.fresh)) = false := by rw [Bool.not_eq_true'] at h6; exact h6
               have e0 : gpre (ltc tcmp) (w, t.fresh) ps = ps := by unfold gpre; rw [han]; rfl
               rw [e0, ← gins_end han] at hO5
               exact ⟨_, rfl, rfl, tins (w, t.fresh) ps, ⟨v5, T5, rfl, hO5, by rw [gins_len]; omega⟩, BothT.add (t := t.fresh) hB hno, fun p hp => (List.mem_cons.1 (gins_perm.mem_iff.1 hp)).symm, by rw [gins_len]; omega⟩)
            | (rw [hadd]
               have han : ps.any (ltc tcmp (w, t.fresh)) = true := by rw [Bool.not_eq_false'] at h6; exact h6
               have e0 : gpre (ltc tcmp) (w, t.fresh) ps = gins (ltc tcmp) (w, t.fresh) ps := by unfold gpre; rw [han]; rfl
               rw [e0] at hO4
               exact ⟨_, rfl, rfl, tins (w, t.fresh) ps, ⟨vo, To, rfl, hO4, by rw [gins_len]; omega⟩, BothT.add (t := t.fresh) hB hno, fun p hp => (List.mem_cons.1 (gins_perm.mem_iff.1 hp)).symm, by rw [gins_len]; omega⟩)
        · skip
          have hno : mget t.text A = none := by rw [← hB.get]; exact hz.neg (by have := of_decide_eq_false h2; omega)
          refine .skip ?_
          refine seqQ_n ?_
          refine .seq ?_
          refine .seq ?_
          refine .region ?_
          refine TriOps.q .move ?_
          refine TriOps.q (.nilCheck rfl) ?_
          refine TriOps.q (.fieldAddr rfl) ?_
          refine TriOps.q (.load1 rfl) ?_
          refine TriOps.q (.lenO hO) ?_
          refine TriOps.q .geq ?_
          refine .nil ?_
          refine seqQ_n ?_
          refine .cond rfl (fun h3 => ?_) (fun h3 => ?_)
          · skip
            refine .seq ?_
            refine .region ?_
            refine TriOps.q .assign ?_
            refine .nil ?_
            refine seqQ_n ?_
            refine .ret (seqQ_r (retQ_r _ (.one (.tmp rfl)) (by first | (refine (HLe.pick [1, 1] _).trans (HLe.ofPerm (H' := [(xp, .cells [vt, .int .i64 last].toArray 49 (0, 0)) :: Tt]) ?_); simp [take, dropAt] <;> fail) | (refine (HLe.pick [1, 2] _).trans (HLe.ofPerm (H' := [(xp, .cells [vo, .int .i64 last].toArray 49 (0, 0)) :: To]) ?_); simp [take, dropAt, setL] <;> fail) | (refine (HLe.pick [2, 2] _).trans (HLe.ofPerm (H' := [(xp, .cells [vo, .int .i64 last].toArray 49 (0, 0)) :: To]) ?_); simp [take, dropAt, setL] <;> fail) | (refine (HLe.pick [1, 2] _).trans (HLe.ofPerm (H' := [(xp, .cells [v5, .int .i64 last].toArray 49 (0, 0)) :: T5]) ?_); simp [take, dropAt, setL] <;> fail) | (refine (HLe.pick [2, 3] _).trans (HLe.ofPerm (H' := [(xp, .cells [v5, .int .i64 last].toArray 49 (0, 0)) :: T5]) ?_); simp [take, dropAt, setL] <;> fail)) ?_))
            skip
            first
              | (rw [tput_bad hrt]
                 exact ⟨_, rfl, rfl, ps, h0, hB, fun p hp => .inl hp, by omega⟩)
              | (obtain ⟨i, w9, t9, _, _, _, hg⟩ := hz.pos (by have := of_decide_eq_true h2; omega)
                 rw [hB.get] at hg
                 rw [tput_there hrt hg]
                 exact ⟨_, rfl, rfl, ps, h0, hB, fun p hp => .inl hp, by omega⟩)
              | (have h9 := of_decide_eq_true h3
                 exfalso; omega)
              | (rw [hadd]
                 have han : ps.any (ltc tcmp (w, t.fresh)) = false := by rw [Bool.not_eq_true'] at h6; exact h6
                 have e0 : gpre (ltc tcmp) (w, t.fresh) ps = ps := by unfold gpre; rw [han]; rfl
                 rw [e0, ← gins_end han] at hO5
                 exact ⟨_, rfl, rfl, tins (w, t.fresh) ps, ⟨v5, T5, rfl, hO5, by rw [gins_len]; omega⟩, BothT.add (t := t.fresh) hB hno, fun p hp => (List.mem_cons.1 (gins_perm.mem_iff.1 hp)).symm, by rw [gins_len]; omega⟩)
              | (rw [hadd]
                 have han : ps.any (ltc tcmp (w, t.fresh)) = true := by rw [Bool.not_eq_false'] at h6; exact h6
                 have e0 : gpre (ltc tcmp) (w, t.fresh) ps = gins (ltc tcmp) (w, t.fresh) ps := by unfold gpre; rw [han]; rfl
                 rw [e0] at hO4
                 exact ⟨_, rfl, rfl, tins (w, t.fresh) ps, ⟨vo, To, rfl, hO4, by rw [gins_len]; omega⟩, BothT.add (t := t.fresh) hB hno, fun p hp => (List.mem_cons.1 (gins_perm.mem_iff.1 hp)).symm, by rw [gins_len]; omega⟩)
          · skip
            have hlt9 : ps.length < 4096 := by have := of_decide_eq_false h3; omega
            have hadd := tput_ok hrt hno (by omega)
            refine .skip ?_
            refine seqQ_n ?_
            refine .seq ?_
            refine .region ?_
            refine TriOps.q (.fieldAddr rfl) ?_
            refine TriOps.store1 rfl rfl ?_
            refine .nil ?_
            refine seqQ_n ?_
            refine .seq ?_
            refine .region ?_
            refine TriOps.q .assign ?_
            refine .nil ?_
            refine seqQ_n ?_
            refine .seq ?_
            refine .region ?_
            refine TriOps.q .assign ?_
            refine .nil ?_
            refine seqQ_n ?_
            refine .seq ?_
            refine .seq ?_
            refine .region ?_
            refine TriOps.q .assign ?_
            refine .nil ?_
            refine seqQ_n ?_
            refine .block ?_
            refine .loop (X := Nat × Value × Seg) (fun y => y.1 ≤ ps.length ∧ OS 26 9 encT y.2.1 (gpre (ltc tcmp) (w, t.fresh) (ps.take y.1)) y.2.2) (fun y => [(0, .pointer (some ⟨xp, 0, none⟩)), (3, .pointer (some ⟨b3, 0, none⟩)), (5, y.2.1), (6, .bool ((ps.take y.1).any (ltc tcmp (w, t.fresh)))), (7, .int .i64 (y.1 : Nat))]) (fun y => [[(b3, .cells (encT (w, t.fresh)).toArray 26 (0, 0))], [(xp, .cells [vt, .int .i64 last].toArray 49 (0, 0))], Tt, y.2.2]) (fun y => ps.length - y.1) (0, .slice none 0 0, []) ⟨Nat.zero_le _, OS.nil⟩ ((((((EnvLe.nil _).cons rfl).cons rfl).cons rfl).cons rfl).cons rfl) (HLe.refl _) ?_
            rintro ⟨k, vo, To⟩ ⟨hk, hO4⟩
            simp only at hk hO4 ⊢
            have i4 := hO4.oneCell
            have hle4 := gpre_len (lt := ltc tcmp) (p := ((w, t.fresh) : TP)) (X := ps.take k)
            rw [List.length_take, Nat.min_eq_left hk] at hle4
            refine .seq ?_
            refine .seq ?_
            refine .region ?_
            refine TriOps.q .move ?_
            refine TriOps.q .move ?_
            refine TriOps.q (.nilCheck rfl) ?_
            refine TriOps.q (.fieldAddr rfl) ?_
            refine TriOps.q (.load1 rfl) ?_
            refine TriOps.q (.lenO hO) ?_
            refine TriOps.q .lss ?_
            refine .nil ?_
            refine seqQ_n ?_
            refine .cond rfl (fun h4 => ?_) (fun h4 => ?_)
            · skip
              have hk2 : k < ps.length := by have := of_decide_eq_true h4; omega
              obtain ⟨⟨wy, ty⟩, hx⟩ : ∃ y, ps[k]? = some y := ⟨_, List.getElem?_eq_getElem hk2⟩
              have cx := hc _ (List.mem_of_getElem? hx)
              have ix : Ones (encT (wy, ty)) := ⟨cx.ones⟩
              have e4 := gmid_next (lt := ltc tcmp) (p := ((w, t.fresh) : TP)) hx
              refine .skip ?_
              refine seqQ_n ?_
              refine .seq ?_
              refine .block ?_
              refine .seq ?_
              refine Tri.cut (X := Value × Seg) (fun z => OS 26 9 encT z.1 (gmid (ltc tcmp) (w, t.fresh) (ps.take k) (wy, ty)) z.2) (fun z => [(0, .pointer (some ⟨xp, 0, none⟩)), (3, .pointer (some ⟨b3, 0, none⟩)), (5, z.1), (6, .bool ((ps.take (k + 1)).any (ltc tcmp (w, t.fresh)))), (7, .int .i64 (k : Nat))]) (fun z => [[(b3, .cells (encT (w, t.fresh)).toArray 26 (0, 0))], [(xp, .cells [vt, .int .i64 last].toArray 49 (0, 0))], Tt, z.2]) ?_ ?_
              · refine .seq ?_
                refine .region_still mixed (by kernel_rfl) ?_
                refine TriOps.q .move ?_
                refine TriOps.q .not ?_
                refine TriOps.q .move ?_
                refine TriOps.split (t := 53) rfl (fun g13_2 => ?_) (fun g13_2 => ?_)
                · skip
                  refine TriOps.gT g13_2 ?_
                  refine TriOps.q (.fieldAddr rfl) ?_
                  refine TriOps.gT g13_2 ?_
                  refine TriOps.q (.load1 rfl) ?_
                  refine TriOps.gT g13_2 ?_
                  refine TriOps.q .move ?_
                  refine TriOps.gT g13_2 ?_
                  refine TriOps.q (.nilCheck rfl) ?_
                  refine TriOps.gT g13_2 ?_
                  refine TriOps.q (.fieldAddr rfl) ?_
                  refine TriOps.gT g13_2 ?_
                  refine TriOps.q (.load1 rfl) ?_
                  refine TriOps.gT g13_2 ?_
                  refine TriOps.q .move ?_
                  refine TriOps.gT g13_2 ?_
                  refine TriOps.indexO k hO hx (fun p61 => ?_)
                  refine TriOps.gT g13_2 ?_
                  refine TriOps.q (.fieldAddr rfl) ?_
                  refine TriOps.gT g13_2 ?_
                  refine TriOps.q (.load1 rfl) ?_
                  refine TriOps.gT g13_2 ?_
                  refine TriOps.q .ltS ?_
                  refine TriOps.q (.pickTh g13_2) ?_
                  refine .nil ?_
                  refine seqQ_n ?_
                  refine .cond rfl (fun h5 => ?_) (fun h5 => ?_)
                  · skip
                    first | have hput := gmid_put hx g13_2 ((ltc_tcmp (w, t.fresh) (wy, ty)).trans h5) | skip
                    refine .seq ?_
                    refine .region ?_
                    refine TriOps.q .move ?_
                    refine TriOps.q (.loadA rfl) ?_
                    refine TriOps.buildSlice1A (fun b68 => ?_)
                    refine TriOps.append hO4 (RS.lits (xs := [((w, t.fresh) : TP)]) rfl (by simp [encT]) (by have := ir2.h; simpa using this)) (by simp; omega) (fun v5 T5 hO5 => ?_)
                    refine TriOps.q .assign ?_
                    refine .nil ?_
                    refine seqQ_n ?_
                    refine .region ?_
                    refine TriOps.q .assign ?_
                    refine .nil ?_
                    first
                      | (obtain ⟨hm, hA⟩ := hput
                         exact joinQ_n (v5, T5) (by simp only; rw [hm]; exact hO5) (by simp only; rw [hA]; exact (((((EnvLe.nil _).cons rfl).cons rfl).cons rfl).cons rfl).cons rfl) (HLe.pick [1, 1, 1, 1] _))
                      | (obtain ⟨hm, hA⟩ := hnot
                         exact joinQ_n (vo, To) (by simp only; rw [hm]; simpa using hO4) (by simp only; rw [hA]; exact (((((EnvLe.nil _).cons rfl).cons rfl).cons rfl).cons rfl).cons rfl) (HLe.refl _))
                  · skip
                    first | have hnot := gmid_not (p := ((w, t.fresh) : TP)) hx (.inr ((ltc_tcmp (w, t.fresh) (wy, ty)).trans h5)) | skip
                    refine .skip ?_
                    first
                      | (obtain ⟨hm, hA⟩ := hput
                         exact joinQ_n (v5, T5) (by simp only; rw [hm]; exact hO5) (by simp only; rw [hA]; exact (((((EnvLe.nil _).cons rfl).cons rfl).cons rfl).cons rfl).cons rfl) (HLe.pick [1, 1, 1, 1] _))
                      | (obtain ⟨hm, hA⟩ := hnot
                         exact joinQ_n (vo, To) (by simp only; rw [hm]; simpa using hO4) (by simp only; rw [hA]; exact (((((EnvLe.nil _).cons rfl).cons rfl).cons rfl).cons rfl).cons rfl) (HLe.refl _))
                · skip
                  have hnot := gmid_not (p := ((w, t.fresh) : TP)) hx (.inl g13_2)
                  refine TriOps.gF g13_2 ?_
                  refine TriOps.gF g13_2 ?_
                  refine TriOps.gF g13_2 ?_
                  refine TriOps.gF g13_2 ?_
                  refine TriOps.gF g13_2 ?_
                  refine TriOps.gF g13_2 ?_
                  refine TriOps.gF g13_2 ?_
                  refine TriOps.gF g13_2 ?_
                  refine TriOps.gF g13_2 ?_
                  refine TriOps.gF g13_2 ?_
                  refine TriOps.gF g13_2 ?_
                  refine TriOps.q (.pickFh g13_2) ?_
                  refine .nil ?_
                  refine seqQ_n ?_
                  refine .condF ?_
                  first | have hnot := gmid_not (p := ((w, t.fresh) : TP)) hx (.inr ((ltc_tcmp (w, t.fresh) (wy, ty)).trans h5)) | skip
                  refine .skip ?_
                  first
                    | (obtain ⟨hm, hA⟩ := hput
                       exact joinQ_n (v5, T5) (by simp only; rw [hm]; exact hO5) (by simp only; rw [hA]; exact (((((EnvLe.nil _).cons rfl).cons rfl).cons rfl).cons rfl).cons rfl) (HLe.pick [1, 1, 1, 1] _))
                    | (obtain ⟨hm, hA⟩ := hnot
                       exact joinQ_n (vo, To) (by simp only; rw [hm]; simpa using hO4) (by simp only; rw [hA]; exact (((((EnvLe.nil _).cons rfl).cons rfl).cons rfl).cons rfl).cons rfl) (HLe.refl _))
              · intro y hy
                obtain ⟨vm, Tm⟩ := y
                have hO6 : OS 26 9 encT vm (gmid (ltc tcmp) (w, t.fresh) (ps.take k) (wy, ty)) Tm := hy
                have i6 := hO6.oneCell
                simp only
                refine seqQ_n ?_
                refine .region ?_
                refine TriOps.q .move ?_
                refine TriOps.q .move ?_
                refine TriOps.q (.nilCheck rfl) ?_
                refine TriOps.q (.fieldAddr rfl) ?_
                refine TriOps.q (.load1 rfl) ?_
                refine TriOps.q .move ?_
                refine TriOps.indexO k hO hx (fun p76 => ?_)
                refine TriOps.q (.loadA rfl) ?_
                refine TriOps.buildSlice1A (fun b78 => ?_)
                refine TriOps.append hO6 (RS.lits (xs := [((wy, ty) : TP)]) rfl (by simp [encT]) (by have := cx.ones; simpa using this)) (by have := gpre_len (lt := ltc tcmp) (p := ((w, t.fresh) : TP)) (X := ps.take (k + 1)); rw [← e4] at this; simp at this ⊢; omega) (fun v7 T7 hO7 => ?_)
                rw [e4] at hO7
                refine TriOps.q .assign ?_
                refine .nil ?_
                refine blkQ_n (seqQ_n ?_)
                refine .region ?_
                refine TriOps.q .move ?_
                refine TriOps.q (.i64 ((k + 1 : Nat) : Int) .add ⟨by omega, by omega, by omega⟩) ?_
                refine TriOps.q .assign ?_
                refine .nil ?_
                exact loopQ_i (k + 1, v7, T7) ⟨hk2, hO7⟩ (by simp only; omega) ((((((EnvLe.nil _).cons rfl).cons rfl).cons rfl).cons rfl).cons rfl) (HLe.pick [1, 1, 1, 1] _)
            · skip
              have hk3 : k = ps.length := by have := of_decide_eq_false h4; omega
              subst hk3
              rw [List.take_length] at hO4 hle4 ⊢
              refine .exit (seqQ_x (loopQ_x (blkQ_x ?_)))
              refine seqQ_n ?_
              refine .seq ?_
              refine .seq ?_
              refine .region ?_
              refine TriOps.q .move ?_
              refine TriOps.q .not ?_
              refine .nil ?_
              refine seqQ_n ?_
              refine .cond rfl (fun h6 => ?_) (fun h6 => ?_)
              · skip
                refine .region ?_
                refine TriOps.q .move ?_
                refine TriOps.q (.loadA rfl) ?_
                refine TriOps.buildSlice1A (fun b84 => ?_)
                refine TriOps.append hO4 (RS.lits (xs := [((w, t.fresh) : TP)]) rfl (by simp [encT]) (by have := ir2.h; simpa using this)) (by simp; omega) (fun v5 T5 hO5 => ?_)
                have i5 := hO5.oneCell
                refine TriOps.q .assign ?_
                refine .nil ?_
                refine seqQ_n ?_
                refine .seq ?_
                refine .region ?_
                refine TriOps.q .move ?_
                refine TriOps.q .move ?_
                refine TriOps.q (.nilCheck rfl) ?_
                refine TriOps.q (.fieldAddr rfl) ?_
                refine TriOps.store1 rfl rfl ?_
                refine .nil ?_
                refine seqQ_n ?_
                refine .seq ?_
                refine .region ?_
                refine TriOps.q .assign ?_
                refine .nil ?_
                refine seqQ_n ?_
                refine .ret (retQ_r _ (.one (.tmp rfl)) (by first | (refine (HLe.pick [1, 1] _).trans (HLe.ofPerm (H' := [(xp, .cells [vt, .int .i64 last].toArray 49 (0, 0)) :: Tt]) ?_); simp [take, dropAt] <;> fail) | (refine (HLe.pick [1, 2] _).trans (HLe.ofPerm (H' := [(xp, .cells [vo, .int .i64 last].toArray 49 (0, 0)) :: To]) ?_); simp [take, dropAt, setL] <;> fail) | (refine (HLe.pick [2, 2] _).trans (HLe.ofPerm (H' := [(xp, .cells [vo, .int .i64 last].toArray 49 (0, 0)) :: To]) ?_); simp [take, dropAt, setL] <;> fail) | (refine (HLe.pick [1, 2] _).trans (HLe.ofPerm (H' := [(xp, .cells [v5, .int .i64 last].toArray 49 (0, 0)) :: T5]) ?_); simp [take, dropAt, setL] <;> fail) | (refine (HLe.pick [2, 3] _).trans (HLe.ofPerm (H' := [(xp, .cells [v5, .int .i64 last].toArray 49 (0, 0)) :: T5]) ?_); simp [take, dropAt, setL] <;> fail)) ?_)
                skip
                first
                  | (rw [tput_bad hrt]
                     exact ⟨_, rfl, rfl, ps, h0, hB, fun p hp => .inl hp, by omega⟩)
                  | (obtain ⟨i, w9, t9, _, _, _, hg⟩ := hz.pos (by have := of_decide_eq_true h2; omega)
                     rw [hB.get] at hg
                     rw [tput_there hrt hg]
                     exact ⟨_, rfl, rfl, ps, h0, hB, fun p hp => .inl hp, by omega⟩)
                  | (have h9 := of_decide_eq_true h3
                     exfalso; omega)
                  | (rw [hadd]
                     have han : ps.any (ltc tcmp (w, t.fresh)) = false := by rw [Bool.not_eq_true'] at h6; exact h6
                     have e0 : gpre (ltc tcmp) (w, t.fresh) ps = ps := by unfold gpre; rw [han]; rfl
                     rw [e0, ← gins_end han] at hO5
                     exact ⟨_, rfl, rfl, tins (w, t.fresh) ps, ⟨v5, T5, rfl, hO5, by rw [gins_len]; omega⟩, BothT.add (t := t.fresh) hB hno, fun p hp => (List.mem_cons.1 (gins_perm.mem_iff.1 hp)).symm, by rw [gins_len]; omega⟩)
                  | (rw [hadd]
                     have han : ps.any (ltc tcmp (w, t.fresh)) = true := by rw [Bool.not_eq_false'] at h6; exact h6
                     have e0 : gpre (ltc tcmp) (w, t.fresh) ps = gins (ltc tcmp) (w, t.fresh) ps := by unfold gpre; rw [han]; rfl
                     rw [e0] at hO4
                     exact ⟨_, rfl, rfl, tins (w, t.fresh) ps, ⟨vo, To, rfl, hO4, by rw [gins_len]; omega⟩, BothT.add (t := t.fresh) hB hno, fun p hp => (List.mem_cons.1 (gins_perm.mem_iff.1 hp)).symm, by rw [gins_len]; omega⟩)
              · skip
                refine .skip ?_
                refine seqQ_n ?_
                refine .seq ?_
                refine .region ?_
                refine TriOps.q .move ?_
                refine TriOps.q .move ?_
                refine TriOps.q (.nilCheck rfl) ?_
                refine TriOps.q (.fieldAddr rfl) ?_
                refine TriOps.store1 rfl rfl ?_
                refine .nil ?_
                refine seqQ_n ?_
                refine .seq ?_
                refine .region ?_
                refine TriOps.q .assign ?_
                refine .nil ?_
                refine seqQ_n ?_
                refine .ret (retQ_r _ (.one (.tmp rfl)) (by first | (refine (HLe.pick [1, 1] _).trans (HLe.ofPerm (H' := [(xp, .cells [vt, .int .i64 last].toArray 49 (0, 0)) :: Tt]) ?_); simp [take, dropAt] <;> fail) | (refine (HLe.pick [1, 2] _).trans (HLe.ofPerm (H' := [(xp, .cells [vo, .int .i64 last].toArray 49 (0, 0)) :: To]) ?_); simp [take, dropAt, setL] <;> fail) | (refine (HLe.pick [2, 2] _).trans (HLe.ofPerm (H' := [(xp, .cells [vo, .int .i64 last].toArray 49 (0, 0)) :: To]) ?_); simp [take, dropAt, setL] <;> fail) | (refine (HLe.pick [1, 2] _).trans (HLe.ofPerm (H' := [(xp, .cells [v5, .int .i64 last].toArray 49 (0, 0)) :: T5]) ?_); simp [take, dropAt, setL] <;> fail) | (refine (HLe.pick [2, 3] _).trans (HLe.ofPerm (H' := [(xp, .cells [v5, .int .i64 last].toArray 49 (0, 0)) :: T5]) ?_); simp [take, dropAt, setL] <;> fail)) ?_)
                skip
                first
                  | (rw [tput_bad hrt]
                     exact ⟨_, rfl, rfl, ps, h0, hB, fun p hp => .inl hp, by omega⟩)
                  | (obtain ⟨i, w9, t9, _, _, _, hg⟩ := hz.pos (by have := of_decide_eq_true h2; omega)
                     rw [hB.get] at hg
                     rw [tput_there hrt hg]
                     exact ⟨_, rfl, rfl, ps, h0, hB, fun p hp => .inl hp, by omega⟩)
                  | (have h9 := of_decide_eq_true h3
                     exfalso; omega)
                  | (rw [hadd]
                     have han : ps.any (ltc tcmp (w, t.fresh)) = false := by rw [Bool.not_eq_true'] at h6; exact h6
                     have e0 : gpre (ltc tcmp) (w, t.fresh) ps = ps := by unfold gpre; rw [han]; rfl
                     rw [e0, ← gins_end han] at hO5
                     exact ⟨_, rfl, rfl, tins (w, t.fresh) ps, ⟨v5, T5, rfl, hO5, by rw [gins_len]; omega⟩, BothT.add (t := t.fresh) hB hno, fun p hp => (List.mem_cons.1 (gins_perm.mem_iff.1 hp)).symm, by rw [gins_len]; omega⟩)
                  | (rw [hadd]
                     have han : ps.any (ltc tcmp (w, t.fresh)) = true := by rw [Bool.not_eq_false'] at h6; exact h6
                     have e0 : gpre (ltc tcmp) (w, t.fresh) ps = gins (ltc tcmp) (w, t.fresh) ps := by unfold gpre; rw [han]; rfl
                     rw [e0] at hO4
                     exact ⟨_, rfl, rfl, tins (w, t.fresh) ps, ⟨vo, To, rfl, hO4, by rw [gins_len]; omega⟩, BothT.add (t := t.fresh) hB hno, fun p hp => (List.mem_cons.1 (gins_perm.mem_iff.1 hp)).symm, by rw [gins_len]; omega⟩)
theorem FindT.at {A : List (ByteArray × Tok)} {ps : List TP} (hB : BothT A ps) {k : ByteArray} {z : Int} (h : FindT k ps z) (h0 : ¬ z < 0) : ∃ (i : Nat) (w : Value) (t : Tok), z = (i : Int) ∧ ps[i]? = some (w, t) ∧ t.text = k ∧ mget k A = some t := by
  obtain ⟨i, w, t, h1, h2, h3, h4⟩ := h.pos h0
  rw [hB.get] at h4
  exact ⟨i, w, t, h1, h2, h3, h4⟩
theorem rrotate_spec (x : Nat) (ps : List TP) (last : Int) (T : Seg) (h : RTV x ps last T) (A : List (ByteArray × Tok)) (hB : BothT A ps) (k client : ByteArray) (now : Int) (R : Rds) (hc : ∀ p ∈ ps, TokR R p) :
    Spec Try.prog 24 [.pointer (some ⟨x, 0, none⟩), .string k, .string client, .int .i64 now] R [T] fun u H' => ∃ T', H' = [T'] ∧ ∃ w ps', u = .tuple [.agg (encT (w, (trot A k client now).1)).toArray, .int .i64 (trot A k client now).2.1].toArray ∧ TokR R (w, (trot A k client now).1) ∧ RTV x ps' last T' ∧ BothT (trot A k client now).2.2 ps' ∧ (∀ p ∈ ps', TokR R p) ∧ ps'.length ≤ ps.length := by
  have h0 := h
  obtain ⟨vt, Tt, hT, hO, hl⟩ := h
  have i1 := hO.oneCell
  have px : PS T (.pointer (some ⟨x, 0, none⟩)) [vt, .int .i64 last] := PS.of (E := 49) (fr := (0, 0)) (by rw [hT]; simp)
  have hs : RS (sg T) 9 encT vt ps := hO.rs fun p hp => by rw [hT]; simp [sg, hp]
  refine Spec.body Try.func24 rfl Try.results24 Try.ntmps24 rfl ?_
  refine .seq ?_
  refine .region ?_
  refine TriOps.allocA (fun b8 => ?_)
  refine TriOps.q .assign ?_
  refine .nil ?_
  refine seqQ_n ?_
  refine .seq ?_
  refine .region ?_
  refine TriOps.q .move ?_
  refine TriOps.q .move ?_
  refine TriOps.callR (rtfind_spec x vt last ps k _ (hs.mono fun b o hb => .inr (by have hb' : (b, o) ∈ T := hb; simp [hb'])) (fun p hp => (hc p hp).mono fun b o hb => .inl hb)) (fun u hu => ?_)
  obtain ⟨z, rfl, hz⟩ := hu
  refine TriOps.q .assign ?_
  refine .nil ?_
  refine seqQ_n ?_
  refine .seq ?_
  refine .seq ?_
  refine .region ?_
  refine TriOps.q .move ?_
  refine TriOps.q .lss ?_
  refine TriOps.q .move ?_
  refine TriOps.split (t := 17) rfl (fun g2_2 => ?_) (fun g2_2 => ?_)
  · skip
    refine TriOps.gF g2_2 ?_
    refine TriOps.gF g2_2 ?_
    refine TriOps.gF g2_2 ?_
    refine TriOps.gF g2_2 ?_
    refine TriOps.gF g2_2 ?_
    refine TriOps.gF g2_2 ?_
    refine TriOps.gF g2_2 ?_
    refine TriOps.gF g2_2 ?_
    refine TriOps.gF g2_2 ?_
    refine TriOps.q (.pickTh g2_2) ?_
    refine TriOps.q .move ?_
    refine TriOps.gf rfl rfl ?_
    refine TriOps.gf rfl rfl ?_
    refine TriOps.gf rfl rfl ?_
    refine TriOps.gf rfl rfl ?_
    refine TriOps.gf rfl rfl ?_
    refine TriOps.gf rfl rfl ?_
    refine TriOps.gf rfl rfl ?_
    refine TriOps.gf rfl rfl ?_
    refine TriOps.gf rfl rfl ?_
    refine TriOps.gf rfl rfl ?_
    refine TriOps.q .pickT ?_
    refine .nil ?_
    refine seqQ_n ?_
    refine .condT ?_
    refine .seq ?_
    refine .region ?_
    refine TriOps.q .bld ?_
    refine TriOps.storeA rfl rfl ?_
    refine TriOps.q .assign ?_
    refine .nil ?_
    refine seqQ_n ?_
    refine .ret (seqQ_r (retQ_r _ (.two (.cellA rfl rfl) (.tmp rfl)) ((HLe.pick [1] _)) ?_))
    have hm : mget k A = none := by rw [← hB.get]; exact hz.neg (of_decide_eq_true g2_2)
    have e : trot A k client now = (Tok.zero, 18, A) := by unfold trot; rw [hm]
    rw [e]; exact ⟨_, rfl, .slice none 0 0, ps, rfl, TokR.zero _, h0, hB, hc, Nat.le_refl _⟩
  · skip
    obtain ⟨i, w, t, rfl, hi, hk, hm⟩ := hz.at hB (of_decide_eq_false g2_2)
    have ci := hc _ (List.mem_of_getElem? hi)
    have ii : Ones (encT (w, t)) := ⟨ci.ones⟩
    have pi : PS T (baseP vt (i * 9)) (encT (w, t)) := ⟨hs.pc hi⟩
    refine TriOps.gT g2_2 ?_
    refine TriOps.q .move ?_
    refine TriOps.gT g2_2 ?_
    refine TriOps.q (.nilCheck rfl) ?_
    refine TriOps.gT g2_2 ?_
    refine TriOps.q (.fieldAddr rfl) ?_
    refine TriOps.gT g2_2 ?_
    refine TriOps.q (.load1 rfl) ?_
    refine TriOps.gT g2_2 ?_
    refine TriOps.q .move ?_
    refine TriOps.gT g2_2 ?_
    refine TriOps.q (.indexR i hs hi rfl rfl rfl) ?_
    refine TriOps.gT g2_2 ?_
    refine TriOps.q (.fieldAddr rfl) ?_
    refine TriOps.gT g2_2 ?_
    refine TriOps.q (.load1 rfl) ?_
    refine TriOps.gT g2_2 ?_
    refine TriOps.q .neI ?_
    refine TriOps.q (.pickFh g2_2) ?_
    refine TriOps.q .move ?_
    refine TriOps.split (t := 28) rfl (fun g2_13 => ?_) (fun g2_13 => ?_)
    · skip
      refine TriOps.gF g2_13 ?_
      refine TriOps.gF g2_13 ?_
      refine TriOps.gF g2_13 ?_
      refine TriOps.gF g2_13 ?_
      refine TriOps.gF g2_13 ?_
      refine TriOps.gF g2_13 ?_
      refine TriOps.gF g2_13 ?_
      refine TriOps.gF g2_13 ?_
      refine TriOps.gF g2_13 ?_
      refine TriOps.gF g2_13 ?_
      refine TriOps.q (.pickTh g2_13) ?_
      refine .nil ?_
      refine seqQ_n ?_
      refine .condT ?_
      refine .seq ?_
      refine .region ?_
      refine TriOps.q .bld ?_
      refine TriOps.storeA rfl rfl ?_
      refine TriOps.q .assign ?_
      refine .nil ?_
      refine seqQ_n ?_
      refine .ret (seqQ_r (retQ_r _ (.two (.cellA rfl rfl) (.tmp rfl)) ((HLe.pick [1] _)) ?_))
      have e : trot A k client now = (Tok.zero, 18, A) := by unfold trot; rw [hm]; simp only; rw [if_pos (.inl (by simpa using g2_13))]
      rw [e]; exact ⟨_, rfl, .slice none 0 0, ps, rfl, TokR.zero _, h0, hB, hc, Nat.le_refl _⟩
    · skip
      refine TriOps.gT g2_13 ?_
      refine TriOps.q .move ?_
      refine TriOps.gT g2_13 ?_
      refine TriOps.q (.nilCheck rfl) ?_
      refine TriOps.gT g2_13 ?_
      refine TriOps.q (.fieldAddr rfl) ?_
      refine TriOps.gT g2_13 ?_
      refine TriOps.q (.load1 rfl) ?_
      refine TriOps.gT g2_13 ?_
      refine TriOps.q .move ?_
      refine TriOps.gT g2_13 ?_
      refine TriOps.q (.indexR i hs hi rfl rfl rfl) ?_
      refine TriOps.gT g2_13 ?_
      refine TriOps.q (.fieldAddr rfl) ?_
      refine TriOps.gT g2_13 ?_
      refine TriOps.q (.load1 rfl) ?_
      refine TriOps.gT g2_13 ?_
      refine TriOps.q .move ?_
      refine TriOps.gT g2_13 ?_
      refine TriOps.q .neS ?_
      refine TriOps.q (.pickFh g2_13) ?_
      refine .nil ?_
      refine seqQ_n ?_
      refine .cond rfl (fun h1 => ?_) (fun h1 => ?_)
      · skip
        refine .seq ?_
        refine .region ?_
        refine TriOps.q .bld ?_
        refine TriOps.storeA rfl rfl ?_
        refine TriOps.q .assign ?_
        refine .nil ?_
        refine seqQ_n ?_
        refine .ret (seqQ_r (retQ_r _ (.two (.cellA rfl rfl) (.tmp rfl)) ((HLe.pick [1] _)) ?_))
        have e : trot A k client now = (Tok.zero, 18, A) := by unfold trot; rw [hm]; simp only; rw [if_pos (.inr (by simpa using h1))]
        rw [e]; exact ⟨_, rfl, .slice none 0 0, ps, rfl, TokR.zero _, h0, hB, hc, Nat.le_refl _⟩
      · skip
        have hno : ¬ (t.kind ≠ 2 ∨ t.client ≠ client) := by
          have a1 : t.kind = 2 := by simpa using g2_13
          have a2 : t.client = client := by simpa using h1
          simp [a1, a2]
        refine .skip ?_
        refine seqQ_n ?_
        refine .seq ?_
        refine .region ?_
        refine TriOps.q .move ?_
        refine TriOps.q (.nilCheck rfl) ?_
        refine TriOps.q (.fieldAddr rfl) ?_
        refine TriOps.q (.load1 rfl) ?_
        refine TriOps.q .move ?_
        refine TriOps.q (.indexR i hs hi rfl rfl rfl) ?_
        refine TriOps.q (.loadA rfl) ?_
        refine TriOps.allocA (fun b11 => ?_)
        refine TriOps.storeA rfl rfl ?_
        refine .nil ?_
        refine seqQ_n ?_
        refine .seq ?_
        refine .seq ?_
        refine .region ?_
        refine TriOps.q (.fieldAddr rfl) ?_
        refine TriOps.q (.load1 rfl) ?_
        refine .nil ?_
        refine seqQ_n ?_
        refine .cond rfl (fun h2 => ?_) (fun h2 => ?_)
        · skip
          refine .seq ?_
          refine .region ?_
          refine TriOps.q .move ?_
          refine TriOps.q (.fieldAddr rfl) ?_
          refine TriOps.q (.load1 rfl) ?_
          refine TriOps.callM (rcut_spec x ps last T h0 A hB t.family _ hc) (fun u T2 hu => ?_)
          obtain ⟨rfl, hV2⟩ := hu
          refine .nil ?_
          refine seqQ_n ?_
          refine .seq ?_
          refine .region ?_
          refine TriOps.q (.loadA rfl) ?_
          refine TriOps.storeA rfl rfl ?_
          refine TriOps.q .assign ?_
          refine .nil ?_
          refine seqQ_n ?_
          refine .ret (seqQ_r (retQ_r _ (.two (.cellA rfl rfl) (.tmp rfl)) ((HLe.pick [2] _)) ?_))
          have e : trot A k client now = (t, 10, A.filter fun y => !(y.2.family == t.family)) := by unfold trot; rw [hm]; simp only; rw [if_neg hno, if_pos h2]
          rw [e]; exact ⟨_, rfl, w, _, rfl, ci, hV2, hB.filter fun u => !(u.family == t.family), fun p hp => hc p (List.mem_filter.1 hp).1, List.length_filter_le _ _⟩
        · skip
          refine .skip ?_
          refine seqQ_n ?_
          refine .seq ?_
          refine .seq ?_
          refine .region ?_
          refine TriOps.q (.fieldAddr rfl) ?_
          refine TriOps.q (.load1 rfl) ?_
          refine TriOps.q .move ?_
          refine TriOps.q .leq ?_
          refine .nil ?_
          refine seqQ_n ?_
          refine .cond rfl (fun h3 => ?_) (fun h3 => ?_)
          · skip
            refine .seq ?_
            refine .region ?_
            refine TriOps.q .bld ?_
            refine TriOps.storeA rfl rfl ?_
            refine TriOps.q .assign ?_
            refine .nil ?_
            refine seqQ_n ?_
            refine .ret (seqQ_r (retQ_r _ (.two (.cellA rfl rfl) (.tmp rfl)) ((HLe.pick [2] _)) ?_))
            have e : trot A k client now = (Tok.zero, 18, A) := by unfold trot; rw [hm]; simp only; rw [if_neg hno, if_neg (by rw [h2]; simp), if_pos (of_decide_eq_true h3)]
            rw [e]; exact ⟨_, rfl, .slice none 0 0, ps, rfl, TokR.zero _, h0, hB, hc, Nat.le_refl _⟩
          · skip
            refine .skip ?_
            refine seqQ_n ?_
            refine .seq ?_
            refine .region ?_
            refine TriOps.q (.fieldAddr rfl) ?_
            refine TriOps.store1 rfl rfl ?_
            refine .nil ?_
            refine seqQ_n ?_
            refine .seq ?_
            refine .region_tail 7 mixed (by kernel_rfl) ?_
            conv => arg 6; dsimp only [List.take]
            subst hT
            refine TriOps.sub (HLe.open_ (S := [[(x, .cells [vt, .int .i64 last].toArray 49 (0, 0))], Tt]) 2 (by simp)) ?_
            show TriOps _ _ _ _ _ _ _ [_, _, _, _] _
            refine TriOps.q .move ?_
            refine TriOps.q (.nilCheck rfl) ?_
            refine TriOps.q (.fieldAddr rfl) ?_
            refine TriOps.q (.load1 rfl) ?_
            refine TriOps.q .move ?_
            refine TriOps.q (.loadA rfl) ?_
            refine TriOps.indexO i hO hi (fun p67 => ?_)
            refine .nil ?_
            refine TriOps.storeO i hO hi ((w, t.mark) : TP) (fun Tt2 hO2 => ?_) (TokR.ones (R := R) (p := (w, t.mark)) ci)
            refine .nil ?_
            refine seqQ_n ?_
            refine .seq ?_
            refine .region ?_
            refine TriOps.q (.loadA rfl) ?_
            refine TriOps.storeA rfl rfl ?_
            refine TriOps.q .assign ?_
            refine .nil ?_
            refine seqQ_n ?_
            refine .ret (retQ_r _ (.two (.cellA rfl rfl) (.tmp rfl)) ((HLe.pick [0, 0] _).trans (HLe.ofPerm (H' := [(x, .cells [vt, .int .i64 last].toArray 49 (0, 0)) :: Tt2]) (by simp [take, dropAt]))) ?_)
            have e : trot A k client now = (t.mark, 0, kset k t.mark A) := by unfold trot; rw [hm]; simp only; rw [if_neg hno, if_neg (by rw [h2]; simp), if_neg (of_decide_eq_false h3)]
            rw [e]
            refine ⟨_, rfl, w, ps.set i (w, t.mark), rfl, ci, ⟨vt, Tt2, rfl, hO2, by simpa using hl⟩, hk ▸ hB.set hi rfl, fun p hp => ?_, by simp⟩
            rcases List.mem_or_eq_of_mem_set hp with hp | rfl
            · exact hc p hp
            · exact ci
theorem del_at {ps : List TP} {k : ByteArray} {i : Nat} {w : Value} {t : Tok} (hasc : (toks ps).Pairwise fun c d => sLt c.text d.text = true) (hi : ps[i]? = some (w, t)) (hk : t.text = k) : (ps.filter fun p => !decide (p.2.text = k)) = ps.take i ++ ps.drop (i + 1) := by
  have hn := asc_nodup (fun t : Tok => t.text) hasc
  have hlt := (List.getElem?_eq_some_iff.1 hi).1
  have e : ps = ps.take i ++ (w, t) :: ps.drop (i + 1) := by
    have h1 := List.take_append_drop i ps
    rw [List.drop_eq_getElem_cons hlt, (List.getElem?_eq_some_iff.1 hi).2] at h1
    exact h1.symm
  generalize hX : ps.take i = X at e ⊢
  generalize hY : ps.drop (i + 1) = Y at e ⊢
  rw [e] at hn ⊢
  rw [toks, List.map_map, List.map_append, List.map_cons, List.nodup_append, List.nodup_cons] at hn
  obtain ⟨_, ⟨h2, _⟩, h3⟩ := hn
  rw [List.filter_append, List.filter_cons]
  simp only [hk, decide_true, Bool.not_true, Bool.false_eq_true, if_false]
  congr 1
  · rw [List.filter_eq_self]
    intro p hp
    have : p.2.text ≠ k := fun he => h3 p.2.text (List.mem_map.2 ⟨p, hp, rfl⟩) t.text (List.mem_cons_self) (he.trans hk.symm)
    simp [this]
  · rw [List.filter_eq_self]
    intro p hp
    have : p.2.text ≠ k := fun he => h2 (List.mem_map.2 ⟨p, hp, he.trans hk.symm⟩)
    simp [this]
theorem rrevoke_spec (x : Nat) (ps : List TP) (last : Int) (T : Seg) (h : RTV x ps last T) (A : List (ByteArray × Tok)) (hB : BothT A ps) (k client : ByteArray) (R : Rds) (hc : ∀ p ∈ ps, TokR R p) :
    Spec Try.prog 27 [.pointer (some ⟨x, 0, none⟩), .string k, .string client] R [T] fun u H' => ∃ T', H' = [T'] ∧ u = .int .i64 (trev A k client).1 ∧ ∃ ps', RTV x ps' last T' ∧ BothT (trev A k client).2 ps' ∧ (∀ p ∈ ps', TokR R p) ∧ ps'.length ≤ ps.length := by
  have h0 := h
  obtain ⟨vt, Tt, hT, hO, hl⟩ := h
  have i1 := hO.oneCell
  have px : PS T (.pointer (some ⟨x, 0, none⟩)) [vt, .int .i64 last] := PS.of (E := 49) (fr := (0, 0)) (by rw [hT]; simp)
  have hs : RS (sg T) 9 encT vt ps := hO.rs fun p hp => by rw [hT]; simp [sg, hp]
  refine Spec.body Try.func27 rfl Try.results27 Try.ntmps27 rfl ?_
  refine .seq ?_
  refine .region ?_
  refine TriOps.q .assign ?_
  refine .nil ?_
  refine seqQ_n ?_
  refine .seq ?_
  refine .region ?_
  refine TriOps.q .move ?_
  refine TriOps.q .move ?_
  refine TriOps.callR (rtfind_spec x vt last ps k _ (hs.mono fun b o hb => .inr (by have hb' : (b, o) ∈ T := hb; simp [hb'])) (fun p hp => (hc p hp).mono fun b o hb => .inl hb)) (fun u hu => ?_)
  obtain ⟨z, rfl, hz⟩ := hu
  refine TriOps.q .assign ?_
  refine .nil ?_
  refine seqQ_n ?_
  refine .seq ?_
  refine .seq ?_
  refine .region ?_
  refine TriOps.q .move ?_
  refine TriOps.q .lss ?_
  refine .nil ?_
  refine seqQ_n ?_
  refine .cond rfl (fun h1 => ?_) (fun h1 => ?_)
  · skip
    have hm : mget k A = none := by rw [← hB.get]; exact hz.neg (of_decide_eq_true h1)
    refine .seq ?_
    refine .region ?_
    refine TriOps.q .assign ?_
    refine .nil ?_
    refine seqQ_n ?_
    refine .ret (seqQ_r (retQ_r _ (.one (.tmp rfl)) (HLe.refl _) ?_))
    have e : trev A k client = (0, A) := by unfold trev; rw [hm]
    rw [e]; exact ⟨_, rfl, rfl, ps, h0, hB, hc, Nat.le_refl _⟩
  · skip
    obtain ⟨i, w, t, rfl, hi, hk, hm⟩ := hz.at hB (of_decide_eq_false h1)
    have ci := hc _ (List.mem_of_getElem? hi)
    have ii : Ones (encT (w, t)) := ⟨ci.ones⟩
    have pi : PS T (baseP vt (i * 9)) (encT (w, t)) := ⟨hs.pc hi⟩
    have hil := (List.getElem?_eq_some_iff.1 hi).1
    refine .skip ?_
    refine seqQ_n ?_
    refine .seq ?_
    refine .region ?_
    refine TriOps.q .move ?_
    refine TriOps.q (.nilCheck rfl) ?_
    refine TriOps.q (.fieldAddr rfl) ?_
    refine TriOps.q (.load1 rfl) ?_
    refine TriOps.q .move ?_
    refine TriOps.q (.indexR i hs hi rfl rfl rfl) ?_
    refine TriOps.q (.loadA rfl) ?_
    refine TriOps.allocA (fun b8 => ?_)
    refine TriOps.storeA rfl rfl ?_
    refine .nil ?_
    refine seqQ_n ?_
    refine .seq ?_
    refine .seq ?_
    refine .region ?_
    refine TriOps.q (.fieldAddr rfl) ?_
    refine TriOps.q (.load1 rfl) ?_
    refine TriOps.q .move ?_
    refine TriOps.q .neS ?_
    refine .nil ?_
    refine seqQ_n ?_
    refine .cond rfl (fun h2 => ?_) (fun h2 => ?_)
    · skip
      refine .seq ?_
      refine .region ?_
      refine TriOps.q .assign ?_
      refine .nil ?_
      refine seqQ_n ?_
      refine .ret (seqQ_r (retQ_r _ (.one (.tmp rfl)) (HLe.pick [1] _) ?_))
      have e : trev A k client = (20, A) := by unfold trev; rw [hm]; simp only; rw [if_pos (by simpa using h2)]
      rw [e]; exact ⟨_, rfl, rfl, ps, h0, hB, hc, Nat.le_refl _⟩
    · skip
      refine .skip ?_
      refine seqQ_n ?_
      refine .seq ?_
      refine .seq ?_
      refine .region ?_
      refine TriOps.q (.fieldAddr rfl) ?_
      refine TriOps.q (.load1 rfl) ?_
      refine TriOps.q .eqI ?_
      refine .nil ?_
      refine seqQ_n ?_
      refine .cond rfl (fun h3 => ?_) (fun h3 => ?_)
      · skip
        refine .seq ?_
        refine .region ?_
        refine TriOps.q .move ?_
        refine TriOps.q (.fieldAddr rfl) ?_
        refine TriOps.q (.load1 rfl) ?_
        refine TriOps.callM (rcut_spec x ps last T h0 A hB t.family _ hc) (fun u T2 hu => ?_)
        obtain ⟨rfl, hV2⟩ := hu
        refine .nil ?_
        refine seqQ_n ?_
        refine .seq ?_
        refine .region ?_
        refine TriOps.q .assign ?_
        refine .nil ?_
        refine seqQ_n ?_
        refine .ret (seqQ_r (retQ_r _ (.one (.tmp rfl)) (HLe.pick [1] _) ?_))
        have e : trev A k client = (0, A.filter fun y => !(y.2.family == t.family)) := by unfold trev; rw [hm]; simp only; rw [if_neg (by simpa using h2), if_pos (by simpa using h3)]
        rw [e]; exact ⟨_, rfl, rfl, _, hV2, hB.filter fun u => !(u.family == t.family), fun p hp => hc p (List.mem_filter.1 hp).1, List.length_filter_le _ _⟩
      · skip
        refine .skip ?_
        refine seqQ_n ?_
        refine .seq ?_
        refine .region ?_
        refine TriOps.q .assign ?_
        refine .nil ?_
        refine seqQ_n ?_
        refine .seq ?_
        refine .region ?_
        subst hT
        have hs2 := hO.sg
        refine TriOps.sub (H' := [[(x, .cells [vt, .int .i64 last].toArray 49 (0, 0))], Tt, []]) ((HLe.pick [1] _).trans (HLe.ofPerm (by simp [take, dropAt]))) ?_
        refine TriOps.q .move ?_
        refine TriOps.q .move ?_
        refine TriOps.q (.nilCheck rfl) ?_
        refine TriOps.q (.fieldAddr rfl) ?_
        refine TriOps.q (.load1 rfl) ?_
        refine TriOps.q .move ?_
        refine TriOps.sliceR (R' := sg Tt) 0 i hs2 rfl ⟨_, rfl⟩ (by omega) (by omega) (fun v2 hv2 => ?_)
        refine TriOps.append (OS.nil (E := 26) (sz := 9) (enc := encT)) (hv2.mono fun b o hb => .inr (by have hb' : (b, o) ∈ Tt := hb; simp [hb'])) (by simp; omega) (fun v3 T3 hO3 => ?_)
        have i3 := hO3.oneCell
        refine TriOps.q .assign ?_
        refine .nil ?_
        refine seqQ_n ?_
        refine .seq ?_
        refine .region ?_
        refine TriOps.q .move ?_
        refine TriOps.q .move ?_
        refine TriOps.q .move ?_
        refine TriOps.q (.nilCheck rfl) ?_
        refine TriOps.q (.fieldAddr rfl) ?_
        refine TriOps.q (.load1 rfl) ?_
        refine TriOps.q .move ?_
        refine TriOps.q (.i64 ((i + 1 : Nat) : Int) .add ⟨by omega, by omega, by omega⟩) ?_
        refine TriOps.sliceR (R' := sg Tt) (i + 1) ps.length hs2 ⟨_, rfl⟩ rfl (by omega) (by omega) (fun v4 hv4 => ?_)
        refine TriOps.append hO3 (hv4.mono fun b o hb => .inr (by have hb' : (b, o) ∈ Tt := hb; simp [hb'])) (by simp; omega) (fun v5 T5 hO5 => ?_)
        have i5 := hO5.oneCell
        refine TriOps.q (.nilCheck rfl) ?_
        refine TriOps.q (.fieldAddr rfl) ?_
        refine TriOps.store1 rfl rfl ?_
        refine .nil ?_
        refine seqQ_n ?_
        refine .seq ?_
        refine .region ?_
        refine TriOps.q .assign ?_
        refine .nil ?_
        refine seqQ_n ?_
        refine .ret (retQ_r _ (.one (.tmp rfl)) ((HLe.pick [0, 1] _).trans (HLe.ofPerm (H' := [(x, .cells [v5, .int .i64 last].toArray 49 (0, 0)) :: T5]) (by simp [take, dropAt, setL]))) ?_)
        have e : trev A k client = (0, A.filter fun y => !decide (y.2.text = k)) := by unfold trev; rw [hm]; simp only; rw [if_neg (by simpa using h2), if_neg (by simpa using h3)]
        have e1 : (ps.drop 0).take (i - 0) = ps.take i := by simp
        have e2 : (ps.drop (i + 1)).take (ps.length - (i + 1)) = ps.drop (i + 1) := List.take_of_length_le (by simp)
        rw [e1, e2] at hO5
        have hdel := del_at hB.asc hi hk
        rw [List.nil_append, ← hdel] at hO5
        rw [e]
        exact ⟨_, rfl, rfl, _, ⟨v5, T5, rfl, hO5, Nat.le_trans (List.length_filter_le _ _) hl⟩, hB.filter fun u => !decide (u.text = k), fun p hp => hc p (List.mem_filter.1 hp).1, List.length_filter_le _ _⟩
end Go.Proofs.Ytkepgbimlolemaa
