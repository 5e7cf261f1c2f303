/- Layer 25's reference: Add, Remove. No condition. -/
import Derived.Test.YtlmdgdehjpahiaaCliO
set_option linter.unusedVariables false
set_option maxRecDepth 4000
namespace Go.Proofs.Ytlmdgdehjpahiaa

abbrev cins (p : CP) (ps : List CP) : List CP := gins (ltc ccmp) p ps
theorem cadd_chk {A : List Cli} {c : Cli} (h : c.check ≠ 0) : (cadd A c).1 = c.check := by unfold cadd; rw [if_pos h]
theorem cadd_there {A : List Cli} {c d : Cli} (h : c.check = 0) (h2 : cget c.id A = some d) : (cadd A c).1 = 10 := by unfold cadd; rw [if_neg (by simp [h]), h2]; rfl
theorem cadd_full {A : List Cli} {c : Cli} (h : c.check = 0) (h2 : cget c.id A = none) (h3 : 64 ≤ A.length) : (cadd A c).1 = 8 := by
  unfold cadd; rw [if_neg (by simp [h]), h2]; simp only [Option.isSome_none, Bool.false_eq_true, if_false]; rw [if_pos h3]
theorem cadd_ok {A : List Cli} {c : Cli} (h : c.check = 0) (h2 : cget c.id A = none) (h3 : ¬ 64 ≤ A.length) : cadd A c = (0, A ++ [c]) := by
  unfold cadd; rw [if_neg (by simp [h]), h2]; simp only [Option.isSome_none, Bool.false_eq_true, if_false]; rw [if_neg h3]
theorem radd_spec (g : Nat) (ps : List CP) (T : Seg) (h : RL g ps T) (r : CR) (c : Cli) (R : Rds) (hcr : CliR R r c) (hf : c.fits) (hps : CL R ps) :
    Spec Try.prog 47 [.pointer (some ⟨g, 0, none⟩), .agg r.cells.toArray] R [T] fun u H' => ∃ T', H' = [T'] ∧ u = .int .i64 (cadd (clis ps) c).1 ∧ RL g (if (cadd (clis ps) c).1 = 0 then cins (r, c) ps else ps) T' := by
  have h0 := h
  obtain ⟨vt, Tt, rfl, hO, hl⟩ := h
  have ir : Ones r.cells := ⟨hcr.ones⟩
  have i1 := hO.oneCell
  have hcl : (clis ps).length = ps.length := by simp [clis]
  refine Spec.segs (H' := [[(g, .cells [vt].toArray 94 (0, 0))], Tt, []]) (by simp) ?_
  have pq : PS [(g, .cells [vt].toArray 94 (0, 0))] (.pointer (some ⟨g, 0, none⟩)) [vt] := PS.of (E := 94) (fr := (0, 0)) (by simp)
  refine Spec.body Try.func47 rfl Try.results47 Try.ntmps47 rfl ?_
  refine .seq ?_
  refine .region ?_
  refine TriOps.boxA rfl (fun b3 => ?_)
  refine TriOps.q .assign ?_
  refine .nil ?_
  refine seqQ_n ?_
  refine .seq ?_
  refine .region ?_
  refine TriOps.q (.loadA rfl) ?_
  refine TriOps.callR (rcheck_spec r c _ (hcr.mono fun b o hb => .inl hb) hf) (fun u hu => ?_)
  subst hu
  refine TriOps.q .assign ?_
  refine .nil ?_
  refine seqQ_n ?_
  refine .seq ?_
  refine .seq ?_
  refine .region ?_
  refine TriOps.q .move ?_
  refine TriOps.q .neI ?_
  refine .nil ?_
  refine seqQ_n ?_
  refine .cond rfl (fun h1 => ?_) (fun h1 => ?_)
  · skip
    refine .seq ?_
    refine .region ?_
    refine TriOps.q .move ?_
    refine TriOps.q .assign ?_
    refine .nil ?_
    refine seqQ_n ?_
    refine .ret (seqQ_r (retQ_r _ (.one (.tmp rfl)) ((HLe.pick [1, 1] _).trans (HLe.ofPerm (H' := [(g, .cells [vt].toArray 94 (0, 0)) :: Tt]) (by simp [take, dropAt]))) ?_))
    have hne : c.check ≠ 0 := by simpa using h1
    have e := cadd_chk (A := clis ps) hne
    exact ⟨_, rfl, by rw [e], by rw [e, if_neg hne]; exact h0⟩
  · skip
    have hck : c.check = 0 := by simpa using h1
    refine .skip ?_
    refine seqQ_n ?_
    refine .seq ?_
    refine .seq ?_
    refine .region ?_
    refine TriOps.q .move ?_
    refine TriOps.q (.fieldAddr rfl) ?_
    refine TriOps.q (.load1 rfl) ?_
    refine TriOps.callR (rfind_spec g ps _ h0 r.id _ (hps.mono fun b o hb => .inl hb) fun p hp => .inr (by
      rcases List.mem_cons.1 hp with rfl | hp
      · simp
      · simp [hp])) (fun u hu => ?_)
    obtain ⟨z, rfl, hz⟩ := hu
    rw [hcr.id] at hz
    refine TriOps.q .geq ?_
    refine .nil ?_
    refine seqQ_n ?_
    refine .cond rfl (fun h2 => ?_) (fun h2 => ?_)
    · skip
      refine .seq ?_
      refine .region ?_
      refine TriOps.q .assign ?_
      refine .nil ?_
      refine seqQ_n ?_
      refine .ret (seqQ_r (retQ_r _ (.one (.tmp rfl)) ((HLe.pick [1, 1] _).trans (HLe.ofPerm (H' := [(g, .cells [vt].toArray 94 (0, 0)) :: Tt]) (by simp [take, dropAt]))) ?_))
      have e : (cadd (clis ps) c).1 = 10 := by
        obtain ⟨i, y, _, _, _, _, hg⟩ := rl_open (g := g) hps hz (by have := of_decide_eq_true h2; omega)
        exact cadd_there hck hg
      exact ⟨_, rfl, by rw [e], by rw [e, if_neg (by omega)]; exact h0⟩
    · skip
      have hno : cget c.id (clis ps) = none := rl_none hz (by have := of_decide_eq_false h2; omega)
      refine .skip ?_
      refine seqQ_n ?_
      refine .seq ?_
      refine .seq ?_
      refine .region ?_
      refine TriOps.q .move ?_
      refine TriOps.q (.nilCheck rfl) ?_
      refine TriOps.q (.fieldAddr rfl) ?_
      refine TriOps.q (.load1 rfl) ?_
      refine TriOps.q (.lenO hO) ?_
      refine TriOps.q .geq ?_
      refine .nil ?_
      refine seqQ_n ?_
      refine .cond rfl (fun h3 => ?_) (fun h3 => ?_)
      · skip
        refine .seq ?_
        refine .region ?_
        refine TriOps.q .assign ?_
        refine .nil ?_
        refine seqQ_n ?_
        refine .ret (seqQ_r (retQ_r _ (.one (.tmp rfl)) ((HLe.pick [1, 1] _).trans (HLe.ofPerm (H' := [(g, .cells [vt].toArray 94 (0, 0)) :: Tt]) (by simp [take, dropAt]))) ?_))
        have e := cadd_full hck hno (by rw [hcl]; have := of_decide_eq_true h3; omega)
        exact ⟨_, rfl, by rw [e], by rw [e, if_neg (by omega)]; exact h0⟩
      · skip
        have hlt64 : ps.length < 64 := by have := of_decide_eq_false h3; omega
        have hadd := cadd_ok hck hno (by rw [hcl]; omega)
        refine .skip ?_
        refine seqQ_n ?_
        refine .seq ?_
        refine .region ?_
        refine TriOps.q .assign ?_
        refine .nil ?_
        refine seqQ_n ?_
        refine .seq ?_
        refine .region ?_
        refine TriOps.q .assign ?_
        refine .nil ?_
        refine seqQ_n ?_
        refine .seq ?_
        refine .seq ?_
        refine .region ?_
        refine TriOps.q .assign ?_
        refine .nil ?_
        refine seqQ_n ?_
        refine .block ?_
        refine .loop (X := Nat × Value × Seg) (fun y => y.1 ≤ ps.length ∧ OS 35 4 encC y.2.1 (gpre (ltc ccmp) (r, c) (ps.take y.1)) y.2.2) (fun y => [(0, .pointer (some ⟨g, 0, none⟩)), (3, .pointer (some ⟨b3, 0, none⟩)), (6, y.2.1), (7, .bool ((ps.take y.1).any (ltc ccmp (r, c)))), (8, .int .i64 (y.1 : Nat))]) (fun y => [[(b3, .cells r.cells.toArray 35 (0, 0))], [(g, .cells [vt].toArray 94 (0, 0))], Tt, y.2.2]) (fun y => ps.length - y.1) (0, .slice none 0 0, []) ⟨Nat.zero_le _, OS.nil⟩ ((((((EnvLe.nil _).cons rfl).cons rfl).cons rfl).cons rfl).cons rfl) (HLe.refl _) ?_
        rintro ⟨k, vo, To⟩ ⟨hk, hO4⟩
        simp only at hk hO4 ⊢
        have i4 := hO4.oneCell
        have hle4 := gpre_len (lt := ltc ccmp) (p := ((r, c) : CP)) (X := ps.take k)
        rw [List.length_take, Nat.min_eq_left hk] at hle4
        refine .seq ?_
        refine .seq ?_
        refine .region ?_
        refine TriOps.q .move ?_
        refine TriOps.q .move ?_
        refine TriOps.q (.nilCheck rfl) ?_
        refine TriOps.q (.fieldAddr rfl) ?_
        refine TriOps.q (.load1 rfl) ?_
        refine TriOps.q (.lenO hO) ?_
        refine TriOps.q .lss ?_
        refine .nil ?_
        refine seqQ_n ?_
        refine .cond rfl (fun h4 => ?_) (fun h4 => ?_)
        · skip
          have hk2 : k < ps.length := by have := of_decide_eq_true h4; omega
          obtain ⟨x, hx⟩ : ∃ x, ps[k]? = some x := ⟨_, List.getElem?_eq_getElem hk2⟩
          have cx := hps x (List.mem_of_getElem? hx)
          have ix : Ones (encC x) := ⟨cx.ones⟩
          have e4 := gmid_next (lt := ltc ccmp) (p := ((r, c) : CP)) hx
          refine .skip ?_
          refine seqQ_n ?_
          refine .seq ?_
          refine .block ?_
          refine .seq ?_
          refine Tri.cut (X := Value × Seg) (fun z => OS 35 4 encC z.1 (gmid (ltc ccmp) (r, c) (ps.take k) x) z.2) (fun z => [(0, .pointer (some ⟨g, 0, none⟩)), (3, .pointer (some ⟨b3, 0, none⟩)), (6, z.1), (7, .bool ((ps.take (k + 1)).any (ltc ccmp (r, c)))), (8, .int .i64 (k : Nat))]) (fun z => [[(b3, .cells r.cells.toArray 35 (0, 0))], [(g, .cells [vt].toArray 94 (0, 0))], Tt, z.2]) ?_ ?_
          · refine .seq ?_
            refine .region_still mixed (by kernel_rfl) ?_
            refine TriOps.q .move ?_
            refine TriOps.q .not ?_
            refine TriOps.q .move ?_
            refine TriOps.split (t := 36) rfl (fun g13_2 => ?_) (fun g13_2 => ?_)
            · skip
              refine TriOps.gT g13_2 ?_
              refine TriOps.q (.fieldAddr rfl) ?_
              refine TriOps.gT g13_2 ?_
              refine TriOps.q (.load1 rfl) ?_
              refine TriOps.gT g13_2 ?_
              refine TriOps.q .move ?_
              refine TriOps.gT g13_2 ?_
              refine TriOps.q (.nilCheck rfl) ?_
              refine TriOps.gT g13_2 ?_
              refine TriOps.q (.fieldAddr rfl) ?_
              refine TriOps.gT g13_2 ?_
              refine TriOps.q (.load1 rfl) ?_
              refine TriOps.gT g13_2 ?_
              refine TriOps.q .move ?_
              refine TriOps.gT g13_2 ?_
              refine TriOps.indexO k hO hx (fun p44 => ?_)
              refine TriOps.gT g13_2 ?_
              refine TriOps.q (.fieldAddr rfl) ?_
              refine TriOps.gT g13_2 ?_
              refine TriOps.q (.load1 rfl) ?_
              refine TriOps.gT g13_2 ?_
              refine TriOps.q .ltS ?_
              refine TriOps.q (.pickTh g13_2) ?_
              refine .nil ?_
              refine seqQ_n ?_
              refine .cond rfl (fun h5 => ?_) (fun h5 => ?_)
              · skip
                first | have hput := gmid_put hx g13_2 ((ltc_ccmp (r, c) x).trans h5) | skip
                refine .seq ?_
                refine .region ?_
                refine TriOps.q .move ?_
                refine TriOps.q (.loadA rfl) ?_
                refine TriOps.buildSlice1A (fun b51 => ?_)
                refine TriOps.append hO4 (RS.lits (xs := [((r, c) : CP)]) rfl (by simp [encC, CR.cells]) (by have := hcr.ones; simpa [encC] using this)) (by simp; omega) (fun v5 T5 hO5 => ?_)
                refine TriOps.q .assign ?_
                refine .nil ?_
                refine seqQ_n ?_
                refine .region ?_
                refine TriOps.q .assign ?_
                refine .nil ?_
                first
                  | (obtain ⟨hm, hA⟩ := hput
                     exact joinQ_n (v5, T5) (by simp only; rw [hm]; exact hO5) (by simp only; rw [hA]; exact (((((EnvLe.nil _).cons rfl).cons rfl).cons rfl).cons rfl).cons rfl) (HLe.pick [1, 1, 1, 1] _))
                  | (obtain ⟨hm, hA⟩ := hnot
                     exact joinQ_n (vo, To) (by simp only; rw [hm]; simpa using hO4) (by simp only; rw [hA]; exact (((((EnvLe.nil _).cons rfl).cons rfl).cons rfl).cons rfl).cons rfl) (HLe.refl _))
              · skip
                first | have hnot := gmid_not (p := ((r, c) : CP)) hx (.inr ((ltc_ccmp (r, c) x).trans h5)) | skip
                refine .skip ?_
                first
                  | (obtain ⟨hm, hA⟩ := hput
                     exact joinQ_n (v5, T5) (by simp only; rw [hm]; exact hO5) (by simp only; rw [hA]; exact (((((EnvLe.nil _).cons rfl).cons rfl).cons rfl).cons rfl).cons rfl) (HLe.pick [1, 1, 1, 1] _))
                  | (obtain ⟨hm, hA⟩ := hnot
                     exact joinQ_n (vo, To) (by simp only; rw [hm]; simpa using hO4) (by simp only; rw [hA]; exact (((((EnvLe.nil _).cons rfl).cons rfl).cons rfl).cons rfl).cons rfl) (HLe.refl _))
            · skip
              have hnot := gmid_not (p := ((r, c) : CP)) hx (.inl g13_2)
              refine TriOps.gF g13_2 ?_
              refine TriOps.gF g13_2 ?_
              refine TriOps.gF g13_2 ?_
              refine TriOps.gF g13_2 ?_
              refine TriOps.gF g13_2 ?_
              refine TriOps.gF g13_2 ?_
              refine TriOps.gF g13_2 ?_
              refine TriOps.gF g13_2 ?_
              refine TriOps.gF g13_2 ?_
              refine TriOps.gF g13_2 ?_
              refine TriOps.gF g13_2 ?_
              refine TriOps.q (.pickFh g13_2) ?_
              refine .nil ?_
              refine seqQ_n ?_
              refine .condF ?_
              first | have hnot := gmid_not (p := ((r, c) : CP)) hx (.inr ((ltc_ccmp (r, c) x).trans h5)) | skip
              refine .skip ?_
              first
                | (obtain ⟨hm, hA⟩ := hput
                   exact joinQ_n (v5, T5) (by simp only; rw [hm]; exact hO5) (by simp only; rw [hA]; exact (((((EnvLe.nil _).cons rfl).cons rfl).cons rfl).cons rfl).cons rfl) (HLe.pick [1, 1, 1, 1] _))
                | (obtain ⟨hm, hA⟩ := hnot
                   exact joinQ_n (vo, To) (by simp only; rw [hm]; simpa using hO4) (by simp only; rw [hA]; exact (((((EnvLe.nil _).cons rfl).cons rfl).cons rfl).cons rfl).cons rfl) (HLe.refl _))
          · intro y hy
            obtain ⟨vm, Tm⟩ := y
            have hO6 : OS 35 4 encC vm (gmid (ltc ccmp) (r, c) (ps.take k) x) Tm := hy
            have i6 := hO6.oneCell
            simp only
            refine seqQ_n ?_
            refine .region ?_
            refine TriOps.q .move ?_
            refine TriOps.q .move ?_
            refine TriOps.q (.nilCheck rfl) ?_
            refine TriOps.q (.fieldAddr rfl) ?_
            refine TriOps.q (.load1 rfl) ?_
            refine TriOps.q .move ?_
            refine TriOps.indexO k hO hx (fun p59 => ?_)
            refine TriOps.q (.loadA rfl) ?_
            refine TriOps.buildSlice1A (fun b61 => ?_)
            refine TriOps.append hO6 (RS.lits (xs := [x]) rfl (by simp [encC, CR.cells]) (by have := cx.ones; simpa [encC] using this)) (by have := gpre_len (lt := ltc ccmp) (p := ((r, c) : CP)) (X := ps.take (k + 1)); rw [← e4] at this; simp at this ⊢; omega) (fun v7 T7 hO7 => ?_)
            rw [e4] at hO7
            refine TriOps.q .assign ?_
            refine .nil ?_
            refine blkQ_n (seqQ_n ?_)
            refine .region ?_
            refine TriOps.q .move ?_
            refine TriOps.q (.i64 ((k + 1 : Nat) : Int) .add ⟨by omega, by omega, by omega⟩) ?_
            refine TriOps.q .assign ?_
            refine .nil ?_
            exact loopQ_i (k + 1, v7, T7) ⟨hk2, hO7⟩ (by simp only; omega) ((((((EnvLe.nil _).cons rfl).cons rfl).cons rfl).cons rfl).cons rfl) (HLe.pick [1, 1, 1, 1] _)
        · skip
          have hk3 : k = ps.length := by have := of_decide_eq_false h4; omega
          subst hk3
          rw [List.take_length] at hO4 hle4 ⊢
          refine .exit (seqQ_x (loopQ_x (blkQ_x ?_)))
          refine seqQ_n ?_
          refine .seq ?_
          refine .seq ?_
          refine .region ?_
          refine TriOps.q .move ?_
          refine TriOps.q .not ?_
          refine .nil ?_
          refine seqQ_n ?_
          refine .cond rfl (fun h6 => ?_) (fun h6 => ?_)
          · skip
            refine .region ?_
            refine TriOps.q .move ?_
            refine TriOps.q (.loadA rfl) ?_
            refine TriOps.buildSlice1A (fun b67 => ?_)
            refine TriOps.append hO4 (RS.lits (xs := [((r, c) : CP)]) rfl (by simp [encC, CR.cells]) (by have := hcr.ones; simpa [encC] using this)) (by simp; omega) (fun v5 T5 hO5 => ?_)
            have i5 := hO5.oneCell
            refine TriOps.q .assign ?_
            refine .nil ?_
            refine seqQ_n ?_
            refine .seq ?_
            refine .region ?_
            refine TriOps.q .move ?_
            refine TriOps.q .move ?_
            refine TriOps.q (.nilCheck rfl) ?_
            refine TriOps.q (.fieldAddr rfl) ?_
            refine TriOps.store1 rfl rfl ?_
            refine .nil ?_
            refine seqQ_n ?_
            refine .seq ?_
            refine .region ?_
            refine TriOps.q .assign ?_
            refine .nil ?_
            refine seqQ_n ?_
            refine .ret (retQ_r _ (.one (.tmp rfl)) ((HLe.pick [2, 3] _).trans (HLe.ofPerm (H' := [(g, .cells [v5].toArray 94 (0, 0)) :: T5]) (by simp [take, dropAt, setL]))) ?_)
            have han : ps.any (ltc ccmp (r, c)) = false := by simpa using h6
            refine ⟨_, rfl, by rw [hadd], ?_⟩
            rw [hadd, if_pos rfl]
            refine ⟨v5, T5, rfl, ?_, by rw [gins_len]; omega⟩
            have e0 : gpre (ltc ccmp) (r, c) ps = ps := by unfold gpre; rw [han]; rfl
            rw [e0] at hO5
            show OS 35 4 encC v5 (gins (ltc ccmp) (r, c) ps) T5
            rw [gins_end han]; exact hO5
          · skip
            refine .skip ?_
            refine seqQ_n ?_
            refine .seq ?_
            refine .region ?_
            refine TriOps.q .move ?_
            refine TriOps.q .move ?_
            refine TriOps.q (.nilCheck rfl) ?_
            refine TriOps.q (.fieldAddr rfl) ?_
            refine TriOps.store1 rfl rfl ?_
            refine .nil ?_
            refine seqQ_n ?_
            refine .seq ?_
            refine .region ?_
            refine TriOps.q .assign ?_
            refine .nil ?_
            refine seqQ_n ?_
            refine .ret (retQ_r _ (.one (.tmp rfl)) ((HLe.pick [1, 2] _).trans (HLe.ofPerm (H' := [(g, .cells [vo].toArray 94 (0, 0)) :: To]) (by simp [take, dropAt, setL]))) ?_)
            have han : ps.any (ltc ccmp (r, c)) = true := by simpa using h6
            refine ⟨_, rfl, by rw [hadd], ?_⟩
            rw [hadd, if_pos rfl]
            refine ⟨vo, To, rfl, ?_, by rw [gins_len]; omega⟩
            have e0 : gpre (ltc ccmp) (r, c) ps = gins (ltc ccmp) (r, c) ps := by unfold gpre; rw [han]; rfl
            rw [e0] at hO4; exact hO4
def rdel (id : ByteArray) (ps : List CP) : List CP := ps.filter fun p => decide (p.2.id ≠ id)
theorem rdel_at {id : ByteArray} {ps : List CP} {i : Nat} {y : CP} (hn : ((clis ps).map (·.id)).Nodup) (hy : ps[i]? = some y) (he : y.2.id = id) : rdel id ps = ps.take i ++ ps.drop (i + 1) := by
  have hlt := (List.getElem?_eq_some_iff.1 hy).1
  have e : ps = ps.take i ++ y :: ps.drop (i + 1) := by
    have h1 := List.take_append_drop i ps
    rw [List.drop_eq_getElem_cons hlt, (List.getElem?_eq_some_iff.1 hy).2] at h1
    exact h1.symm
  generalize hX : ps.take i = X at e ⊢
  generalize hY : ps.drop (i + 1) = Y at e ⊢
  rw [e] at hn ⊢
  simp only [clis, List.map_append, List.map_cons, List.nodup_append, List.nodup_cons] at hn
  obtain ⟨_, ⟨h2, _⟩, h3⟩ := hn
  unfold rdel
  rw [List.filter_append, List.filter_cons, if_neg (by simp [he])]
  congr 1
  · refine List.filter_eq_self.2 fun p hp => ?_
    have := h3 p.2.id (List.mem_map.2 ⟨p.2, List.mem_map.2 ⟨p, hp, rfl⟩, rfl⟩) y.2.id (by simp)
    simpa [he] using this
  · refine List.filter_eq_self.2 fun p hp => ?_
    have : p.2.id ≠ y.2.id := fun h => h2 (by rw [← h]; exact List.mem_map.2 ⟨p.2, List.mem_map.2 ⟨p, hp, rfl⟩, rfl⟩)
    simpa [he] using this
theorem rremove_spec (g : Nat) (ps : List CP) (T : Seg) (h : RL g ps T) (id : ByteArray) (R : Rds) (hps : CL R ps) (hn : ((clis ps).map (·.id)).Nodup) :
    Spec Try.prog 48 [.pointer (some ⟨g, 0, none⟩), .string id] R [T] fun u H' => ∃ T', H' = [T'] ∧ u = .int .i64 (if (cget id (clis ps)).isSome then 0 else 11) ∧ RL g (rdel id ps) T' := by
  have h0 := h
  obtain ⟨vt, Tt, rfl, hO, hl⟩ := h
  have i1 := hO.oneCell
  refine Spec.segs (H' := [[(g, .cells [vt].toArray 94 (0, 0))], Tt, []]) (by simp) ?_
  have pq : PS [(g, .cells [vt].toArray 94 (0, 0))] (.pointer (some ⟨g, 0, none⟩)) [vt] := PS.of (E := 94) (fr := (0, 0)) (by simp)
  have hs := hO.sg
  refine Spec.body Try.func48 rfl Try.results48 Try.ntmps48 rfl ?_
  refine .seq ?_
  refine .region ?_
  refine TriOps.q .assign ?_
  refine .nil ?_
  refine seqQ_n ?_
  refine .seq ?_
  refine .region ?_
  refine TriOps.q .move ?_
  refine TriOps.q .move ?_
  refine TriOps.callR (rfind_spec g ps _ h0 id _ (hps.mono fun b o hb => .inl hb) fun p hp => .inr (by
    rcases List.mem_cons.1 hp with rfl | hp
    · simp
    · simp [hp])) (fun u hu => ?_)
  obtain ⟨z, rfl, hz⟩ := hu
  refine TriOps.q .assign ?_
  refine .nil ?_
  refine seqQ_n ?_
  refine .seq ?_
  refine .seq ?_
  refine .region ?_
  refine TriOps.q .move ?_
  refine TriOps.q .lss ?_
  refine .nil ?_
  refine seqQ_n ?_
  refine .cond rfl (fun h1 => ?_) (fun h1 => ?_)
  · skip
    have hno := rl_none hz (of_decide_eq_true h1)
    refine .seq ?_
    refine .region ?_
    refine TriOps.q .assign ?_
    refine .nil ?_
    refine seqQ_n ?_
    refine .ret (seqQ_r (retQ_r _ (.one (.tmp rfl)) (HLe.ofPerm (H' := [(g, .cells [vt].toArray 94 (0, 0)) :: Tt]) (by simp)) ?_))
    refine ⟨_, rfl, by rw [hno]; rfl, ?_⟩
    have : rdel id ps = ps := List.filter_eq_self.2 fun p hp => by
      unfold cget at hno
      have := List.find?_eq_none.1 hno p.2 (List.mem_map.2 ⟨p, hp, rfl⟩)
      simpa using this
    rw [this]; exact h0
  · skip
    obtain ⟨i, y, rfl, hy, cy, hid, hg⟩ := rl_open (g := g) hps hz (of_decide_eq_false h1)
    have hlt := (List.getElem?_eq_some_iff.1 hy).1
    refine .skip ?_
    refine seqQ_n ?_
    refine .seq ?_
    refine .region ?_
    refine TriOps.q .assign ?_
    refine .nil ?_
    refine seqQ_n ?_
    refine .seq ?_
    refine .region ?_
    refine TriOps.q .move ?_
    refine TriOps.q .move ?_
    refine TriOps.q (.nilCheck rfl) ?_
    refine TriOps.q (.fieldAddr rfl) ?_
    refine TriOps.q (.load1 rfl) ?_
    refine TriOps.q .move ?_
    refine TriOps.sliceR (R' := sg Tt) 0 i hs rfl ⟨_, rfl⟩ (by omega) (by omega) (fun v2 hv2 => ?_)
    refine TriOps.append (OS.nil (E := 35) (sz := 4) (enc := encC)) (hv2.mono fun b o hb => .inr (by have hb' : (b, o) ∈ Tt := hb; simp [hb'])) (by simp; omega) (fun v3 T3 hO3 => ?_)
    have i3 := hO3.oneCell
    refine TriOps.q .assign ?_
    refine .nil ?_
    refine seqQ_n ?_
    refine .seq ?_
    refine .region ?_
    refine TriOps.q .move ?_
    refine TriOps.q .move ?_
    refine TriOps.q .move ?_
    refine TriOps.q (.nilCheck rfl) ?_
    refine TriOps.q (.fieldAddr rfl) ?_
    refine TriOps.q (.load1 rfl) ?_
    refine TriOps.q .move ?_
    refine TriOps.q (.i64 ((i + 1 : Nat) : Int) .add ⟨by omega, by omega, by omega⟩) ?_
    refine TriOps.sliceR (R' := sg Tt) (i + 1) ps.length hs ⟨_, rfl⟩ rfl (by omega) (by omega) (fun v4 hv4 => ?_)
    refine TriOps.append hO3 (hv4.mono fun b o hb => .inr (by have hb' : (b, o) ∈ Tt := hb; simp [hb'])) (by simp; omega) (fun v5 T5 hO5 => ?_)
    have i5 := hO5.oneCell
    refine TriOps.q (.nilCheck rfl) ?_
    refine TriOps.q (.fieldAddr rfl) ?_
    refine TriOps.store1 rfl rfl ?_
    refine .nil ?_
    refine seqQ_n ?_
    refine .seq ?_
    refine .region ?_
    refine TriOps.q .assign ?_
    refine .nil ?_
    refine seqQ_n ?_
    refine .ret (retQ_r _ (.one (.tmp rfl)) ((HLe.pick [0, 1] _).trans (HLe.ofPerm (H' := [(g, .cells [v5].toArray 94 (0, 0)) :: T5]) (by simp [take, dropAt, setL]))) ?_)
    refine ⟨_, rfl, by rw [hg]; rfl, v5, T5, rfl, ?_, Nat.le_trans (List.length_filter_le _ _) hl⟩
    rw [rdel_at hn hy hid]
    have e1 : (ps.drop 0).take (i - 0) = ps.take i := by simp
    have e2 : (ps.drop (i + 1)).take (ps.length - (i + 1)) = ps.drop (i + 1) := List.take_of_length_le (by simp)
    rw [e1, e2] at hO5
    exact hO5
end Go.Proofs.Ytlmdgdehjpahiaa
