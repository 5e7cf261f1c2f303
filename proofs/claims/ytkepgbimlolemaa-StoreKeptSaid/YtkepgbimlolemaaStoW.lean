/- A store's rows, a store of rows. No condition. -/
import Derived.Test.YtkepgbimlolemaaStoL
import Derived.Test.YtkepgbimlolemaaStoG
import Derived.Test.YtkepgbimlolemaaStoS
import Derived.Test.YtkepgbimlolemaaSRW
import Derived.Test.YtkepgbimlolemaaCi
set_option linter.unusedVariables false
set_option linter.unusedSimpArgs false
set_option maxRecDepth 4000
namespace Go.Proofs.Ytkepgbimlolemaa
theorem before_spec (a b : SRow) (R : Rds) : Spec Try.prog 79 [.agg a.enc.toArray, .agg b.enc.toArray] R [] fun v H' => v = .int .i64 (rcmp a b) ∧ H' = [] := by
  refine Spec.body Try.func79 rfl Try.results79 Try.ntmps79 rfl ?_
  refine .seq ?_
  refine .region ?_
  refine TriOps.boxA rfl (fun b2 => ?_)
  refine TriOps.boxA rfl (fun b3 => ?_)
  refine TriOps.q .assign ?_
  refine .nil ?_
  refine seqQ_n ?_
  refine .seq ?_
  refine .region_all [] mixed ?_
  refine RA.takeO 0 rfl (.fieldAddr rfl) (by kernel_rfl) ?_
  refine RA.takeO 1 rfl (.loadT rfl) (by kernel_rfl) ?_
  refine RA.takeO 2 rfl (.fieldAddr rfl) (by kernel_rfl) ?_
  refine RA.takeO 3 rfl (.loadT rfl) (by kernel_rfl) ?_
  refine RA.takeO 5 rfl (.fieldAddr rfl) (by kernel_rfl) ?_
  refine RA.takeO 6 rfl (.load1 rfl) (by kernel_rfl) ?_
  refine RA.takeO 7 rfl (.fieldAddr rfl) (by kernel_rfl) ?_
  refine RA.takeO 8 rfl (.load1 rfl) (by kernel_rfl) ?_
  refine RA.step 4 rfl (by kernel_rfl) rfl ?_
  refine TriOps.callR (order_spec a.t b.t _) (fun v hv => ?_)
  subst hv
  refine .nil (Next.sub ?_)
  refine RA.step 9 rfl (by kernel_rfl) rfl ?_
  refine TriOps.callR (compareU_spec a.fr b.fr _) (fun v hv => ?_)
  subst hv
  refine .nil (Next.sub ?_)
  refine RA.step 10 rfl (by kernel_rfl) rfl ?_
  refine TriOps.buildSliceN1 [_, _] (fun b15 => ?_)
  refine .nil (Next.sub ?_)
  refine RA.step 11 rfl (by kernel_rfl) rfl ?_
  refine TriOps.callR (or_spec _ [ordc a.t b.t, icmp a.fr b.fr] _ (RS.lits rfl (by simp [encI]) (by simp [encI, oneCell]))) (fun v hv => ?_)
  subst hv
  refine .nil (Next.sub ?_)
  refine RA.takeO 12 rfl .assign (by kernel_rfl) ?_
  refine RA.nil (by kernel_rfl) ?_
  refine seqQ_n ?_
  refine .ret (retQ_r _ (.one (.tmp rfl)) (.none _) ?_)
  exact ⟨rfl, rfl⟩
theorem before_fn (R : Rds) : FnC Try.prog 79 [] R (fun x : SRow => Value.agg x.enc.toArray) rcmp (fun _ => True) := fun x y _ _ R2 _ => before_spec x y R2
theorem rows_spec {R : Rds} {g : Nat} {S : Sto} {ps : List RB} {vf vr : Value} {Mf : List (Obr × (Value × Seg))} {Mr : List (Sub × (Value × Seg))} (h : SV R g S ps vf vr Mf Mr) (hl : S.rows.length ≤ 4096) :
    Spec Try.prog 44 [.pointer (some ⟨g, 0, none⟩)] R [] fun u H' => ∃ T, H' = [T] ∧ ∃ ys, OS 132 9 SRow.enc u ys T ∧ ys.Perm S.rows ∧ rowOrd ys := by
  have pc := h.pc
  have iof := h.of
  have ior := h.or
  have hpl : ps.length ≤ 4096 := by rw [← h.eq, List.length_map] at hl; exact hl
  refine Spec.segs (H' := [[], []]) (by simp) ?_
  refine Spec.body Try.func44 rfl Try.results44 Try.ntmps44 rfl ?_
  refine .seq ?_
  refine .region ?_
  refine TriOps.q .assign ?_
  refine .nil ?_
  refine seqQ_n ?_
  refine .seq ?_
  refine .seq ?_
  refine .region ?_
  refine TriOps.q .move ?_
  refine TriOps.callR (h.mono fun b o hb => .inl hb).ok (fun v hv => ?_)
  subst hv
  refine TriOps.q .not ?_
  refine .nil ?_
  refine seqQ_n ?_
  refine .condF ?_
  refine .skip ?_
  refine seqQ_n ?_
  refine .seq ?_
  refine .region ?_
  refine TriOps.q .assign ?_
  refine .nil ?_
  refine seqQ_n ?_
  refine .seq ?_
  refine .seq ?_
  refine .region ?_
  refine TriOps.q .move ?_
  refine TriOps.q (.nilCheck rfl) ?_
  refine TriOps.q (.fieldAddr rfl) ?_
  refine TriOps.q (.load1 rfl) ?_
  refine TriOps.range h.mf (fun _ _ => .inl) rfl (fun it Ti0 hit0 => ?_)
  refine .nil ?_
  refine seqQ_n ?_
  refine .block ?_
  refine .loop (X := List SRow × List Obr × Value × Seg × Seg) (fun y => y.2.1.Nodup ∧ y.1.Perm ((ps.filter fun p => decide (p.2.t.obr ∉ y.2.1)).map (·.2)) ∧ OS 132 9 SRow.enc y.2.2.1 y.1 y.2.2.2.1 ∧ It R (fun k : Obr => .agg k.enc.toArray) (fun p : Value × Seg => p.1) vf Mf it y.2.1 y.2.2.2.2) (fun y => [(3, y.2.2.1), (15, it)]) (fun y => [y.2.2.2.1, y.2.2.2.2]) (fun y => y.2.1.length) ([], Mf.map (·.1), .slice none 0 0, [], Ti0) ⟨h.nf, by
    rw [List.filter_eq_nil_iff.2 fun p hp => by simp [h.af p hp]]; exact .refl _, OS.nil, hit0⟩ (((EnvLe.nil _).cons rfl).cons rfl) ((HLe.pick [1, 0] _)) ?_
  rintro ⟨zs, todo, vo, To, Ti⟩ ⟨hnd, hpm, hO, hit⟩
  simp only at hnd hpm hO hit ⊢
  have io := hO.oneCell
  have hzl : zs.length ≤ 4096 := by
    rw [hpm.length_eq, List.length_map]
    exact Nat.le_trans (List.length_filter_le _ _) hpl
  refine .seq ?_
  refine .region ?_
  refine TriOps.nextB hit (fun _ _ => .inl) rfl (fun b rest Ti2 hf ht => ?_)
  refine TriOps.q .extract ?_
  refine .nil ?_
  refine seqQ_n ?_
  refine .seq ?_
  refine .cond rfl (fun h2 => ?_) (fun h2 => ?_)
  · skip
    obtain ⟨k, ⟨v0, T0⟩, hk, hku, hitc⟩ := ht h2
    obtain ⟨pf, cf, hlk, hrs⟩ := h.lf k
    rw [hku] at hlk
    simp only [Option.map_some, Option.getD_some] at hlk
    subst hlk
    have hft := filter_oneG hnd hk
    have hF : RS R 1 encRB (.slice pf (ids (fun x => x.t.obr) k ps).length cf) (frows (fun x => x.t.obr) k ps) := RS.of_map (enc := encPt) (f := fun p : RB => p.1) hrs
    have hFl : (frows (fun x => x.t.obr) k ps).length ≤ 4096 := Nat.le_trans (List.length_filter_le _ _) hpl
    have hFi : (ids (fun x => x.t.obr) k ps).length = (frows (fun x => x.t.obr) k ps).length := by rw [ids_frows, List.length_map]
    refine .skip ?_
    refine seqQ_n ?_
    refine .block ?_
    refine .seq ?_
    refine .region ?_
    refine TriOps.q (.entry hitc (fun _ _ => .inl) rfl) ?_
    refine TriOps.q .extract ?_
    refine TriOps.q .assign ?_
    refine .nil ?_
    refine seqQ_n ?_
    refine .seq ?_
    refine .region ?_
    refine TriOps.q .move ?_
    refine TriOps.q (.lenR hF) ?_
    refine TriOps.q .move ?_
    refine .nil ?_
    refine seqQ_n ?_
    refine .block ?_
    refine .loop (X := Nat × Value × Seg) (fun y => y.1 ≤ (frows (fun x => x.t.obr) k ps).length ∧ OS 132 9 SRow.enc y.2.1 (zs ++ ((frows (fun x => x.t.obr) k ps).take y.1).map (·.2)) y.2.2) (fun y => [(3, y.2.1), (15, it), (20, .slice pf (ids (fun x => x.t.obr) k ps).length cf), (21, .int .i64 ((frows (fun x => x.t.obr) k ps).length : Nat)), (22, .int .i64 (y.1 : Nat))]) (fun y => [y.2.2, Ti2]) (fun y => (frows (fun x => x.t.obr) k ps).length - y.1) (0, vo, To) ⟨Nat.zero_le _, by simpa using hO⟩ ((((((EnvLe.nil _).cons rfl).cons rfl).cons rfl).cons rfl).cons rfl) (HLe.refl _) ?_
    rintro ⟨j, v1, To1⟩ ⟨hj, hO1⟩
    simp only at hj hO1 ⊢
    have io1 := hO1.oneCell
    refine .seq ?_
    refine .region ?_
    refine TriOps.q .lss ?_
    refine .nil ?_
    refine seqQ_n ?_
    refine .seq ?_
    refine .cond rfl (fun h3 => ?_) (fun h3 => ?_)
    · skip
      have hlt : j < (frows (fun x => x.t.obr) k ps).length := by have := of_decide_eq_true h3; omega
      obtain ⟨⟨b, x⟩, hx⟩ : ∃ t, (frows (fun x => x.t.obr) k ps)[j]? = some t := ⟨_, List.getElem?_eq_getElem hlt⟩
      have px : PC R (.pointer (some ⟨b, 0, none⟩)) x.enc := h.pr _ (List.mem_filter.1 (List.mem_of_getElem? hx)).1
      have htk : (frows (fun x => x.t.obr) k ps).take (j + 1) = (frows (fun x => x.t.obr) k ps).take j ++ [(b, x)] := by rw [List.take_add_one, hx]; rfl
      refine .skip ?_
      refine seqQ_n ?_
      refine .seq ?_
      refine .block ?_
      refine .seq ?_
      refine .region ?_
      refine TriOps.indexR j hF hx (fun p24 => ?_)
      refine TriOps.q (.load1 rfl) ?_
      refine TriOps.q .assign ?_
      refine .nil ?_
      refine seqQ_n ?_
      refine .region ?_
      refine TriOps.q .move ?_
      refine TriOps.q .move ?_
      refine TriOps.q (.nilCheck rfl) ?_
      refine TriOps.q (.loadA rfl) ?_
      refine TriOps.buildSlice1A (fun b30 => ?_)
      refine TriOps.append hO1 (RS.lits (xs := [x]) rfl (by simp [SRow.enc, Tpl.enc]) (by simp [SRow.enc, Tpl.enc, oneCell])) (by simp; omega) (fun v5 T5 hO5 => ?_)
      refine TriOps.q .assign ?_
      refine .nil ?_
      refine blkQ_n (seqQ_n ?_)
      refine .region ?_
      refine TriOps.q (.i64 ((j + 1 : Nat) : Int) .add ⟨by omega, by omega, by omega⟩) ?_
      refine TriOps.q .move ?_
      refine .nil ?_
      exact loopQ_i (j + 1, v5, T5) ⟨hlt, by simp only; rw [htk, List.map_append, ← List.append_assoc]; exact hO5⟩ (by simp only; omega) ((((((EnvLe.nil _).cons rfl).cons rfl).cons rfl).cons rfl).cons rfl) (HLe.pick [1, 1] _)
    · skip
      have hje : j = (frows (fun x => x.t.obr) k ps).length := by have := of_decide_eq_false h3; omega
      subst hje
      rw [List.take_length] at hO1
      refine .exit (seqQ_x (loopQ_x (blkQ_x ?_)))
      refine blkQ_n ?_
      refine loopQ_i (zs ++ (frows (fun x => x.t.obr) k ps).map (·.2), todo.filter fun k' => decide (k' ≠ k), v1, To1, Ti2) ⟨hnd.sublist List.filter_sublist, ?_, hO1, hitc.it⟩ ?_ (((EnvLe.nil _).cons rfl).cons rfl) (HLe.pick [0, 0] _)
      · simp only
        have h9 := filter_two (a := fun p : RB => decide (p.2.t.obr ∉ todo)) (b := fun p : RB => decide (p.2.t.obr = k)) (c := fun p : RB => decide (p.2.t.obr ∉ todo.filter fun k' => decide (k' ≠ k))) ps fun p _ => by
          by_cases e1 : p.2.t.obr = k
          · rw [e1]; simp [hk]
          · simp [e1]
        refine List.Perm.trans ?_ (h9.map _).symm
        rw [List.map_append]
        exact hpm.append (.refl _)
      · have := hft.length_eq
        simp only [List.length_cons] at this
        simp only; omega
  · skip
    have ht0 := hf h2
    subst ht0
    have hpm2 : zs.Perm S.rows := by
      refine hpm.trans (.of_eq ?_)
      rw [← h.eq, List.filter_eq_self.2 fun p _ => by simp]
    refine .exit (seqQ_x (loopQ_x (blkQ_x ?_)))
    refine seqQ_n ?_
    refine .seq ?_
    refine .region ?_
    refine TriOps.q .move ?_
    refine TriOps.callM (SRW.sort_spec (caps := []) vo _ To _ hO (by omega) (before_fn _) (fun p hp => trivial) rcmp_ok.so) (fun u T3 hu => ?_)
    obtain ⟨rfl, ys, hO3, hpy, hsy⟩ := hu
    have i5 := hO3.oneCell
    refine .nil ?_
    refine seqQ_n ?_
    refine .seq ?_
    refine .region ?_
    refine TriOps.q .move ?_
    refine TriOps.q .assign ?_
    refine .nil ?_
    refine seqQ_n ?_
    refine .ret (retQ_r _ (.one (.tmp rfl)) ((HLe.pick [0] _)) ?_)
    exact ⟨T3, by simp [take, dropAt], ys, hO3, hpy.trans hpm2, hsy.ordered⟩
theorem right_spec (x : SRow) (hx : x.t.fits) (head hor : Int) (R : Rds) : Spec Try.prog 84 [.agg x.enc.toArray, .int .u64 head, .int .u64 hor] R [] fun v H' => v = .bool (rrow head hor x) ∧ H' = [] := by
  refine Spec.body Try.func84 rfl Try.results84 Try.ntmps84 rfl ?_
  refine .seq ?_
  refine .region ?_
  refine TriOps.boxA rfl (fun b3 => ?_)
  refine TriOps.q .assign ?_
  refine .nil ?_
  refine seqQ_n ?_
  refine .seq ?_
  refine .region ?_
  refine TriOps.q (.fieldAddr rfl) ?_
  refine TriOps.q (.loadT rfl) ?_
  refine TriOps.callR (odd_spec x.t hx _) (fun v hv => ?_)
  subst hv
  refine TriOps.q .not ?_
  refine TriOps.q .move ?_
  refine TriOps.split (t := 11) rfl (fun g1_4 => ?_) (fun g1_4 => ?_)
  · skip
    refine TriOps.gT g1_4 ?_
    refine TriOps.q (.fieldAddr rfl) ?_
    refine TriOps.gT g1_4 ?_
    refine TriOps.q (.load1 rfl) ?_
    refine TriOps.gT g1_4 ?_
    refine TriOps.q .geq ?_
    refine TriOps.q (.pickTh g1_4) ?_
    refine TriOps.q .move ?_
    refine TriOps.split (t := 16) rfl (fun g1_9 => ?_) (fun g1_9 => ?_)
    · skip
      refine TriOps.gT g1_9 ?_
      refine TriOps.q (.fieldAddr rfl) ?_
      refine TriOps.gT g1_9 ?_
      refine TriOps.q (.load1 rfl) ?_
      refine TriOps.gT g1_9 ?_
      refine TriOps.q .move ?_
      refine TriOps.gT g1_9 ?_
      refine TriOps.q .leq ?_
      refine TriOps.q (.pickTh g1_9) ?_
      refine TriOps.q .move ?_
      refine TriOps.split (t := 22) rfl (fun g1_15 => ?_) (fun g1_15 => ?_)
      · skip
        refine TriOps.gT g1_15 ?_
        refine TriOps.q (.fieldAddr rfl) ?_
        refine TriOps.gT g1_15 ?_
        refine TriOps.q (.load1 rfl) ?_
        refine TriOps.gT g1_15 ?_
        refine TriOps.q .eqI ?_
        refine TriOps.gT g1_15 ?_
        refine TriOps.q .move ?_
        refine TriOps.split (t := 26) rfl (fun g1_19 => ?_) (fun g1_19 => ?_)
        · skip
          refine TriOps.gF g1_19 ?_
          refine TriOps.gF g1_19 ?_
          refine TriOps.gF g1_19 ?_
          refine TriOps.gF g1_19 ?_
          refine TriOps.gF g1_19 ?_
          refine TriOps.gF g1_19 ?_
          refine TriOps.gfU rfl ?_
          refine TriOps.gfU rfl ?_
          refine TriOps.gfU rfl ?_
          refine TriOps.gfU rfl ?_
          refine TriOps.gF g1_19 ?_
          refine TriOps.gF g1_19 ?_
          refine TriOps.gfU rfl ?_
          refine TriOps.gfU rfl ?_
          refine TriOps.gfU rfl ?_
          refine TriOps.gfU rfl ?_
          refine TriOps.gF g1_19 ?_
          refine TriOps.gT g1_15 ?_
          refine TriOps.q (.pickTh g1_19) ?_
          refine TriOps.q (.pickTh g1_15) ?_
          refine TriOps.q .assign ?_
          refine .nil ?_
          refine seqQ_n ?_
          refine .ret (retQ_r _ (.one (.tmp rfl)) (.none _) ?_)
          refine ⟨congrArg _ ?_, rfl⟩
          obtain ⟨t, fr, to⟩ := x
          unfold rrow
          rw [Bool.eq_iff_iff]
          simp_all
          try omega
        · skip
          refine TriOps.gT g1_19 ?_
          refine TriOps.q (.fieldAddr rfl) ?_
          refine TriOps.gT g1_19 ?_
          refine TriOps.q (.load1 rfl) ?_
          refine TriOps.gT g1_19 ?_
          refine TriOps.q (.fieldAddr rfl) ?_
          refine TriOps.gT g1_19 ?_
          refine TriOps.q (.load1 rfl) ?_
          refine TriOps.gT g1_19 ?_
          refine TriOps.q .gtr ?_
          refine TriOps.gT g1_19 ?_
          refine TriOps.q .move ?_
          refine TriOps.split (t := 32) rfl (fun g1_25 => ?_) (fun g1_25 => ?_)
          · skip
            refine TriOps.gT g1_25 ?_
            refine TriOps.q (.fieldAddr rfl) ?_
            refine TriOps.gT g1_25 ?_
            refine TriOps.q (.load1 rfl) ?_
            refine TriOps.gT g1_25 ?_
            refine TriOps.q .move ?_
            refine TriOps.gT g1_25 ?_
            refine TriOps.q .gtr ?_
            refine TriOps.gT g1_19 ?_
            refine TriOps.q (.pickTh g1_25) ?_
            refine TriOps.gT g1_19 ?_
            refine TriOps.q .move ?_
            refine TriOps.split (t := 38) rfl (fun g1_31 => ?_) (fun g1_31 => ?_)
            · skip
              refine TriOps.gT g1_31 ?_
              refine TriOps.q (.fieldAddr rfl) ?_
              refine TriOps.gT g1_31 ?_
              refine TriOps.q (.load1 rfl) ?_
              refine TriOps.gT g1_31 ?_
              refine TriOps.q .move ?_
              refine TriOps.gT g1_31 ?_
              refine TriOps.q .leq ?_
              refine TriOps.gT g1_19 ?_
              refine TriOps.q (.pickTh g1_31) ?_
              refine TriOps.gT g1_15 ?_
              refine TriOps.q (.pickFh g1_19) ?_
              refine TriOps.q (.pickTh g1_15) ?_
              refine TriOps.q .assign ?_
              refine .nil ?_
              refine seqQ_n ?_
              refine .ret (retQ_r _ (.one (.tmp rfl)) (.none _) ?_)
              refine ⟨congrArg _ ?_, rfl⟩
              obtain ⟨t, fr, to⟩ := x
              unfold rrow
              rw [Bool.eq_iff_iff]
              simp_all
              try omega
            · skip
              refine TriOps.gF g1_31 ?_
              refine TriOps.gF g1_31 ?_
              refine TriOps.gF g1_31 ?_
              refine TriOps.gF g1_31 ?_
              refine TriOps.gT g1_19 ?_
              refine TriOps.q (.pickFh g1_31) ?_
              refine TriOps.gT g1_15 ?_
              refine TriOps.q (.pickFh g1_19) ?_
              refine TriOps.q (.pickTh g1_15) ?_
              refine TriOps.q .assign ?_
              refine .nil ?_
              refine seqQ_n ?_
              refine .ret (retQ_r _ (.one (.tmp rfl)) (.none _) ?_)
              refine ⟨congrArg _ ?_, rfl⟩
              obtain ⟨t, fr, to⟩ := x
              unfold rrow
              rw [Bool.eq_iff_iff]
              simp_all
              try omega
          · skip
            refine TriOps.gF g1_25 ?_
            refine TriOps.gF g1_25 ?_
            refine TriOps.gF g1_25 ?_
            refine TriOps.gF g1_25 ?_
            refine TriOps.gT g1_19 ?_
            refine TriOps.q (.pickFh g1_25) ?_
            refine TriOps.gT g1_19 ?_
            refine TriOps.q .move ?_
            refine TriOps.gf rfl rfl ?_
            refine TriOps.gf rfl rfl ?_
            refine TriOps.gf rfl rfl ?_
            refine TriOps.gf rfl rfl ?_
            refine TriOps.gT g1_19 ?_
            refine TriOps.q .pickF ?_
            refine TriOps.gT g1_15 ?_
            refine TriOps.q (.pickFh g1_19) ?_
            refine TriOps.q (.pickTh g1_15) ?_
            refine TriOps.q .assign ?_
            refine .nil ?_
            refine seqQ_n ?_
            refine .ret (retQ_r _ (.one (.tmp rfl)) (.none _) ?_)
            refine ⟨congrArg _ ?_, rfl⟩
            obtain ⟨t, fr, to⟩ := x
            unfold rrow
            rw [Bool.eq_iff_iff]
            simp_all
            try omega
      · skip
        refine TriOps.gF g1_15 ?_
        refine TriOps.gF g1_15 ?_
        refine TriOps.gF g1_15 ?_
        refine TriOps.gF g1_15 ?_
        refine TriOps.gfU rfl ?_
        refine TriOps.gfU rfl ?_
        refine TriOps.gfU rfl ?_
        refine TriOps.gfU rfl ?_
        refine TriOps.gfU rfl ?_
        refine TriOps.gfU rfl ?_
        refine TriOps.gfU rfl ?_
        refine TriOps.gfU rfl ?_
        refine TriOps.gfU rfl ?_
        refine TriOps.gfU rfl ?_
        refine TriOps.gfU rfl ?_
        refine TriOps.gfU rfl ?_
        refine TriOps.gfU rfl ?_
        refine TriOps.gfU rfl ?_
        refine TriOps.gfU rfl ?_
        refine TriOps.gfU rfl ?_
        refine TriOps.gfU rfl ?_
        refine TriOps.gF g1_15 ?_
        refine TriOps.q (.pickFh g1_15) ?_
        refine TriOps.q .assign ?_
        refine .nil ?_
        refine seqQ_n ?_
        refine .ret (retQ_r _ (.one (.tmp rfl)) (.none _) ?_)
        refine ⟨congrArg _ ?_, rfl⟩
        obtain ⟨t, fr, to⟩ := x
        unfold rrow
        rw [Bool.eq_iff_iff]
        simp_all
        try omega
    · skip
      refine TriOps.gF g1_9 ?_
      refine TriOps.gF g1_9 ?_
      refine TriOps.gF g1_9 ?_
      refine TriOps.gF g1_9 ?_
      refine TriOps.q (.pickFh g1_9) ?_
      refine TriOps.q .move ?_
      refine TriOps.gf rfl rfl ?_
      refine TriOps.gf rfl rfl ?_
      refine TriOps.gf rfl rfl ?_
      refine TriOps.gf rfl rfl ?_
      refine TriOps.gfU rfl ?_
      refine TriOps.gfU rfl ?_
      refine TriOps.gfU rfl ?_
      refine TriOps.gfU rfl ?_
      refine TriOps.gfU rfl ?_
      refine TriOps.gfU rfl ?_
      refine TriOps.gfU rfl ?_
      refine TriOps.gfU rfl ?_
      refine TriOps.gfU rfl ?_
      refine TriOps.gfU rfl ?_
      refine TriOps.gfU rfl ?_
      refine TriOps.gfU rfl ?_
      refine TriOps.gfU rfl ?_
      refine TriOps.gfU rfl ?_
      refine TriOps.gfU rfl ?_
      refine TriOps.gfU rfl ?_
      refine TriOps.gfU rfl ?_
      refine TriOps.gf rfl rfl ?_
      refine TriOps.q .pickF ?_
      refine TriOps.q .assign ?_
      refine .nil ?_
      refine seqQ_n ?_
      refine .ret (retQ_r _ (.one (.tmp rfl)) (.none _) ?_)
      refine ⟨congrArg _ ?_, rfl⟩
      obtain ⟨t, fr, to⟩ := x
      unfold rrow
      rw [Bool.eq_iff_iff]
      simp_all
      try omega
  · skip
    refine TriOps.gF g1_4 ?_
    refine TriOps.gF g1_4 ?_
    refine TriOps.gF g1_4 ?_
    refine TriOps.q (.pickFh g1_4) ?_
    refine TriOps.q .move ?_
    refine TriOps.gf rfl rfl ?_
    refine TriOps.gf rfl rfl ?_
    refine TriOps.gf rfl rfl ?_
    refine TriOps.gf rfl rfl ?_
    refine TriOps.q .pickF ?_
    refine TriOps.q .move ?_
    refine TriOps.gf rfl rfl ?_
    refine TriOps.gf rfl rfl ?_
    refine TriOps.gf rfl rfl ?_
    refine TriOps.gf rfl rfl ?_
    refine TriOps.gfU rfl ?_
    refine TriOps.gfU rfl ?_
    refine TriOps.gfU rfl ?_
    refine TriOps.gfU rfl ?_
    refine TriOps.gfU rfl ?_
    refine TriOps.gfU rfl ?_
    refine TriOps.gfU rfl ?_
    refine TriOps.gfU rfl ?_
    refine TriOps.gfU rfl ?_
    refine TriOps.gfU rfl ?_
    refine TriOps.gfU rfl ?_
    refine TriOps.gfU rfl ?_
    refine TriOps.gfU rfl ?_
    refine TriOps.gfU rfl ?_
    refine TriOps.gfU rfl ?_
    refine TriOps.gfU rfl ?_
    refine TriOps.gfU rfl ?_
    refine TriOps.gf rfl rfl ?_
    refine TriOps.q .pickF ?_
    refine TriOps.q .assign ?_
    refine .nil ?_
    refine seqQ_n ?_
    refine .ret (retQ_r _ (.one (.tmp rfl)) (.none _) ?_)
    refine ⟨congrArg _ ?_, rfl⟩
    obtain ⟨t, fr, to⟩ := x
    unfold rrow
    rw [Bool.eq_iff_iff]
    simp_all
    try omega
theorem follows_spec (x a : SRow) (R : Rds) : Spec Try.prog 85 [.agg x.enc.toArray, .agg a.enc.toArray] R [] fun v H' => v = .bool (rfol x a) ∧ H' = [] := by
  refine Spec.body Try.func85 rfl Try.results85 Try.ntmps85 rfl ?_
  refine .seq ?_
  refine .region ?_
  refine TriOps.boxA rfl (fun b2 => ?_)
  refine TriOps.boxA rfl (fun b3 => ?_)
  refine TriOps.q .assign ?_
  refine .nil ?_
  refine seqQ_n ?_
  refine .seq ?_
  refine .seq ?_
  refine .region ?_
  refine TriOps.q (.fieldAddr rfl) ?_
  refine TriOps.q (.loadT rfl) ?_
  refine TriOps.q (.fieldAddr rfl) ?_
  refine TriOps.q (.loadT rfl) ?_
  refine TriOps.q (.neA rfl rfl (Tpl.kinds x.t) (Tpl.kinds a.t)) ?_
  rw [show cellsEq (List.take 7 (List.drop 0 x.enc)) (List.take 7 (List.drop 0 a.enc)) = decide (x.t = a.t) from Tpl.eq x.t a.t]
  refine .nil ?_
  refine seqQ_n ?_
  refine .cond rfl (fun h1 => ?_) (fun h1 => ?_)
  · skip
    refine .seq ?_
    refine .region ?_
    refine TriOps.q (.fieldAddr rfl) ?_
    refine TriOps.q (.loadT rfl) ?_
    refine TriOps.q (.fieldAddr rfl) ?_
    refine TriOps.q (.loadT rfl) ?_
    refine TriOps.callR (tless_p_spec a.t x.t _) (fun v hv => ?_)
    subst hv
    refine TriOps.q .assign ?_
    refine .nil ?_
    refine seqQ_n ?_
    refine .ret (seqQ_r (retQ_r _ (.one (.tmp rfl)) (.none _) ?_))
    have hne : ¬ x.t = a.t := by simpa using h1
    exact ⟨by unfold rfol; rw [if_neg hne], rfl⟩
  · skip
    refine .skip ?_
    refine seqQ_n ?_
    refine .seq ?_
    refine .region ?_
    refine TriOps.q (.fieldAddr rfl) ?_
    refine TriOps.q (.load1 rfl) ?_
    refine TriOps.q .neI ?_
    refine TriOps.q .move ?_
    refine TriOps.split (t := 18) rfl (fun g3_3 => ?_) (fun g3_3 => ?_)
    · skip
      refine TriOps.gT g3_3 ?_
      refine TriOps.q (.fieldAddr rfl) ?_
      refine TriOps.gT g3_3 ?_
      refine TriOps.q (.load1 rfl) ?_
      refine TriOps.gT g3_3 ?_
      refine TriOps.q (.fieldAddr rfl) ?_
      refine TriOps.gT g3_3 ?_
      refine TriOps.q (.load1 rfl) ?_
      refine TriOps.gT g3_3 ?_
      refine TriOps.q .leq ?_
      refine TriOps.q (.pickTh g3_3) ?_
      refine TriOps.q .assign ?_
      refine .nil ?_
      refine seqQ_n ?_
      refine .ret (retQ_r _ (.one (.tmp rfl)) (.none _) ?_)
      have he : x.t = a.t := by simpa using h1
      refine ⟨congrArg _ ?_, rfl⟩
      unfold rfol
      rw [if_pos he]
      simp_all
    · skip
      refine TriOps.gF g3_3 ?_
      refine TriOps.gF g3_3 ?_
      refine TriOps.gF g3_3 ?_
      refine TriOps.gF g3_3 ?_
      refine TriOps.gF g3_3 ?_
      refine TriOps.q (.pickFh g3_3) ?_
      refine TriOps.q .assign ?_
      refine .nil ?_
      refine seqQ_n ?_
      refine .ret (retQ_r _ (.one (.tmp rfl)) (.none _) ?_)
      have he : x.t = a.t := by simpa using h1
      refine ⟨congrArg _ ?_, rfl⟩
      unfold rfol
      rw [if_pos he]
      simp_all
theorem isWord_len {s : ByteArray} (h : isWord s = true) : s.size ≤ 32 := by
  unfold isWord at h
  simp only [Bool.and_eq_true, decide_eq_true_eq] at h
  omega
theorem isID_len {s : ByteArray} (h : isID s = true) : s.size ≤ 32 := by
  unfold isID at h
  simp only [Bool.and_eq_true, decide_eq_true_eq] at h
  omega
theorem isSub_fits {s : Sub} (h : isSub s = true) : s.us.size ≤ 32 ∧ s.ss.size ≤ 32 ∧ s.si.size ≤ 32 ∧ s.sr.size ≤ 32 := by
  unfold isSub at h
  have e0 : (⟨#[]⟩ : ByteArray).size = 0 := rfl
  by_cases h5 : s.us = ⟨#[]⟩
  · rw [if_pos h5] at h
    unfold isRef at h
    simp only [Bool.and_eq_true] at h
    obtain ⟨⟨h6, h7⟩, h8⟩ := h
    have b4 := isWord_len h6
    have b5 := isID_len h7
    have b6 := isWord_len h8
    rw [h5]
    omega
  · rw [if_neg h5] at h
    simp only [Bool.and_eq_true, decide_eq_true_eq] at h
    obtain ⟨h6, ⟨h7, h8⟩, h9⟩ := h
    have b4 := isID_len h6
    rw [h7, h8, h9]
    omega
theorem isTpl_fits {t : Tpl} (h : isTpl t = true) : t.fits := by
  unfold isTpl isRef at h
  simp only [Bool.and_eq_true] at h
  obtain ⟨⟨⟨h1, h2⟩, h3⟩, h4⟩ := h
  have b1 := isWord_len h1
  have b2 := isID_len h2
  have b3 := isWord_len h3
  have b4 : t.us.size ≤ 32 ∧ t.ss.size ≤ 32 ∧ t.si.size ≤ 32 ∧ t.sr.size ≤ 32 := isSub_fits h4
  unfold Tpl.fits
  omega
theorem load_spec (v : Value) (xs : List SRow) (head hor : Int) (R : Rds) (h : RS R 9 SRow.enc v xs) (hf : ∀ x ∈ xs, x.t.fits) :
    Spec Try.prog 48 [v, .int .u64 head, .int .u64 hor] R [] fun u H' => ∃ T, H' = [T] ∧ ∃ p e, u = .tuple [p, .int .i64 e].toArray ∧ ((rright xs head hor ∧ e = 0 ∧ ∃ g, p = .pointer (some ⟨g, 0, none⟩) ∧ SI g ⟨xs, head, hor⟩ T) ∨ (¬ rright xs head hor ∧ e = 4 ∧ p = .pointer none)) := by
  have hle := h.le
  obtain ⟨pv, kv_, rfl⟩ := h.val
  refine Spec.segs (H' := [[]]) (by simp) ?_
  refine Spec.body Try.func48 rfl Try.results48 Try.ntmps48 rfl ?_
  refine .seq ?_
  refine .region ?_
  refine TriOps.q .assign ?_
  refine TriOps.q .assign ?_
  refine .nil ?_
  refine seqQ_n ?_
  refine .seq ?_
  refine .seq ?_
  refine .region ?_
  refine TriOps.q .move ?_
  refine TriOps.q .move ?_
  refine TriOps.q .gtr ?_
  refine TriOps.q .move ?_
  refine TriOps.split (t := 14) rfl (fun g1_3 => ?_) (fun g1_3 => ?_)
  · skip
    refine TriOps.gF g1_3 ?_
    refine TriOps.gF g1_3 ?_
    refine TriOps.q (.pickTh g1_3) ?_
    refine TriOps.q .move ?_
    refine TriOps.gf rfl rfl ?_
    refine TriOps.gf rfl rfl ?_
    refine TriOps.gf rfl rfl ?_
    refine TriOps.q .pickT ?_
    refine .nil ?_
    refine seqQ_n ?_
    refine .condT ?_
    have hno : ¬ rright xs head hor := fun hr => by
      obtain ⟨⟨a1, a2, a3⟩, _⟩ := hr
      have := hle
      simp_all
      try omega
    refine .seq ?_
    refine .region ?_
    refine TriOps.q .assign ?_
    refine TriOps.q .assign ?_
    refine .nil ?_
    refine seqQ_n ?_
    refine .ret (seqQ_r (retQ_r _ (.two (.tmp rfl) (.tmp rfl)) ((HLe.pick [0] _)) ?_))
    exact ⟨_, by simp [take]; rfl, _, _, rfl, .inr ⟨hno, rfl, rfl⟩⟩
  · skip
    refine TriOps.gT g1_3 ?_
    refine TriOps.q .move ?_
    refine TriOps.gT g1_3 ?_
    refine TriOps.q .gtr ?_
    refine TriOps.q (.pickFh g1_3) ?_
    refine TriOps.q .move ?_
    refine TriOps.split (t := 18) rfl (fun g1_7 => ?_) (fun g1_7 => ?_)
    · skip
      refine TriOps.gF g1_7 ?_
      refine TriOps.gF g1_7 ?_
      refine TriOps.gF g1_7 ?_
      refine TriOps.q (.pickTh g1_7) ?_
      refine .nil ?_
      refine seqQ_n ?_
      refine .condT ?_
      have hno : ¬ rright xs head hor := fun hr => by
        obtain ⟨⟨a1, a2, a3⟩, _⟩ := hr
        have := hle
        simp_all
        try omega
      refine .seq ?_
      refine .region ?_
      refine TriOps.q .assign ?_
      refine TriOps.q .assign ?_
      refine .nil ?_
      refine seqQ_n ?_
      refine .ret (seqQ_r (retQ_r _ (.two (.tmp rfl) (.tmp rfl)) ((HLe.pick [0] _)) ?_))
      exact ⟨_, by simp [take]; rfl, _, _, rfl, .inr ⟨hno, rfl, rfl⟩⟩
    · skip
      refine TriOps.gT g1_7 ?_
      refine TriOps.q .move ?_
      refine TriOps.gT g1_7 ?_
      refine TriOps.q (.lenR h) ?_
      refine TriOps.gT g1_7 ?_
      refine TriOps.q .gtr ?_
      refine TriOps.q (.pickFh g1_7) ?_
      refine .nil ?_
      refine seqQ_n ?_
      refine .cond rfl (fun h1 => ?_) (fun h1 => ?_)
      · skip
        have hno : ¬ rright xs head hor := fun hr => by
          obtain ⟨⟨a1, a2, a3⟩, _⟩ := hr
          have := hle
          simp_all
          try omega
        refine .seq ?_
        refine .region ?_
        refine TriOps.q .assign ?_
        refine TriOps.q .assign ?_
        refine .nil ?_
        refine seqQ_n ?_
        refine .ret (seqQ_r (retQ_r _ (.two (.tmp rfl) (.tmp rfl)) ((HLe.pick [0] _)) ?_))
        exact ⟨_, by simp [take]; rfl, _, _, rfl, .inr ⟨hno, rfl, rfl⟩⟩
      · skip
        have hyes : hor ≤ head ∧ head ≤ 4611686018427387903 ∧ xs.length ≤ 4096 := by
          simp_all
          try omega
        refine .skip ?_
        refine seqQ_n ?_
        refine .seq ?_
        refine .region ?_
        refine TriOps.callN (snew_spec _) (fun u T0 hu => ?_)
        obtain ⟨g, rfl, hg⟩ := hu
        obtain ⟨n, vf2, vr2, Rest, if2, ir2, rfl, hSI⟩ := hg.cells
        refine TriOps.q .assign ?_
        refine .nil ?_
        refine seqQ_n ?_
        refine .seq ?_
        refine .region ?_
        refine TriOps.sub (H' := [[(g, .cells [.bool true, .int .u64 0, .int .u64 0, .int .i64 n, vf2, vr2].toArray 98 (0, 0))], Rest]) (HLe.ofPerm (by simp)) ?_
        refine TriOps.q .move ?_
        refine TriOps.q .move ?_
        refine TriOps.q .move ?_
        refine TriOps.q .move ?_
        refine TriOps.q (.nilCheck rfl) ?_
        refine TriOps.q (.fieldAddr rfl) ?_
        refine TriOps.store1 rfl rfl ?_
        refine TriOps.q (.nilCheck rfl) ?_
        refine TriOps.q (.fieldAddr rfl) ?_
        refine TriOps.store1 rfl rfl ?_
        refine .nil ?_
        refine seqQ_n ?_
        refine .seq ?_
        refine .seq ?_
        refine .region ?_
        refine TriOps.q .move ?_
        refine TriOps.q (.lenR h) ?_
        refine TriOps.q .move ?_
        refine .nil ?_
        refine seqQ_n ?_
        refine .block ?_
        refine .loop (X := Nat × Seg) (fun y => (y.1 ≤ xs.length ∧ rgood head hor xs y.1) ∧ SI g ⟨xs.take y.1, head, hor⟩ y.2) (fun y => [(0, .slice pv xs.length kv_), (1, .int .u64 head), (2, .int .u64 hor), (8, .pointer (some ⟨g, 0, none⟩)), (32, .slice pv xs.length kv_), (33, .int .i64 (xs.length : Nat)), (34, .int .i64 (y.1 : Nat))]) (fun y => [y.2]) (fun y => xs.length - y.1) (0, (g, Obj.cells [Value.bool true, Value.int .u64 head, Value.int .u64 hor, Value.int .i64 n, vf2, vr2].toArray 98 (0, 0)) :: Rest) ⟨⟨Nat.zero_le _, rgood_zero⟩, hSI head hor⟩ ((((((((EnvLe.nil _).cons rfl).cons rfl).cons rfl).cons rfl).cons rfl).cons rfl).cons rfl) (HLe.ofPerm (by simp [setL])) ?_
        rintro ⟨i, T⟩ ⟨⟨hi, hgood⟩, hI⟩
        simp only at hi hgood hI ⊢
        refine .seq ?_
        refine .region ?_
        refine TriOps.q .lss ?_
        refine .nil ?_
        refine seqQ_n ?_
        refine .seq ?_
        refine .cond rfl (fun h2 => ?_) (fun h2 => ?_)
        · skip
          have hlt : i < xs.length := by have := of_decide_eq_true h2; omega
          obtain ⟨x, hx⟩ : ∃ x, xs[i]? = some x := ⟨_, List.getElem?_eq_getElem hlt⟩
          have hxf := hf x (List.mem_of_getElem? hx)
          have htk : xs.take (i + 1) = xs.take i ++ [x] := by rw [List.take_add_one, hx]; rfl
          obtain ⟨a, ha⟩ : ∃ a, xs[i - 1]? = some a := ⟨_, List.getElem?_eq_getElem (by omega)⟩
          refine .skip ?_
          refine seqQ_n ?_
          refine .seq ?_
          refine .block ?_
          refine .seq ?_
          refine .region ?_
          refine TriOps.q .move ?_
          refine TriOps.indexR i h hx (fun p37 => ?_)
          refine TriOps.q (.loadA rfl) ?_
          refine TriOps.allocA (fun b10 => ?_)
          refine TriOps.q .assign ?_
          refine TriOps.storeA rfl rfl ?_
          refine .nil ?_
          refine seqQ_n ?_
          refine .seq ?_
          refine .seq ?_
          refine .region_all [] mixed ?_
          refine RA.takeO 0 rfl (.loadA rfl) (by kernel_rfl) ?_
          refine RA.takeO 1 rfl .move (by kernel_rfl) ?_
          refine RA.takeO 2 rfl .move (by kernel_rfl) ?_
          refine RA.step 3 rfl (by kernel_rfl) rfl ?_
          refine TriOps.callR (right_spec x hxf head hor _) (fun u hu => ?_)
          subst hu
          refine .nil (Next.sub ?_)
          refine RA.takeO 4 rfl .not (by kernel_rfl) ?_
          refine RA.takeO 5 rfl .move (by kernel_rfl) ?_
          refine RA.split (t := 44) rfl (fun g8_5 => ?_) (fun g8_5 => ?_)
          · skip
            refine RA.takeFh 6 rfl rfl g8_5 rfl (by kernel_rfl) ?_
            refine RA.takeFh 7 rfl rfl g8_5 rfl (by kernel_rfl) ?_
            refine RA.takeFh 8 rfl rfl g8_5 rfl (by kernel_rfl) ?_
            refine RA.takeU 9 rfl rfl (by kernel_rfl) ?_
            refine RA.takeU 10 rfl rfl (by kernel_rfl) ?_
            refine RA.takeU 11 rfl rfl (by kernel_rfl) ?_
            refine RA.takeU 12 rfl rfl (by kernel_rfl) ?_
            refine RA.takeU 13 rfl rfl (by kernel_rfl) ?_
            refine RA.takeU 14 rfl rfl (by kernel_rfl) ?_
            refine RA.step 15 rfl (by kernel_rfl) rfl ?_
            refine TriOps.gfU rfl ?_
            refine .nil (Next.sub ?_)
            refine RA.takeU 16 rfl rfl (by kernel_rfl) ?_
            refine RA.takeFh 17 rfl rfl g8_5 rfl (by kernel_rfl) ?_
            refine RA.takeO 18 rfl (.pickTh g8_5) (by kernel_rfl) ?_
            refine RA.nil (by kernel_rfl) ?_
            refine seqQ_n ?_
            refine .condT ?_
            refine .seq ?_
            refine .region ?_
            refine TriOps.q .assign ?_
            refine TriOps.q .assign ?_
            refine .nil ?_
            refine seqQ_n ?_
            refine .ret (seqQ_r (blkQ_r (seqQ_r (loopQ_r (blkQ_r (seqQ_r (retQ_r _ (.two (.tmp rfl) (.tmp rfl)) ((HLe.pick [0] _)) ?_)))))))
            exact ⟨_, by simp [take]; rfl, _, _, rfl, .inr ⟨fun hr => by have := (hr.2 i x hlt hx).1; rw [this] at g8_5; simp at g8_5, rfl, rfl⟩⟩
          · skip
            refine RA.takeGhO 6 rfl rfl g8_5 .move (by kernel_rfl) ?_
            refine RA.takeGhO 7 rfl rfl g8_5 .gtr (by kernel_rfl) ?_
            refine RA.takeGhO 8 rfl rfl g8_5 .move (by kernel_rfl) ?_
            refine RA.split (t := 47) rfl (fun g8_8 => ?_) (fun g8_8 => ?_)
            · skip
              have h0i : 0 < i := by simpa using g8_8
              have pxa := h.pc ha
              refine RA.takeGhO 9 rfl rfl g8_8 (.loadA rfl) (by kernel_rfl) ?_
              refine RA.takeGhO 10 rfl rfl g8_8 .move (by kernel_rfl) ?_
              refine RA.takeGhO 11 rfl rfl g8_8 .move (by kernel_rfl) ?_
              refine RA.takeGhO 12 rfl rfl g8_8 (.i64 ((i - 1 : Nat) : Int) .sub ⟨by omega, by omega, by omega⟩) (by kernel_rfl) ?_
              refine RA.takeGhO 13 rfl rfl g8_8 (.indexR (i - 1) h ha rfl rfl rfl) (by kernel_rfl) ?_
              refine RA.takeGhO 14 rfl rfl g8_8 (.loadA rfl) (by kernel_rfl) ?_
              refine RA.step 15 rfl (by kernel_rfl) rfl ?_
              refine TriOps.gT g8_8 ?_
              refine TriOps.callR (follows_spec x a _) (fun u hu => ?_)
              subst hu
              refine .nil (Next.sub ?_)
              refine RA.takeGhO 16 rfl rfl g8_8 .not (by kernel_rfl) ?_
              refine RA.takeGhO 17 rfl rfl g8_5 (.pickTh g8_8) (by kernel_rfl) ?_
              refine RA.takeO 18 rfl (.pickFh g8_5) (by kernel_rfl) ?_
              refine RA.nil (by kernel_rfl) ?_
              refine seqQ_n ?_
              refine .cond rfl (fun h3 => ?_) (fun h3 => ?_)
              · skip
                refine .seq ?_
                refine .region ?_
                refine TriOps.q .assign ?_
                refine TriOps.q .assign ?_
                refine .nil ?_
                refine seqQ_n ?_
                refine .ret (seqQ_r (blkQ_r (seqQ_r (loopQ_r (blkQ_r (seqQ_r (retQ_r _ (.two (.tmp rfl) (.tmp rfl)) ((HLe.pick [0] _)) ?_)))))))
                exact ⟨_, by simp [take]; rfl, _, _, rfl, .inr ⟨fun hr => by have := (hr.2 i x hlt hx).2 a h0i ha; rw [this] at h3; simp at h3, rfl, rfl⟩⟩
              · skip
                refine .skip ?_
                refine seqQ_n ?_
                refine .region ?_
                refine TriOps.q .move ?_
                refine TriOps.q (.loadA rfl) ?_
                refine TriOps.callM (add_spec g _ T hI x (by simp only [List.length_take]; omega) _) (fun u T2 hu => ?_)
                obtain ⟨rfl, hI2⟩ := hu
                refine .nil ?_
                refine blkQ_n (seqQ_n ?_)
                refine .region ?_
                refine TriOps.q (.i64 ((i + 1 : Nat) : Int) .add ⟨by omega, by omega, by omega⟩) ?_
                refine TriOps.q .move ?_
                refine .nil ?_
                first
                  | exact loopQ_i (i + 1, T2) ⟨⟨hlt, rgood_next hgood hx (by simpa using g8_5) fun a' h0 ha' => by simp at g8_8; omega⟩, by simp only; rw [htk]; exact hI2⟩ (by simp only; omega) ((((((((EnvLe.nil _).cons rfl).cons rfl).cons rfl).cons rfl).cons rfl).cons rfl).cons rfl) (HLe.pick [1] _)
                  | exact loopQ_i (i + 1, T2) ⟨⟨hlt, rgood_next hgood hx (by simpa using g8_5) fun a' h0 ha' => by rw [ha] at ha'; cases ha'; simpa using h3⟩, by simp only; rw [htk]; exact hI2⟩ (by simp only; omega) ((((((((EnvLe.nil _).cons rfl).cons rfl).cons rfl).cons rfl).cons rfl).cons rfl).cons rfl) (HLe.pick [1] _)
            · skip
              refine RA.takeFh 9 rfl rfl g8_8 rfl (by kernel_rfl) ?_
              refine RA.takeFh 10 rfl rfl g8_8 rfl (by kernel_rfl) ?_
              refine RA.takeFh 11 rfl rfl g8_8 rfl (by kernel_rfl) ?_
              refine RA.takeFh 12 rfl rfl g8_8 rfl (by kernel_rfl) ?_
              refine RA.takeFh 13 rfl rfl g8_8 rfl (by kernel_rfl) ?_
              refine RA.takeFh 14 rfl rfl g8_8 rfl (by kernel_rfl) ?_
              refine RA.step 15 rfl (by kernel_rfl) rfl ?_
              refine TriOps.gF g8_8 ?_
              refine .nil (Next.sub ?_)
              refine RA.takeFh 16 rfl rfl g8_8 rfl (by kernel_rfl) ?_
              refine RA.takeGhO 17 rfl rfl g8_5 (.pickFh g8_8) (by kernel_rfl) ?_
              refine RA.takeO 18 rfl (.pickFh g8_5) (by kernel_rfl) ?_
              refine RA.nil (by kernel_rfl) ?_
              refine seqQ_n ?_
              refine .condF ?_
              refine .skip ?_
              refine seqQ_n ?_
              refine .region ?_
              refine TriOps.q .move ?_
              refine TriOps.q (.loadA rfl) ?_
              refine TriOps.callM (add_spec g _ T hI x (by simp only [List.length_take]; omega) _) (fun u T2 hu => ?_)
              obtain ⟨rfl, hI2⟩ := hu
              refine .nil ?_
              refine blkQ_n (seqQ_n ?_)
              refine .region ?_
              refine TriOps.q (.i64 ((i + 1 : Nat) : Int) .add ⟨by omega, by omega, by omega⟩) ?_
              refine TriOps.q .move ?_
              refine .nil ?_
              first
                | exact loopQ_i (i + 1, T2) ⟨⟨hlt, rgood_next hgood hx (by simpa using g8_5) fun a' h0 ha' => by simp at g8_8; omega⟩, by simp only; rw [htk]; exact hI2⟩ (by simp only; omega) ((((((((EnvLe.nil _).cons rfl).cons rfl).cons rfl).cons rfl).cons rfl).cons rfl).cons rfl) (HLe.pick [1] _)
                | exact loopQ_i (i + 1, T2) ⟨⟨hlt, rgood_next hgood hx (by simpa using g8_5) fun a' h0 ha' => by rw [ha] at ha'; cases ha'; simpa using h3⟩, by simp only; rw [htk]; exact hI2⟩ (by simp only; omega) ((((((((EnvLe.nil _).cons rfl).cons rfl).cons rfl).cons rfl).cons rfl).cons rfl).cons rfl) (HLe.pick [1] _)
        · skip
          refine .exit (seqQ_x (loopQ_x (blkQ_x ?_)))
          refine seqQ_n ?_
          refine .seq ?_
          refine .region ?_
          refine TriOps.q .move ?_
          refine TriOps.q .assign ?_
          refine TriOps.q .assign ?_
          refine .nil ?_
          refine seqQ_n ?_
          refine .ret (retQ_r _ (.two (.tmp rfl) (.tmp rfl)) ((HLe.pick [0] _)) ?_)
          have hie : i = xs.length := by have := of_decide_eq_false h2; omega
          subst hie
          rw [List.take_length] at hI
          exact ⟨T, by simp [take], _, _, rfl, .inl ⟨⟨hyes, hgood⟩, rfl, g, rfl, hI⟩⟩
end Go.Proofs.Ytkepgbimlolemaa
