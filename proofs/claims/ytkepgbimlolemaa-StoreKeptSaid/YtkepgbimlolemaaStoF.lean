/- A store: why changes cannot be done, as things are. No condition. -/
import Derived.Test.YtkepgbimlolemaaStoE
set_option linter.unusedVariables false
set_option linter.unusedSimpArgs false
set_option maxRecDepth 4000
namespace Go.Proofs.Ytkepgbimlolemaa
section
variable {R : Rds} {g : Nat} {S : Sto} {ps : List RB} {vf vr : Value} {Mf : List (Obr × (Value × Seg))} {Mr : List (Sub × (Value × Seg))}
theorem there1_spec (h : SV R g S ps vf vr Mf Mr) (q : Nat) [pc : PC R (.pointer (some ⟨q, 0, none⟩)) [.pointer (some ⟨g, 0, none⟩)]] (t : Tpl) :
    Spec Try.prog 99 [.agg t.enc.toArray, .pointer (some ⟨q, 0, none⟩)] R [] fun v H' => v = .bool (sthere S.rows t) ∧ H' = [] := by
  refine Spec.body Try.func99 rfl Try.results99 Try.ntmps99 rfl ?_
  refine .seq ?_
  refine .region ?_
  refine TriOps.boxA rfl (fun b2 => ?_)
  refine TriOps.q .assign ?_
  refine .nil ?_
  refine seqQ_n ?_
  refine .seq ?_
  refine .region ?_
  refine TriOps.q (.load1 rfl) ?_
  refine TriOps.q (.loadA rfl) ?_
  refine TriOps.callR (find_spec (h.mono fun b o hb => .inl hb) t) (fun v hv => ?_)
  obtain ⟨o, rfl, ho⟩ := hv.ptr h.eq
  have io : One (.pointer o) := ⟨rfl⟩
  refine TriOps.q (.neNilA rfl rfl) ?_
  refine TriOps.q .assign ?_
  refine .nil ?_
  refine seqQ_n ?_
  refine .ret (retQ_r _ (.one (.tmp rfl)) (.none _) ?_)
  exact ⟨by rw [ho], rfl⟩
theorem away1_spec (h : SV R g S ps vf vr Mf Mr) (q : Nat) [pc : PC R (.pointer (some ⟨q, 0, none⟩)) [.pointer (some ⟨g, 0, none⟩)]] (t : Tpl) :
    Spec Try.prog 100 [.agg t.enc.toArray, .pointer (some ⟨q, 0, none⟩)] R [] fun v H' => v = .bool (!sthere S.rows t) ∧ H' = [] := by
  refine Spec.body Try.func100 rfl Try.results100 Try.ntmps100 rfl ?_
  refine .seq ?_
  refine .region ?_
  refine TriOps.boxA rfl (fun b2 => ?_)
  refine TriOps.q .assign ?_
  refine .nil ?_
  refine seqQ_n ?_
  refine .seq ?_
  refine .region ?_
  refine TriOps.q (.load1 rfl) ?_
  refine TriOps.q (.loadA rfl) ?_
  refine TriOps.callR (find_spec (h.mono fun b o hb => .inl hb) t) (fun v hv => ?_)
  obtain ⟨o, rfl, ho⟩ := hv.ptr h.eq
  have io : One (.pointer o) := ⟨rfl⟩
  refine TriOps.q (.eqNilA rfl rfl) ?_
  refine TriOps.q .assign ?_
  refine .nil ?_
  refine seqQ_n ?_
  refine .ret (retQ_r _ (.one (.tmp rfl)) (.none _) ?_)
  exact ⟨by rw [ho, Bool.not_not], rfl⟩
theorem put1_spec (h : SV R g S ps vf vr Mf Mr) (q q2 : Nat) [pc : PC R (.pointer (some ⟨q, 0, none⟩)) [.pointer (some ⟨g, 0, none⟩)]] [pc2 : PC R (.pointer (some ⟨q2, 0, none⟩)) [.func (.func 99) #[] [.pointer (some ⟨q, 0, none⟩)].toArray]] (c : Chg) :
    Spec Try.prog 102 [.agg c.enc.toArray, .pointer (some ⟨q2, 0, none⟩)] R [] fun v H' => v = .bool (c.put && sthere S.rows c.t) ∧ H' = [] := by
  refine Spec.body Try.func102 rfl Try.results102 Try.ntmps102 rfl ?_
  refine .seq ?_
  refine .region ?_
  refine TriOps.boxA rfl (fun b2 => ?_)
  refine TriOps.q .assign ?_
  refine .nil ?_
  refine seqQ_n ?_
  refine .seq ?_
  refine .region ?_
  refine TriOps.q (.fieldAddr rfl) ?_
  refine TriOps.q (.load1 rfl) ?_
  refine TriOps.q .move ?_
  refine TriOps.split (t := 6) rfl (fun g1_2 => ?_) (fun g1_2 => ?_)
  · skip
    refine TriOps.gT g1_2 ?_
    refine TriOps.q (.load1 rfl) ?_
    refine TriOps.gT g1_2 ?_
    refine TriOps.q (.fieldAddr rfl) ?_
    refine TriOps.gT g1_2 ?_
    refine TriOps.q (.loadT rfl) ?_
    refine TriOps.gT g1_2 ?_
    refine TriOps.callRV (first := []) (captured := [.pointer (some ⟨q, 0, none⟩)]) (vs := [.agg c.t.enc.toArray]) (there1_spec (h.mono fun b o hb => .inl hb) q c.t) (fun u hu => ?_)
    subst hu
    refine TriOps.q (.pickTh g1_2) ?_
    refine TriOps.q .assign ?_
    refine .nil ?_
    refine seqQ_n ?_
    refine .ret (retQ_r _ (.one (.tmp rfl)) (.none _) ?_)
    refine ⟨congrArg _ ?_, rfl⟩
    simp_all
  · skip
    refine TriOps.gF g1_2 ?_
    refine TriOps.gF g1_2 ?_
    refine TriOps.gF g1_2 ?_
    refine TriOps.gF g1_2 ?_
    refine TriOps.q (.pickFh g1_2) ?_
    refine TriOps.q .assign ?_
    refine .nil ?_
    refine seqQ_n ?_
    refine .ret (retQ_r _ (.one (.tmp rfl)) (.none _) ?_)
    refine ⟨congrArg _ ?_, rfl⟩
    simp_all
theorem del1_spec (h : SV R g S ps vf vr Mf Mr) (q q2 : Nat) [pc : PC R (.pointer (some ⟨q, 0, none⟩)) [.pointer (some ⟨g, 0, none⟩)]] [pc2 : PC R (.pointer (some ⟨q2, 0, none⟩)) [.func (.func 100) #[] [.pointer (some ⟨q, 0, none⟩)].toArray]] (c : Chg) :
    Spec Try.prog 103 [.agg c.enc.toArray, .pointer (some ⟨q2, 0, none⟩)] R [] fun v H' => v = .bool (!c.put && !sthere S.rows c.t) ∧ H' = [] := by
  refine Spec.body Try.func103 rfl Try.results103 Try.ntmps103 rfl ?_
  refine .seq ?_
  refine .region ?_
  refine TriOps.boxA rfl (fun b2 => ?_)
  refine TriOps.q .assign ?_
  refine .nil ?_
  refine seqQ_n ?_
  refine .seq ?_
  refine .region ?_
  refine TriOps.q (.fieldAddr rfl) ?_
  refine TriOps.q (.load1 rfl) ?_
  refine TriOps.q .not ?_
  refine TriOps.q .move ?_
  refine TriOps.split (t := 7) rfl (fun g1_3 => ?_) (fun g1_3 => ?_)
  · skip
    refine TriOps.gT g1_3 ?_
    refine TriOps.q (.load1 rfl) ?_
    refine TriOps.gT g1_3 ?_
    refine TriOps.q (.fieldAddr rfl) ?_
    refine TriOps.gT g1_3 ?_
    refine TriOps.q (.loadT rfl) ?_
    refine TriOps.gT g1_3 ?_
    refine TriOps.callRV (first := []) (captured := [.pointer (some ⟨q, 0, none⟩)]) (vs := [.agg c.t.enc.toArray]) (away1_spec (h.mono fun b o hb => .inl hb) q c.t) (fun u hu => ?_)
    subst hu
    refine TriOps.q (.pickTh g1_3) ?_
    refine TriOps.q .assign ?_
    refine .nil ?_
    refine seqQ_n ?_
    refine .ret (retQ_r _ (.one (.tmp rfl)) (.none _) ?_)
    refine ⟨congrArg _ ?_, rfl⟩
    simp_all
  · skip
    refine TriOps.gF g1_3 ?_
    refine TriOps.gF g1_3 ?_
    refine TriOps.gF g1_3 ?_
    refine TriOps.gF g1_3 ?_
    refine TriOps.q (.pickFh g1_3) ?_
    refine TriOps.q .assign ?_
    refine .nil ?_
    refine seqQ_n ?_
    refine .ret (retQ_r _ (.one (.tmp rfl)) (.none _) ?_)
    refine ⟨congrArg _ ?_, rfl⟩
    simp_all
theorem sputs_next {cs : List Chg} {i : Nat} {c : Chg} (h : cs[i]? = some c) : sputs (cs.take (i + 1)) = sputs (cs.take i) + if c.put then 1 else 0 := by
  have htk : cs.take (i + 1) = cs.take i ++ [c] := by rw [List.take_add_one, h]; rfl
  unfold sputs
  rw [htk, List.filter_append, List.length_append]
  cases hp : c.put <;> simp [List.filter_cons, hp]
theorem fits_spec (h : SV R g S ps vf vr Mf Mr) (hl : S.rows.length ≤ 4096) (vm vn vc : Value) (must no : List Tpl) (cs : List Chg) (hM : RS R 7 Tpl.enc vm must) (hN : RS R 7 Tpl.enc vn no) (hC : RS R 8 Chg.enc vc cs) :
    Spec Try.prog 73 [.pointer (some ⟨g, 0, none⟩), vm, vn, vc] R [] fun u H' => u = .int .i64 (sfits S.rows S.head must no cs) ∧ H' = [] := by
  have lm := hM.le
  have ln := hN.le
  have lc := hC.le
  have pc := h.pc
  have iof := h.of
  have ior := h.or
  have hpl : ps.length = S.rows.length := by rw [← h.eq, List.length_map]
  obtain ⟨pm, km, rfl⟩ := hM.val
  obtain ⟨pn, kn, rfl⟩ := hN.val
  obtain ⟨pv, kc, rfl⟩ := hC.val
  refine Spec.body Try.func73 rfl Try.results73 Try.ntmps73 rfl ?_
  refine .seq ?_
  refine .region ?_
  refine TriOps.box1 rfl (fun b4 => ?_)
  refine TriOps.q .assign ?_
  refine .nil ?_
  refine seqQ_n ?_
  refine .seq ?_
  refine .region ?_
  refine TriOps.q .makeFunc ?_
  refine TriOps.alloc1 (fun b9 => ?_)
  refine TriOps.store1 rfl rfl ?_
  refine .nil ?_
  refine seqQ_n ?_
  refine .seq ?_
  refine .region ?_
  refine TriOps.q .makeFunc ?_
  refine TriOps.alloc1 (fun b10 => ?_)
  refine TriOps.store1 rfl rfl ?_
  refine .nil ?_
  refine seqQ_n ?_
  refine .seq ?_
  refine .seq ?_
  refine .region ?_
  refine TriOps.q .move ?_
  refine TriOps.q (.load1 rfl) ?_
  refine TriOps.callR (LTP.containsF_spec 100 [.pointer (some ⟨b4, 0, none⟩)] (fun t => !sthere S.rows t) _ must _ hM.rx fun t ht R' hR => by
    have := PC.of (E := 76) (fr := (0, 0)) (R := R') (b := b4) (vs := [.pointer (some ⟨g, 0, none⟩)]) (hR _ _ (.inr (by simp [setL])))
    exact away1_spec (h.mono fun b o hb => hR _ _ (.inl hb)) b4 t) (fun u hu => ?_)
  subst hu
  refine TriOps.q .move ?_
  refine TriOps.split (t := 19) rfl (fun g3_3 => ?_) (fun g3_3 => ?_)
  · skip
    refine TriOps.gF g3_3 ?_
    refine TriOps.gF g3_3 ?_
    refine TriOps.gF g3_3 ?_
    refine TriOps.q (.pickTh g3_3) ?_
    refine .nil ?_
    refine seqQ_n ?_
    refine .condT ?_
    refine .seq ?_
    refine .region ?_
    refine TriOps.q .assign ?_
    refine .nil ?_
    refine seqQ_n ?_
    refine .ret (seqQ_r (retQ_r _ (.one (.tmp rfl)) (.none _) ?_))
    exact ⟨by unfold sfits; rw [g3_3, Bool.true_or, if_pos rfl], rfl⟩
  · skip
    refine TriOps.gT g3_3 ?_
    refine TriOps.q .move ?_
    refine TriOps.gT g3_3 ?_
    refine TriOps.q (.load1 rfl) ?_
    refine TriOps.gT g3_3 ?_
    refine TriOps.callR (LTP.containsF_spec 99 [.pointer (some ⟨b4, 0, none⟩)] (fun t => sthere S.rows t) _ no _ hN.rx fun t ht R' hR => by
      have := PC.of (E := 76) (fr := (0, 0)) (R := R') (b := b4) (vs := [.pointer (some ⟨g, 0, none⟩)]) (hR _ _ (.inr (by simp [setL])))
      exact there1_spec (h.mono fun b o hb => hR _ _ (.inl hb)) b4 t) (fun u hu => ?_)
    subst hu
    refine TriOps.q (.pickFh g3_3) ?_
    refine .nil ?_
    refine seqQ_n ?_
    refine .cond rfl (fun h1 => ?_) (fun h1 => ?_)
    · skip
      refine .seq ?_
      refine .region ?_
      refine TriOps.q .assign ?_
      refine .nil ?_
      refine seqQ_n ?_
      refine .ret (seqQ_r (retQ_r _ (.one (.tmp rfl)) (.none _) ?_))
      exact ⟨by unfold sfits; rw [h1, Bool.or_true, if_pos rfl], rfl⟩
    · skip
      refine .skip ?_
      refine seqQ_n ?_
      refine .seq ?_
      refine .seq ?_
      refine .region ?_
      refine TriOps.q .move ?_
      refine TriOps.q .makeFunc ?_
      refine TriOps.callR (LCH.containsF_spec 102 [.pointer (some ⟨b9, 0, none⟩)] (fun c => c.put && sthere S.rows c.t) _ cs _ hC.rx fun c ht R' hR => by
        have := PC.of (E := 76) (fr := (0, 0)) (R := R') (b := b4) (vs := [.pointer (some ⟨g, 0, none⟩)]) (hR _ _ (.inr (by simp [setL])))
        have := PC.of (E := 163) (fr := (0, 0)) (R := R') (b := b9) (vs := [.func (.func 99) #[] [.pointer (some ⟨b4, 0, none⟩)].toArray]) (hR _ _ (.inr (by simp [setL])))
        exact put1_spec (h.mono fun b o hb => hR _ _ (.inl hb)) b4 b9 c) (fun u hu => ?_)
      subst hu
      refine .nil ?_
      refine seqQ_n ?_
      refine .cond rfl (fun h2 => ?_) (fun h2 => ?_)
      · skip
        refine .seq ?_
        refine .region ?_
        refine TriOps.q .assign ?_
        refine .nil ?_
        refine seqQ_n ?_
        refine .ret (seqQ_r (retQ_r _ (.one (.tmp rfl)) (.none _) ?_))
        exact ⟨by unfold sfits; rw [g3_3, h1, Bool.or_false, if_neg (by simp), h2, if_pos rfl], rfl⟩
      · skip
        refine .skip ?_
        refine seqQ_n ?_
        refine .seq ?_
        refine .seq ?_
        refine .region ?_
        refine TriOps.q .move ?_
        refine TriOps.q .makeFunc ?_
        refine TriOps.callR (LCH.containsF_spec 103 [.pointer (some ⟨b10, 0, none⟩)] (fun c => !c.put && !sthere S.rows c.t) _ cs _ hC.rx fun c ht R' hR => by
          have := PC.of (E := 76) (fr := (0, 0)) (R := R') (b := b4) (vs := [.pointer (some ⟨g, 0, none⟩)]) (hR _ _ (.inr (by simp [setL])))
          have := PC.of (E := 163) (fr := (0, 0)) (R := R') (b := b10) (vs := [.func (.func 100) #[] [.pointer (some ⟨b4, 0, none⟩)].toArray]) (hR _ _ (.inr (by simp [setL])))
          exact del1_spec (h.mono fun b o hb => hR _ _ (.inl hb)) b4 b10 c) (fun u hu => ?_)
        subst hu
        refine .nil ?_
        refine seqQ_n ?_
        refine .cond rfl (fun h3 => ?_) (fun h3 => ?_)
        · skip
          refine .seq ?_
          refine .region ?_
          refine TriOps.q .assign ?_
          refine .nil ?_
          refine seqQ_n ?_
          refine .ret (seqQ_r (retQ_r _ (.one (.tmp rfl)) (.none _) ?_))
          exact ⟨by unfold sfits; rw [g3_3, h1, Bool.or_false, if_neg (by simp), h2, if_neg (by simp), h3, if_pos rfl], rfl⟩
        · skip
          refine .skip ?_
          refine seqQ_n ?_
          refine .seq ?_
          refine .region ?_
          refine TriOps.q .assign ?_
          refine .nil ?_
          refine seqQ_n ?_
          refine .seq ?_
          refine .seq ?_
          refine .region ?_
          refine TriOps.q .move ?_
          refine TriOps.q (.lenR hC) ?_
          refine TriOps.q .move ?_
          refine .nil ?_
          refine seqQ_n ?_
          refine .block ?_
          refine .loop (X := Nat) (fun i => i ≤ cs.length) (fun i => [(4, .pointer (some ⟨b4, 0, none⟩)), (11, .int .i64 (sputs (cs.take i) : Nat)), (30, .slice pv cs.length kc), (31, .int .i64 (cs.length : Nat)), (32, .int .i64 (i : Nat))]) (fun _ => [[(b4, .cells [.pointer (some ⟨g, 0, none⟩)].toArray 76 (0, 0))]]) (fun i => cs.length - i) 0 (Nat.zero_le _) ((((((EnvLe.nil _).cons rfl).cons rfl).cons rfl).cons rfl).cons rfl) (HLe.pick [2] _) ?_
          rintro i hi
          have hsp : sputs (cs.take i) ≤ i := Nat.le_trans (List.length_filter_le _ _) (by rw [List.length_take]; omega)
          refine .seq ?_
          refine .region ?_
          refine TriOps.q .lss ?_
          refine .nil ?_
          refine seqQ_n ?_
          refine .seq ?_
          refine .cond rfl (fun h4 => ?_) (fun h4 => ?_)
          · skip
            have hlt : i < cs.length := by have := of_decide_eq_true h4; omega
            obtain ⟨c, hc⟩ : ∃ c, cs[i]? = some c := ⟨_, List.getElem?_eq_getElem hlt⟩
            have hsn := sputs_next hc
            refine .skip ?_
            refine seqQ_n ?_
            refine .seq ?_
            refine .block ?_
            refine .seq ?_
            refine .region ?_
            refine TriOps.indexR i hC hc (fun p34 => ?_)
            refine TriOps.q (.loadA rfl) ?_
            refine TriOps.allocA (fun b13 => ?_)
            refine TriOps.storeA rfl rfl ?_
            refine .nil ?_
            refine seqQ_n ?_
            refine .seq ?_
            refine .region ?_
            refine TriOps.q (.fieldAddr rfl) ?_
            refine TriOps.q (.load1 rfl) ?_
            refine .nil ?_
            refine seqQ_n ?_
            refine .cond rfl (fun h5 => ?_) (fun h5 => ?_)
            · skip
              refine .region ?_
              refine TriOps.q .move ?_
              refine TriOps.q (.i64 ((sputs (cs.take i) + 1 : Nat) : Int) .add ⟨by omega, by omega, by omega⟩) ?_
              refine TriOps.q .assign ?_
              refine .nil ?_
              refine blkQ_n (seqQ_n ?_)
              refine .region ?_
              refine TriOps.q (.i64 ((i + 1 : Nat) : Int) .add ⟨by omega, by omega, by omega⟩) ?_
              refine TriOps.q .move ?_
              refine .nil ?_
              first
                | exact loopQ_i (i + 1) hlt (by omega) (by rw [hsn, if_pos h5]; exact (((((EnvLe.nil _).cons rfl).cons rfl).cons rfl).cons rfl).cons rfl) (HLe.pick [1] _)
                | exact loopQ_i (i + 1) hlt (by omega) (by rw [hsn, if_neg (by rw [h5]; simp)]; exact (((((EnvLe.nil _).cons rfl).cons rfl).cons rfl).cons rfl).cons rfl) (HLe.pick [1] _)
            · skip
              refine .skip ?_
              refine blkQ_n (seqQ_n ?_)
              refine .region ?_
              refine TriOps.q (.i64 ((i + 1 : Nat) : Int) .add ⟨by omega, by omega, by omega⟩) ?_
              refine TriOps.q .move ?_
              refine .nil ?_
              first
                | exact loopQ_i (i + 1) hlt (by omega) (by rw [hsn, if_pos h5]; exact (((((EnvLe.nil _).cons rfl).cons rfl).cons rfl).cons rfl).cons rfl) (HLe.pick [1] _)
                | exact loopQ_i (i + 1) hlt (by omega) (by rw [hsn, if_neg (by rw [h5]; simp)]; exact (((((EnvLe.nil _).cons rfl).cons rfl).cons rfl).cons rfl).cons rfl) (HLe.pick [1] _)
          · skip
            have hie : i = cs.length := by have := of_decide_eq_false h4; omega
            subst hie
            rw [List.take_length]
            refine .exit (seqQ_x (loopQ_x (blkQ_x ?_)))
            refine seqQ_n ?_
            refine .seq ?_
            refine .seq ?_
            refine .region ?_
            refine TriOps.q (.load1 rfl) ?_
            refine TriOps.q (.nilCheck rfl) ?_
            refine TriOps.q (.fieldAddr rfl) ?_
            refine TriOps.q (.load1 rfl) ?_
            refine TriOps.q .geq ?_
            refine TriOps.q .move ?_
            refine TriOps.split (t := 46) rfl (fun g16_5 => ?_) (fun g16_5 => ?_)
            · skip
              refine TriOps.gF g16_5 ?_
              refine TriOps.gF g16_5 ?_
              refine TriOps.gF g16_5 ?_
              refine TriOps.gF g16_5 ?_
              refine TriOps.gF g16_5 ?_
              refine TriOps.gF g16_5 ?_
              refine TriOps.gF g16_5 ?_
              refine TriOps.q (.pickTh g16_5) ?_
              refine .nil ?_
              refine seqQ_n ?_
              refine .condT ?_
              refine .seq ?_
              refine .region ?_
              refine TriOps.q .assign ?_
              refine .nil ?_
              refine seqQ_n ?_
              refine .ret (seqQ_r (retQ_r _ (.one (.tmp rfl)) (.none _) ?_))
              exact ⟨by unfold sfits; rw [g3_3, h1, Bool.or_false, if_neg (by simp), h2, if_neg (by simp), h3, if_neg (by simp), if_pos (.inl (of_decide_eq_true g16_5))], rfl⟩
            · skip
              refine TriOps.gT g16_5 ?_
              refine TriOps.q .move ?_
              refine TriOps.gT g16_5 ?_
              refine TriOps.q (.load1 rfl) ?_
              refine TriOps.gT g16_5 ?_
              refine TriOps.q (.nilCheck rfl) ?_
              refine TriOps.gT g16_5 ?_
              refine TriOps.q (.fieldAddr rfl) ?_
              refine TriOps.gT g16_5 ?_
              refine TriOps.q (.load1 rfl) ?_
              refine TriOps.gT g16_5 ?_
              refine TriOps.q (.i64 ((4096 - (ps.length : Nat) : Nat) : Int) .sub ⟨by omega, by omega, by omega⟩) ?_
              refine TriOps.gT g16_5 ?_
              refine TriOps.q .gtr ?_
              refine TriOps.q (.pickFh g16_5) ?_
              refine .nil ?_
              refine seqQ_n ?_
              refine .cond rfl (fun h6 => ?_) (fun h6 => ?_)
              · skip
                refine .seq ?_
                refine .region ?_
                refine TriOps.q .assign ?_
                refine .nil ?_
                refine seqQ_n ?_
                refine .ret (seqQ_r (retQ_r _ (.one (.tmp rfl)) (.none _) ?_))
                exact ⟨by unfold sfits; rw [g3_3, h1, Bool.or_false, if_neg (by simp), h2, if_neg (by simp), h3, if_neg (by simp), if_pos (.inr (by have := of_decide_eq_true h6; omega))], rfl⟩
              · skip
                refine .skip ?_
                refine seqQ_n ?_
                refine .seq ?_
                refine .region ?_
                refine TriOps.q .assign ?_
                refine .nil ?_
                refine seqQ_n ?_
                refine .ret (retQ_r _ (.one (.tmp rfl)) (.none _) ?_)
                exact ⟨by unfold sfits; rw [g3_3, h1, Bool.or_false, if_neg (by simp), h2, if_neg (by simp), h3, if_neg (by simp), if_neg (by have h8 := of_decide_eq_false h6; have h9 := of_decide_eq_false g16_5; omega)], rfl⟩
end
end Go.Proofs.Ytkepgbimlolemaa
