/- A store: why changes cannot be done. No condition. -/
import Derived.Test.YtkepgbimlolemaaStoD
import Derived.Test.YtkepgbimlolemaaLTP
import Derived.Test.YtkepgbimlolemaaLCH
set_option linter.unusedVariables false
set_option linter.unusedSimpArgs false
set_option maxRecDepth 4000
namespace Go.Proofs.Ytkepgbimlolemaa
def tupMap (M : List (Tpl × Bool)) (l : List Tpl) : Prop := ∀ k, mget k M = if k ∈ l then some true else none
theorem tupMap.add {M : List (Tpl × Bool)} {l : List Tpl} (h : tupMap M l) (t : Tpl) : tupMap (mset t true M) (l ++ [t]) := fun k => by
  rw [mget_mset, h k]
  by_cases h1 : k = t <;> by_cases h2 : k ∈ l <;> simp [h1, h2]
theorem nodup_snoc {l : List Tpl} {a : Tpl} : (!decide (l ++ [a]).Nodup) = ((!decide l.Nodup) || decide (a ∈ l)) := by
  have h : (l ++ [a]).Nodup ↔ l.Nodup ∧ a ∉ l := by
    rw [List.nodup_append]
    constructor
    · rintro ⟨h1, _, h3⟩
      exact ⟨h1, fun h => h3 a h a (by simp) rfl⟩
    · rintro ⟨h1, h2⟩
      refine ⟨h1, by simp, fun x hx y hy => ?_⟩
      simp only [List.mem_singleton] at hy
      subst hy
      exact fun e => h2 (e ▸ hx)
  by_cases h1 : l.Nodup <;> by_cases h2 : a ∈ l <;> simp [h, h1, h2]
theorem scheck_len {must no : List Tpl} {cs : List Chg} (h : 32 < cs.length ∨ cs.length = 0 ∨ 32 < must.length ∨ 32 < no.length) : scheck must no cs = 25 := by unfold scheck; rw [if_pos h]
theorem scheck_name {must no : List Tpl} {cs : List Chg} (h : ¬ (32 < cs.length ∨ cs.length = 0 ∨ 32 < must.length ∨ 32 < no.length)) (h2 : (must.any (fun t => !isTpl t) || no.any (fun t => !isTpl t) || cs.any (fun c => !isTpl c.t)) = true) : scheck must no cs = 9 := by unfold scheck; rw [if_neg h, if_pos h2]
theorem scheck_end {must no : List Tpl} {cs : List Chg} (h : ¬ (32 < cs.length ∨ cs.length = 0 ∨ 32 < must.length ∨ 32 < no.length)) (h2 : must.any (fun t => !isTpl t) = false) (h3 : no.any (fun t => !isTpl t) = false) (h4 : ∀ c ∈ cs, isTpl c.t = true) (b : Bool) (hb : b = !decide (cs.map (·.t)).Nodup) : scheck must no cs = if b then 2 else 0 := by
  have h5 : cs.any (fun c => !isTpl c.t) = false := by
    rw [List.any_eq_false]
    intro c hc
    rw [h4 c hc]; simp
  unfold scheck
  rw [if_neg h, h2, h3, h5, if_neg (by simp), hb]
  by_cases h6 : (cs.map (·.t)).Nodup <;> simp [h6]
theorem check_spec (vm vn vc : Value) (must no : List Tpl) (cs : List Chg) (R : Rds) (hM : RS R 7 Tpl.enc vm must) (hN : RS R 7 Tpl.enc vn no) (hC : RS R 8 Chg.enc vc cs) (fm : ∀ t ∈ must, t.fits) (fn : ∀ t ∈ no, t.fits) (fc : ∀ c ∈ cs, c.t.fits) :
    Spec Try.prog 72 [vm, vn, vc] R [] fun u H' => u = .int .i64 (scheck must no cs) ∧ H' = [] := by
  have lm := hM.le
  have ln := hN.le
  have lc := hC.le
  obtain ⟨pm, km, rfl⟩ := hM.val
  obtain ⟨pn, kn, rfl⟩ := hN.val
  obtain ⟨pc, kc, rfl⟩ := hC.val
  refine Spec.body Try.func72 rfl Try.results72 Try.ntmps72 rfl ?_
  refine .seq ?_
  refine .region ?_
  refine TriOps.q .assign ?_
  refine .nil ?_
  refine seqQ_n ?_
  refine .seq ?_
  refine .seq ?_
  refine .region ?_
  refine TriOps.q .move ?_
  refine TriOps.q (.lenR hC) ?_
  refine TriOps.q .gtr ?_
  refine TriOps.q .move ?_
  refine TriOps.split (t := 14) rfl (fun g1_3 => ?_) (fun g1_3 => ?_)
  · skip
    refine TriOps.gF g1_3 ?_
    refine TriOps.gF g1_3 ?_
    refine TriOps.gF g1_3 ?_
    refine TriOps.q (.pickTh g1_3) ?_
    refine TriOps.q .move ?_
    refine TriOps.gf rfl rfl ?_
    refine TriOps.gf rfl rfl ?_
    refine TriOps.gf rfl rfl ?_
    refine TriOps.q .pickT ?_
    refine TriOps.q .move ?_
    refine TriOps.gf rfl rfl ?_
    refine TriOps.gf rfl rfl ?_
    refine TriOps.gf rfl rfl ?_
    refine TriOps.q .pickT ?_
    refine .nil ?_
    refine seqQ_n ?_
    refine .condT ?_
    refine .seq ?_
    refine .region ?_
    refine TriOps.q .assign ?_
    refine .nil ?_
    refine seqQ_n ?_
    refine .ret (seqQ_r (retQ_r _ (.one (.tmp rfl)) (.none _) ?_))
    exact ⟨by rw [scheck_len (.inl (by have := of_decide_eq_true g1_3; omega))], rfl⟩
  · skip
    refine TriOps.gT g1_3 ?_
    refine TriOps.q .move ?_
    refine TriOps.gT g1_3 ?_
    refine TriOps.q (.lenR hC) ?_
    refine TriOps.gT g1_3 ?_
    refine TriOps.q .eqI ?_
    refine TriOps.q (.pickFh g1_3) ?_
    refine TriOps.q .move ?_
    refine TriOps.split (t := 19) rfl (fun g1_8 => ?_) (fun g1_8 => ?_)
    · skip
      refine TriOps.gF g1_8 ?_
      refine TriOps.gF g1_8 ?_
      refine TriOps.gF g1_8 ?_
      refine TriOps.q (.pickTh g1_8) ?_
      refine TriOps.q .move ?_
      refine TriOps.gf rfl rfl ?_
      refine TriOps.gf rfl rfl ?_
      refine TriOps.gf rfl rfl ?_
      refine TriOps.q .pickT ?_
      refine .nil ?_
      refine seqQ_n ?_
      refine .condT ?_
      refine .seq ?_
      refine .region ?_
      refine TriOps.q .assign ?_
      refine .nil ?_
      refine seqQ_n ?_
      refine .ret (seqQ_r (retQ_r _ (.one (.tmp rfl)) (.none _) ?_))
      exact ⟨by rw [scheck_len (.inr (.inl (by have := eq_of_beq g1_8; omega)))], rfl⟩
    · skip
      refine TriOps.gT g1_8 ?_
      refine TriOps.q .move ?_
      refine TriOps.gT g1_8 ?_
      refine TriOps.q (.lenR hM) ?_
      refine TriOps.gT g1_8 ?_
      refine TriOps.q .gtr ?_
      refine TriOps.q (.pickFh g1_8) ?_
      refine TriOps.q .move ?_
      refine TriOps.split (t := 24) rfl (fun g1_13 => ?_) (fun g1_13 => ?_)
      · skip
        refine TriOps.gF g1_13 ?_
        refine TriOps.gF g1_13 ?_
        refine TriOps.gF g1_13 ?_
        refine TriOps.q (.pickTh g1_13) ?_
        refine .nil ?_
        refine seqQ_n ?_
        refine .condT ?_
        refine .seq ?_
        refine .region ?_
        refine TriOps.q .assign ?_
        refine .nil ?_
        refine seqQ_n ?_
        refine .ret (seqQ_r (retQ_r _ (.one (.tmp rfl)) (.none _) ?_))
        exact ⟨by rw [scheck_len (.inr (.inr (.inl (by have := of_decide_eq_true g1_13; omega))))], rfl⟩
      · skip
        refine TriOps.gT g1_13 ?_
        refine TriOps.q .move ?_
        refine TriOps.gT g1_13 ?_
        refine TriOps.q (.lenR hN) ?_
        refine TriOps.gT g1_13 ?_
        refine TriOps.q .gtr ?_
        refine TriOps.q (.pickFh g1_13) ?_
        refine .nil ?_
        refine seqQ_n ?_
        refine .cond rfl (fun h1 => ?_) (fun h1 => ?_)
        · skip
          refine .seq ?_
          refine .region ?_
          refine TriOps.q .assign ?_
          refine .nil ?_
          refine seqQ_n ?_
          refine .ret (seqQ_r (retQ_r _ (.one (.tmp rfl)) (.none _) ?_))
          exact ⟨by rw [scheck_len (.inr (.inr (.inr (by have := of_decide_eq_true h1; omega))))], rfl⟩
        · skip
          have hL : ¬ (32 < cs.length ∨ cs.length = 0 ∨ 32 < must.length ∨ 32 < no.length) := by simp_all; try omega
          refine .skip ?_
          refine seqQ_n ?_
          refine .seq ?_
          refine .seq ?_
          refine .region ?_
          refine TriOps.q .move ?_
          refine TriOps.callR (LTP.containsF_spec 98 [] (fun t => !isTpl t) _ must _ hM.rx fun t ht R' hR => odd_spec t (fm t ht) R') (fun u hu => ?_)
          subst hu
          refine TriOps.q .move ?_
          refine TriOps.split (t := 31) rfl (fun g3_2 => ?_) (fun g3_2 => ?_)
          · skip
            refine TriOps.gF g3_2 ?_
            refine TriOps.gF g3_2 ?_
            refine TriOps.q (.pickTh g3_2) ?_
            refine .nil ?_
            refine seqQ_n ?_
            refine .condT ?_
            refine .seq ?_
            refine .region ?_
            refine TriOps.q .assign ?_
            refine .nil ?_
            refine seqQ_n ?_
            refine .ret (seqQ_r (retQ_r _ (.one (.tmp rfl)) (.none _) ?_))
            exact ⟨by rw [scheck_name hL (by rw [g3_2]; rfl)], rfl⟩
          · skip
            refine TriOps.gT g3_2 ?_
            refine TriOps.q .move ?_
            refine TriOps.gT g3_2 ?_
            refine TriOps.callR (LTP.containsF_spec 98 [] (fun t => !isTpl t) _ no _ hN.rx fun t ht R' hR => odd_spec t (fn t ht) R') (fun u hu => ?_)
            subst hu
            refine TriOps.q (.pickFh g3_2) ?_
            refine .nil ?_
            refine seqQ_n ?_
            refine .cond rfl (fun h2 => ?_) (fun h2 => ?_)
            · skip
              refine .seq ?_
              refine .region ?_
              refine TriOps.q .assign ?_
              refine .nil ?_
              refine seqQ_n ?_
              refine .ret (seqQ_r (retQ_r _ (.one (.tmp rfl)) (.none _) ?_))
              exact ⟨by rw [scheck_name hL (by rw [h2, Bool.or_true, Bool.true_or])], rfl⟩
            · skip
              refine .skip ?_
              refine seqQ_n ?_
              refine .seq ?_
              refine .region ?_
              refine TriOps.makeMap (fun b35 => ?_)
              refine TriOps.q .assign ?_
              refine .nil ?_
              refine seqQ_n ?_
              refine .seq ?_
              refine .region ?_
              refine TriOps.q .assign ?_
              refine .nil ?_
              refine seqQ_n ?_
              refine .seq ?_
              refine .seq ?_
              refine .region ?_
              refine TriOps.q .move ?_
              refine TriOps.q (.lenR hC) ?_
              refine TriOps.q .move ?_
              refine .nil ?_
              refine seqQ_n ?_
              refine .block ?_
              refine .loop (X := Nat × Bool × List (Tpl × Bool) × Seg) (fun y => (y.1 ≤ cs.length ∧ ∀ c ∈ cs.take y.1, isTpl c.t = true) ∧ y.2.1 = !decide ((cs.take y.1).map (·.t)).Nodup ∧ tupMap y.2.2.1 ((cs.take y.1).map (·.t)) ∧ MS (fun k : Tpl => .agg k.enc.toArray) (fun b : Bool => .bool b) (.map (some b35)) y.2.2.1 y.2.2.2) (fun y => [(7, .map (some b35)), (8, .bool y.2.1), (36, .slice pc cs.length kc), (37, .int .i64 (cs.length : Nat)), (38, .int .i64 (y.1 : Nat))]) (fun y => [y.2.2.2]) (fun y => cs.length - y.1) (0, false, [], [(b35, .map #[] 0)]) ⟨⟨Nat.zero_le _, by simp⟩, by simp, fun k => by simp [mget], MS.nil⟩ ((((((EnvLe.nil _).cons rfl).cons rfl).cons rfl).cons rfl).cons rfl) (HLe.refl _) ?_
              rintro ⟨i, tw, M, Tm⟩ ⟨⟨hi, hr⟩, htw, hM2, hMS⟩
              simp only at hi hr htw hM2 hMS ⊢
              refine .seq ?_
              refine .region ?_
              refine TriOps.q .lss ?_
              refine .nil ?_
              refine seqQ_n ?_
              refine .seq ?_
              refine .cond rfl (fun h3 => ?_) (fun h3 => ?_)
              · skip
                have hlt : i < cs.length := by have := of_decide_eq_true h3; omega
                obtain ⟨c, hc⟩ : ∃ c, cs[i]? = some c := ⟨_, List.getElem?_eq_getElem hlt⟩
                have hcm := List.mem_of_getElem? hc
                have htk : cs.take (i + 1) = cs.take i ++ [c] := by rw [List.take_add_one, hc]; rfl
                refine .skip ?_
                refine seqQ_n ?_
                refine .seq ?_
                refine .block ?_
                refine .seq ?_
                refine .region ?_
                refine TriOps.indexR i hC hc (fun p40 => ?_)
                refine TriOps.q (.loadA rfl) ?_
                refine TriOps.allocA (fun b10 => ?_)
                refine TriOps.storeA rfl rfl ?_
                refine .nil ?_
                refine seqQ_n ?_
                refine .seq ?_
                refine .seq ?_
                refine .region ?_
                refine TriOps.q (.fieldAddr rfl) ?_
                refine TriOps.q (.loadT rfl) ?_
                refine TriOps.callR (odd_spec c.t (fc c hcm) _) (fun u hu => ?_)
                subst hu
                refine .nil ?_
                refine seqQ_n ?_
                refine .cond rfl (fun h4 => ?_) (fun h4 => ?_)
                · skip
                  refine .seq ?_
                  refine .region ?_
                  refine TriOps.q .assign ?_
                  refine .nil ?_
                  refine seqQ_n ?_
                  refine .ret (seqQ_r (blkQ_r (seqQ_r (loopQ_r (blkQ_r (seqQ_r (retQ_r _ (.one (.tmp rfl)) (.none _) ?_)))))))
                  exact ⟨by rw [scheck_name hL (by rw [List.any_eq_true.2 ⟨c, hcm, h4⟩, Bool.or_true])], rfl⟩
                · skip
                  refine .skip ?_
                  refine seqQ_n ?_
                  refine .seq ?_
                  refine .region ?_
                  refine TriOps.q .move ?_
                  refine TriOps.q .move ?_
                  refine TriOps.split (t := 46) rfl (fun g12_1 => ?_) (fun g12_1 => ?_)
                  · skip
                    refine TriOps.gF g12_1 ?_
                    refine TriOps.gF g12_1 ?_
                    refine TriOps.gF g12_1 ?_
                    refine TriOps.gF g12_1 ?_
                    refine TriOps.q (.pickTh g12_1) ?_
                    refine TriOps.q .assign ?_
                    refine .nil ?_
                    refine seqQ_n ?_
                    refine .region ?_
                    refine TriOps.q .move ?_
                    refine TriOps.q (.fieldAddr rfl) ?_
                    refine TriOps.q (.loadT rfl) ?_
                    refine TriOps.update (key := c.t) (u := true) hMS rfl rfl rfl (fun Tm2 hMS2 _ => ?_)
                    refine .nil ?_
                    refine blkQ_n (seqQ_n ?_)
                    refine .region ?_
                    refine TriOps.q (.i64 ((i + 1 : Nat) : Int) .add ⟨by omega, by omega, by omega⟩) ?_
                    refine TriOps.q .move ?_
                    refine .nil ?_
                    exact loopQ_i (i + 1, _, mset c.t true M, Tm2) ⟨⟨hlt, fun d hd => by
                      rw [htk] at hd
                      rcases List.mem_append.1 hd with hd | hd
                      · exact hr d hd
                      · simp only [List.mem_singleton] at hd
                        subst hd; simpa using h4⟩, by
                      simp only
                      rw [htk, List.map_append, List.map_cons, List.map_nil, nodup_snoc, ← htw]
                      first
                        | (rw [g12_1]; rfl)
                        | (rw [g12_1, Bool.false_or]), by simp only; rw [htk, List.map_append]; exact hM2.add c.t, hMS2⟩ (by simp only; omega) ((((((EnvLe.nil _).cons rfl).cons rfl).cons rfl).cons rfl).cons rfl) (by first | exact HLe.pick [1] _ | exact HLe.refl _)
                  · skip
                    refine TriOps.gT g12_1 ?_
                    refine TriOps.q .move ?_
                    refine TriOps.gT g12_1 ?_
                    refine TriOps.q (.fieldAddr rfl) ?_
                    refine TriOps.gT g12_1 ?_
                    refine TriOps.q (.loadT rfl) ?_
                    refine TriOps.gT g12_1 ?_
                    refine TriOps.q (.lookupE hMS.rx rfl (key := c.t) rfl (show _ = Value.bool (decide (c.t ∈ (cs.take i).map (·.t))) from by rw [hM2 c.t]; split <;> simp_all)) ?_
                    refine TriOps.q (.pickFh g12_1) ?_
                    refine TriOps.q .assign ?_
                    refine .nil ?_
                    refine seqQ_n ?_
                    refine .region ?_
                    refine TriOps.q .move ?_
                    refine TriOps.q (.fieldAddr rfl) ?_
                    refine TriOps.q (.loadT rfl) ?_
                    refine TriOps.update (key := c.t) (u := true) hMS rfl rfl rfl (fun Tm2 hMS2 _ => ?_)
                    refine .nil ?_
                    refine blkQ_n (seqQ_n ?_)
                    refine .region ?_
                    refine TriOps.q (.i64 ((i + 1 : Nat) : Int) .add ⟨by omega, by omega, by omega⟩) ?_
                    refine TriOps.q .move ?_
                    refine .nil ?_
                    exact loopQ_i (i + 1, _, mset c.t true M, Tm2) ⟨⟨hlt, fun d hd => by
                      rw [htk] at hd
                      rcases List.mem_append.1 hd with hd | hd
                      · exact hr d hd
                      · simp only [List.mem_singleton] at hd
                        subst hd; simpa using h4⟩, by
                      simp only
                      rw [htk, List.map_append, List.map_cons, List.map_nil, nodup_snoc, ← htw]
                      first
                        | (rw [g12_1]; rfl)
                        | (rw [g12_1, Bool.false_or]), by simp only; rw [htk, List.map_append]; exact hM2.add c.t, hMS2⟩ (by simp only; omega) ((((((EnvLe.nil _).cons rfl).cons rfl).cons rfl).cons rfl).cons rfl) (by first | exact HLe.pick [1] _ | exact HLe.refl _)
              · skip
                refine .exit (seqQ_x (loopQ_x (blkQ_x ?_)))
                refine seqQ_n ?_
                refine .seq ?_
                refine .seq ?_
                refine .region ?_
                refine TriOps.q .move ?_
                refine .nil ?_
                refine seqQ_n ?_
                refine .cond rfl (fun h5 => ?_) (fun h5 => ?_)
                · skip
                  refine .seq ?_
                  refine .region ?_
                  refine TriOps.q .assign ?_
                  refine .nil ?_
                  refine seqQ_n ?_
                  refine .ret (seqQ_r (retQ_r _ (.one (.tmp rfl)) (.none _) ?_))
                  have hie : i = cs.length := by have := of_decide_eq_false h3; omega
                  subst hie
                  rw [List.take_length] at hr htw
                  exact ⟨by rw [scheck_end hL g3_2 h2 hr tw htw, h5]; rfl, rfl⟩
                · skip
                  refine .skip ?_
                  refine seqQ_n ?_
                  refine .seq ?_
                  refine .region ?_
                  refine TriOps.q .assign ?_
                  refine .nil ?_
                  refine seqQ_n ?_
                  refine .ret (retQ_r _ (.one (.tmp rfl)) (.none _) ?_)
                  have hie : i = cs.length := by have := of_decide_eq_false h3; omega
                  subst hie
                  rw [List.take_length] at hr htw
                  exact ⟨by rw [scheck_end hL g3_2 h2 hr tw htw, h5]; rfl, rfl⟩
end Go.Proofs.Ytkepgbimlolemaa
