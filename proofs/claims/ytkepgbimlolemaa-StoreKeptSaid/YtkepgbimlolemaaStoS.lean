/- A store: Read. No condition. -/
import Derived.Test.YtkepgbimlolemaaStoH
import Derived.Test.YtkepgbimlolemaaStoP
import Derived.Test.YtkepgbimlolemaaSTP
set_option linter.unusedVariables false
set_option linter.unusedSimpArgs false
set_option maxRecDepth 4000
namespace Go.Proofs.Ytkepgbimlolemaa
def ordc (a b : Tpl) : Int := if tlt a b then -1 else if tlt b a then 1 else 0
theorem ltc_ordc : ltc ordc = ltc tplcmp := by
  funext a b
  unfold ltc ordc
  by_cases h1 : tlt a b = true
  · rw [if_pos h1]; unfold tlt at h1; rw [h1]; rfl
  · rw [if_neg h1]
    unfold tlt at h1
    have h2 : decide (tplcmp a b < 0) = false := by simpa using h1
    rw [h2]
    split <;> rfl
theorem order_spec (a b : Tpl) (R : Rds) : Spec Try.prog 71 [.agg a.enc.toArray, .agg b.enc.toArray] R [] fun v H' => v = .int .i64 (ordc a b) ∧ H' = [] := by
  refine Spec.body Try.func71 rfl Try.results71 Try.ntmps71 rfl ?_
  refine .seq ?_
  refine .region ?_
  refine TriOps.boxA rfl (fun b2 => ?_)
  refine TriOps.boxA rfl (fun b3 => ?_)
  refine TriOps.q .assign ?_
  refine .nil ?_
  refine seqQ_n ?_
  refine .seq ?_
  refine .block ?_
  refine .seq ?_
  refine .region ?_
  refine TriOps.q (.loadA rfl) ?_
  refine TriOps.q (.loadA rfl) ?_
  refine TriOps.callR (tless_p_spec a b _) (fun v hv => ?_)
  subst hv
  refine TriOps.q .assign ?_
  refine .nil ?_
  refine seqQ_n ?_
  refine .cond rfl (fun h1 => ?_) (fun h1 => ?_)
  · skip
    refine .seq ?_
    refine .region ?_
    refine TriOps.q .assign ?_
    refine .nil ?_
    refine seqQ_n ?_
    refine .ret (blkQ_r (seqQ_r (retQ_r _ (.one (.tmp rfl)) (.none _) ?_)))
    exact ⟨by unfold ordc; rw [if_pos h1], rfl⟩
  · skip
    refine .seq ?_
    refine .region ?_
    refine TriOps.q (.loadA rfl) ?_
    refine TriOps.q (.loadA rfl) ?_
    refine TriOps.callR (tless_p_spec b a _) (fun v hv => ?_)
    subst hv
    refine TriOps.q .assign ?_
    refine .nil ?_
    refine seqQ_n ?_
    refine .cond rfl (fun h2 => ?_) (fun h2 => ?_)
    · skip
      refine .seq ?_
      refine .region ?_
      refine TriOps.q .assign ?_
      refine .nil ?_
      refine seqQ_n ?_
      refine .ret (blkQ_r (seqQ_r (retQ_r _ (.one (.tmp rfl)) (.none _) ?_)))
      exact ⟨by unfold ordc; rw [if_neg (by rw [h1]; simp), if_pos h2], rfl⟩
    · skip
      refine .skip ?_
      refine blkQ_n (seqQ_n ?_)
      refine .seq ?_
      refine .region ?_
      refine TriOps.q .assign ?_
      refine .nil ?_
      refine seqQ_n ?_
      refine .ret (retQ_r _ (.one (.tmp rfl)) (.none _) ?_)
      exact ⟨by unfold ordc; rw [if_neg (by rw [h1]; simp), if_neg (by rw [h2]; simp)], rfl⟩
abbrev inOrder (ys : List Tpl) : Prop := ys.Pairwise fun p q => ltc tplcmp q p = false
theorem order_fn (R : Rds) : FnC Try.prog 71 [] R (fun t : Tpl => Value.agg t.enc.toArray) ordc (fun _ => True) := fun x y _ _ R2 _ => order_spec x y R2
theorem ordc_so : SO (ltc ordc) := by rw [ltc_ordc]; exact tplcmp_ok.so
theorem at_spec (v : Value) (F : List RB) (r : Int) (R : Rds) (hF : RS R 1 encRB v F) (hp : ∀ p ∈ F, PC R (.pointer (some ⟨p.1, 0, none⟩)) p.2.enc) (hl : F.length ≤ 5000) :
    Spec Try.prog 68 [v, .int .u64 r] R [] fun u H' => ∃ T, H' = [T] ∧ ∃ ys, OS 88 7 Tpl.enc u ys T ∧ ys.Perm ((F.filter fun p => p.2.there r).map (·.2.t)) ∧ inOrder ys := by
  obtain ⟨pv, kv_, rfl⟩ := hF.val
  refine Spec.segs (H' := [[]]) (by simp) ?_
  refine Spec.body Try.func68 rfl Try.results68 Try.ntmps68 rfl ?_
  refine .seq ?_
  refine .region ?_
  refine TriOps.q .assign ?_
  refine .nil ?_
  refine seqQ_n ?_
  refine .seq ?_
  refine .region ?_
  refine TriOps.q .assign ?_
  refine .nil ?_
  refine seqQ_n ?_
  refine .seq ?_
  refine .seq ?_
  refine .region ?_
  refine TriOps.q .move ?_
  refine TriOps.q (.lenR hF) ?_
  refine TriOps.q .move ?_
  refine .nil ?_
  refine seqQ_n ?_
  refine .block ?_
  refine .loop (X := Nat × Value × Seg) (fun y => y.1 ≤ F.length ∧ OS 88 7 Tpl.enc y.2.1 (((F.take y.1).filter fun p => p.2.there r).map (·.2.t)) y.2.2) (fun y => [(1, .int .u64 r), (5, y.2.1), (8, .slice pv F.length kv_), (9, .int .i64 (F.length : Nat)), (10, .int .i64 (y.1 : Nat))]) (fun y => [y.2.2]) (fun y => F.length - y.1) (0, .slice none 0 0, []) ⟨Nat.zero_le _, OS.nil⟩ ((((((EnvLe.nil _).cons rfl).cons rfl).cons rfl).cons rfl).cons rfl) (HLe.refl _) ?_
  rintro ⟨i, vo, To⟩ ⟨hi, hO⟩
  simp only at hi hO ⊢
  have io := hO.oneCell
  have hol : (((F.take i).filter fun p => p.2.there r).map (·.2.t)).length ≤ 5000 := by
    rw [List.length_map]
    exact Nat.le_trans (List.length_filter_le _ _) (by rw [List.length_take]; omega)
  refine .seq ?_
  refine .region ?_
  refine TriOps.q .lss ?_
  refine .nil ?_
  refine seqQ_n ?_
  refine .seq ?_
  refine .cond rfl (fun h1 => ?_) (fun h1 => ?_)
  · skip
    have hlt : i < F.length := by have := of_decide_eq_true h1; omega
    obtain ⟨⟨b, x⟩, hx⟩ : ∃ y, F[i]? = some y := ⟨_, List.getElem?_eq_getElem hlt⟩
    have px : PC R (.pointer (some ⟨b, 0, none⟩)) x.enc := hp _ (List.mem_of_getElem? hx)
    have htk : F.take (i + 1) = F.take i ++ [(b, x)] := by rw [List.take_add_one, hx]; rfl
    refine .skip ?_
    refine seqQ_n ?_
    refine .seq ?_
    refine .block ?_
    refine .seq ?_
    refine .region ?_
    refine TriOps.indexR i hF hx (fun p12 => ?_)
    refine TriOps.q (.load1 rfl) ?_
    refine TriOps.q .assign ?_
    refine .nil ?_
    refine seqQ_n ?_
    refine .seq ?_
    refine .region ?_
    refine TriOps.q .move ?_
    refine TriOps.q (.nilCheck rfl) ?_
    refine TriOps.q (.loadA rfl) ?_
    refine TriOps.q .move ?_
    refine TriOps.callR (there_spec x r _) (fun v hv => ?_)
    subst hv
    refine .nil ?_
    refine seqQ_n ?_
    refine .cond rfl (fun h2 => ?_) (fun h2 => ?_)
    · skip
      refine .region ?_
      refine TriOps.q .move ?_
      refine TriOps.q .move ?_
      refine TriOps.q (.nilCheck rfl) ?_
      refine TriOps.q (.fieldAddr rfl) ?_
      refine TriOps.q (.loadT rfl) ?_
      refine TriOps.buildSlice1A (fun b24 => ?_)
      refine TriOps.append hO (RS.lits (xs := [x.t]) rfl (by simp [Tpl.enc]) (by simp [Tpl.enc, oneCell])) (by simp only [List.length_singleton]; omega) (fun v5 T5 hO5 => ?_)
      refine TriOps.q .assign ?_
      refine .nil ?_
      refine blkQ_n (seqQ_n ?_)
      refine .region ?_
      refine TriOps.q (.i64 ((i + 1 : Nat) : Int) .add ⟨by omega, by omega, by omega⟩) ?_
      refine TriOps.q .move ?_
      refine .nil ?_
      first
        | exact loopQ_i (i + 1, v5, T5) ⟨hlt, by simp only; rw [htk, List.filter_append, List.map_append, List.filter_cons, if_pos h2]; exact hO5⟩ (by simp only; omega) ((((((EnvLe.nil _).cons rfl).cons rfl).cons rfl).cons rfl).cons rfl) (HLe.pick [1] _)
        | exact loopQ_i (i + 1, vo, To) ⟨hlt, by simp only; rw [htk, List.filter_append, List.map_append, List.filter_cons, if_neg (by rw [h2]; simp)]; simpa using hO⟩ (by simp only; omega) ((((((EnvLe.nil _).cons rfl).cons rfl).cons rfl).cons rfl).cons rfl) (HLe.refl _)
    · skip
      refine .skip ?_
      refine blkQ_n (seqQ_n ?_)
      refine .region ?_
      refine TriOps.q (.i64 ((i + 1 : Nat) : Int) .add ⟨by omega, by omega, by omega⟩) ?_
      refine TriOps.q .move ?_
      refine .nil ?_
      first
        | exact loopQ_i (i + 1, v5, T5) ⟨hlt, by simp only; rw [htk, List.filter_append, List.map_append, List.filter_cons, if_pos h2]; exact hO5⟩ (by simp only; omega) ((((((EnvLe.nil _).cons rfl).cons rfl).cons rfl).cons rfl).cons rfl) (HLe.pick [1] _)
        | exact loopQ_i (i + 1, vo, To) ⟨hlt, by simp only; rw [htk, List.filter_append, List.map_append, List.filter_cons, if_neg (by rw [h2]; simp)]; simpa using hO⟩ (by simp only; omega) ((((((EnvLe.nil _).cons rfl).cons rfl).cons rfl).cons rfl).cons rfl) (HLe.refl _)
  · skip
    have hie : i = F.length := by have := of_decide_eq_false h1; omega
    subst hie
    rw [List.take_length] at hO hol
    refine .exit (seqQ_x (loopQ_x (blkQ_x ?_)))
    refine seqQ_n ?_
    refine .seq ?_
    refine .region ?_
    refine TriOps.q .move ?_
    refine TriOps.callM (STP.sort_spec (caps := []) vo _ To _ hO (by omega) (order_fn _) (fun p hp => trivial) ordc_so) (fun u T3 hu => ?_)
    obtain ⟨rfl, ys, hO3, hpy, hsy⟩ := hu
    have i5 := hO3.oneCell
    refine .nil ?_
    refine seqQ_n ?_
    refine .seq ?_
    refine .region ?_
    refine TriOps.q .move ?_
    refine TriOps.q .assign ?_
    refine .nil ?_
    refine seqQ_n ?_
    refine .ret (retQ_r _ (.one (.tmp rfl)) (.one [0] _) ?_)
    exact ⟨T3, by simp [take], ys, hO3, hpy, by have := hsy.ordered; rw [ltc_ordc] at this; exact this⟩
theorem filter_oneG {α : Type} [DecidableEq α] {k : α} : ∀ {l : List α}, l.Nodup → k ∈ l → l.Perm (k :: l.filter fun k' => decide (k' ≠ k))
  | [], _, h => by cases h
  | x :: l, hn, h => by
    have hn' := List.nodup_cons.1 hn
    by_cases hx : x = k
    · subst hx
      have : l.filter (fun k' => decide (k' ≠ x)) = l := List.filter_eq_self.2 fun y hy => by
        have : y ≠ x := fun e => hn'.1 (e ▸ hy)
        simp [this]
      rw [List.filter_cons]
      simp only [ne_eq, not_true_eq_false, decide_false, Bool.false_eq_true, if_false]
      have h2 : l.filter (fun k' => !decide (k' = x)) = l := by simpa using this
      simp only [decide_not, h2]
      exact .refl _
    · have hk : k ∈ l := by
        rcases List.mem_cons.1 h with e | h
        · exact absurd e.symm hx
        · exact h
      have := (filter_oneG hn'.2 hk).cons x
      rw [List.filter_cons, if_pos (by simp [hx])]
      exact this.trans (List.Perm.swap k x _)
theorem filter_two {α : Type} {a b c : α → Bool} : ∀ L : List α, (∀ x ∈ L, c x = (a x || b x) ∧ ¬ (a x = true ∧ b x = true)) → (L.filter c).Perm (L.filter a ++ L.filter b)
  | [], _ => by simp
  | x :: L, h => by
    obtain ⟨h1, h2⟩ := h x (by simp)
    have ih := filter_two L fun y hy => h y (by simp [hy])
    rw [List.filter_cons, List.filter_cons, List.filter_cons, h1]
    cases ha : a x <;> cases hb : b x
    · simpa using ih
    · simpa using (ih.cons x).trans List.perm_middle.symm
    · simpa using ih.cons x
    · exact absurd ⟨ha, hb⟩ h2
/-- What is read. -/
def rdOK (S : Sto) (f : Tpl) (r : Int) (ys : List Tpl) : Prop := ys.Perm (if scan S r then srd S f r else []) ∧ inOrder ys
theorem read_spec {R : Rds} {g : Nat} {S : Sto} {ps : List RB} {vf vr : Value} {Mf : List (Obr × (Value × Seg))} {Mr : List (Sub × (Value × Seg))} (h : SV R g S ps vf vr Mf Mr) (hl : S.rows.length ≤ 4096) (f : Tpl) (r : Int) :
    Spec Try.prog 37 [.pointer (some ⟨g, 0, none⟩), .agg f.enc.toArray, .int .u64 r] R [] fun u H' => ∃ T, H' = [T] ∧ ∃ w ys, u = .tuple [w, .int .i64 (if scan S r then 0 else 12)].toArray ∧ OS 88 7 Tpl.enc w ys T ∧ rdOK S f r ys := by
  have pc := h.pc
  have iof := h.of
  have ior := h.or
  have hpl : ps.length ≤ 4096 := by rw [← h.eq, List.length_map] at hl; exact hl
  refine Spec.segs (H' := [[], []]) (by simp) ?_
  refine Spec.body Try.func37 rfl Try.results37 Try.ntmps37 rfl ?_
  refine .seq ?_
  refine .region ?_
  refine TriOps.boxA rfl (fun b4 => ?_)
  refine TriOps.q .assign ?_
  refine TriOps.q .assign ?_
  refine .nil ?_
  refine seqQ_n ?_
  refine .seq ?_
  refine .block ?_
  refine .seq ?_
  refine .region ?_
  refine TriOps.q .move ?_
  refine TriOps.callR (h.mono fun b o hb => .inl hb).ok (fun v hv => ?_)
  subst hv
  refine TriOps.q .not ?_
  refine TriOps.q .assign ?_
  refine .nil ?_
  refine seqQ_n ?_
  refine .condF ?_
  refine .seq ?_
  refine .region ?_
  refine TriOps.q .move ?_
  refine TriOps.q .move ?_
  refine TriOps.callR ((h.mono fun b o hb => .inl hb).can r) (fun v hv => ?_)
  subst hv
  refine TriOps.q .not ?_
  refine TriOps.q .assign ?_
  refine .nil ?_
  refine seqQ_n ?_
  refine .cond rfl (fun h2 => ?_) (fun h2 => ?_)
  · skip
    refine .seq ?_
    refine .region ?_
    refine TriOps.q .assign ?_
    refine TriOps.q .assign ?_
    refine .nil ?_
    refine seqQ_n ?_
    refine .ret (blkQ_r (seqQ_r (retQ_r _ (.two (.tmp rfl) (.tmp rfl)) ((HLe.pick [1] _)) ?_)))
    have hsc : scan S r = false := by simpa using h2
    exact ⟨[], by simp [take], _, [], by rw [hsc]; rfl, OS.nil, by rw [hsc]; exact .refl _, List.Pairwise.nil⟩
  · skip
    have hsc : scan S r = true := by simpa using h2
    refine .skip ?_
    refine blkQ_n (seqQ_n ?_)
    refine .seq ?_
    refine .region ?_
    refine TriOps.q .assign ?_
    refine .nil ?_
    refine seqQ_n ?_
    refine .seq ?_
    refine .seq ?_
    refine .region ?_
    refine TriOps.q .move ?_
    refine TriOps.q (.nilCheck rfl) ?_
    refine TriOps.q (.fieldAddr rfl) ?_
    refine TriOps.q (.load1 rfl) ?_
    refine TriOps.range h.mf (fun _ _ => .inl) rfl (fun it Ti0 hit0 => ?_)
    refine .nil ?_
    refine seqQ_n ?_
    refine .block ?_
    refine .loop (X := List Tpl × List Obr × Value × Seg × Seg) (fun y => y.2.1.Nodup ∧ y.1.Perm ((ps.filter fun p => (p.2.there r && tmatch f p.2.t) && decide (p.2.t.obr ∉ y.2.1)).map (·.2.t)) ∧ OS 88 7 Tpl.enc y.2.2.1 y.1 y.2.2.2.1 ∧ It R (fun k : Obr => .agg k.enc.toArray) (fun p : Value × Seg => p.1) vf Mf it y.2.1 y.2.2.2.2) (fun y => [(2, .int .u64 r), (4, .pointer (some ⟨b4, 0, none⟩)), (8, y.2.2.1), (26, it)]) (fun y => [[(b4, .cells f.enc.toArray 73 (0, 0))], y.2.2.2.1, y.2.2.2.2]) (fun y => y.2.1.length) ([], Mf.map (·.1), .slice none 0 0, [], Ti0) ⟨h.nf, by
      rw [List.filter_eq_nil_iff.2 fun p hp => by simp [h.af p hp]]; exact .refl _, OS.nil, hit0⟩ (((((EnvLe.nil _).cons rfl).cons rfl).cons rfl).cons rfl) ((HLe.pick [1, 1, 0] _)) ?_
    rintro ⟨zs, todo, vo, To, Ti⟩ ⟨hnd, hpm, hO, hit⟩
    simp only at hnd hpm hO hit ⊢
    have io := hO.oneCell
    have hzl : zs.length ≤ 4096 := by
      rw [hpm.length_eq, List.length_map]
      exact Nat.le_trans (List.length_filter_le _ _) hpl
    refine .seq ?_
    refine .region ?_
    refine TriOps.nextB hit (fun _ _ => .inl) rfl (fun b rest Ti2 hf ht => ?_)
    refine TriOps.q .extract ?_
    refine .nil ?_
    refine seqQ_n ?_
    refine .seq ?_
    refine .cond rfl (fun h3 => ?_) (fun h3 => ?_)
    · skip
      obtain ⟨k, ⟨v0, T0⟩, hk, hku, hitc⟩ := ht h3
      obtain ⟨pf, cf, hlk, hrs⟩ := h.lf k
      rw [hku] at hlk
      simp only [Option.map_some, Option.getD_some] at hlk
      subst hlk
      have hft := filter_oneG hnd hk
      have hF : RS R 1 encRB (.slice pf (ids (fun x => x.t.obr) k ps).length cf) (frows (fun x => x.t.obr) k ps) := RS.of_map (enc := encPt) (f := fun p : RB => p.1) hrs
      have hFl : (frows (fun x => x.t.obr) k ps).length ≤ 4096 := Nat.le_trans (List.length_filter_le _ _) hpl
      refine .skip ?_
      refine seqQ_n ?_
      refine .block ?_
      refine .seq ?_
      refine .region ?_
      refine TriOps.q (.entry hitc (fun _ _ => .inl) rfl) ?_
      refine TriOps.q .extract ?_
      refine TriOps.q .assign ?_
      refine .nil ?_
      refine seqQ_n ?_
      refine .seq ?_
      refine .region ?_
      refine TriOps.q .move ?_
      refine TriOps.q .move ?_
      refine TriOps.callN (at_spec _ (frows (fun x => x.t.obr) k ps) r _ hF.rx (fun p hp => (h.pr p (List.mem_filter.1 hp).1).mono fun b o hb => .inl hb) (by omega)) (fun u T1 hu => ?_)
      obtain ⟨ys, hY, hyp, _⟩ := hu
      have iu := hY.oneCell
      have hyl : ys.length ≤ 4096 := by
        rw [hyp.length_eq, List.length_map]
        exact Nat.le_trans (List.length_filter_le _ _) hFl
      refine TriOps.q (.lenO hY) ?_
      refine TriOps.q .move ?_
      refine .nil ?_
      refine seqQ_n ?_
      refine .block ?_
      refine .loop (X := Nat × Value × Seg) (fun y => y.1 ≤ ys.length ∧ OS 88 7 Tpl.enc y.2.1 (zs ++ (ys.take y.1).filter fun t => tmatch f t) y.2.2) (fun y => [(2, .int .u64 r), (4, .pointer (some ⟨b4, 0, none⟩)), (8, y.2.1), (26, it), (33, u), (34, .int .i64 (ys.length : Nat)), (35, .int .i64 (y.1 : Nat))]) (fun y => [T1, [(b4, .cells f.enc.toArray 73 (0, 0))], y.2.2, Ti2]) (fun y => ys.length - y.1) (0, vo, To) ⟨Nat.zero_le _, by simpa using hO⟩ ((((((((EnvLe.nil _).cons rfl).cons rfl).cons rfl).cons rfl).cons rfl).cons rfl).cons rfl) (HLe.refl _) ?_
      rintro ⟨j, v1, To1⟩ ⟨hj, hO1⟩
      simp only at hj hO1 ⊢
      have io1 := hO1.oneCell
      have hjl : ((ys.take j).filter fun t => tmatch f t).length ≤ 4096 := Nat.le_trans (List.length_filter_le _ _) (by rw [List.length_take]; omega)
      refine .seq ?_
      refine .region ?_
      refine TriOps.q .lss ?_
      refine .nil ?_
      refine seqQ_n ?_
      refine .seq ?_
      refine .cond rfl (fun h4 => ?_) (fun h4 => ?_)
      · skip
        have hlt : j < ys.length := by have := of_decide_eq_true h4; omega
        obtain ⟨t, ht2⟩ : ∃ t, ys[j]? = some t := ⟨_, List.getElem?_eq_getElem hlt⟩
        have htk : ys.take (j + 1) = ys.take j ++ [t] := by rw [List.take_add_one, ht2]; rfl
        refine .skip ?_
        refine seqQ_n ?_
        refine .seq ?_
        refine .block ?_
        refine .seq ?_
        refine .region ?_
        refine TriOps.indexO j hY ht2 (fun p37 => ?_)
        refine TriOps.q (.loadA rfl) ?_
        refine TriOps.allocA (fun b12 => ?_)
        refine TriOps.storeA rfl rfl ?_
        refine .nil ?_
        refine seqQ_n ?_
        refine .seq ?_
        refine .region ?_
        refine TriOps.q (.loadA rfl) ?_
        refine TriOps.q (.loadA rfl) ?_
        refine TriOps.callR (tmatch_spec f t _) (fun v hv => ?_)
        subst hv
        refine .nil ?_
        refine seqQ_n ?_
        refine .cond rfl (fun h5 => ?_) (fun h5 => ?_)
        · skip
          refine .region ?_
          refine TriOps.q .move ?_
          refine TriOps.q (.loadA rfl) ?_
          refine TriOps.buildSlice1A (fun b44 => ?_)
          refine TriOps.append hO1 (RS.lits (xs := [t]) rfl (by simp [Tpl.enc]) (by simp [Tpl.enc, oneCell])) (by simp; omega) (fun v5 T5 hO5 => ?_)
          refine TriOps.q .assign ?_
          refine .nil ?_
          refine blkQ_n (seqQ_n ?_)
          refine .region ?_
          refine TriOps.q (.i64 ((j + 1 : Nat) : Int) .add ⟨by omega, by omega, by omega⟩) ?_
          refine TriOps.q .move ?_
          refine .nil ?_
          first
            | exact loopQ_i (j + 1, v5, T5) ⟨hlt, by simp only; rw [htk, List.filter_append, List.filter_cons, if_pos h5, ← List.append_assoc]; exact hO5⟩ (by simp only; omega) ((((((((EnvLe.nil _).cons rfl).cons rfl).cons rfl).cons rfl).cons rfl).cons rfl).cons rfl) (HLe.pick [2, 2, 2, 2] _)
            | exact loopQ_i (j + 1, v1, To1) ⟨hlt, by simp only; rw [htk, List.filter_append, List.filter_cons, if_neg (by rw [h5]; simp)]; simpa using hO1⟩ (by simp only; omega) ((((((((EnvLe.nil _).cons rfl).cons rfl).cons rfl).cons rfl).cons rfl).cons rfl).cons rfl) (HLe.pick [1, 1, 1, 1] _)
        · skip
          refine .skip ?_
          refine blkQ_n (seqQ_n ?_)
          refine .region ?_
          refine TriOps.q (.i64 ((j + 1 : Nat) : Int) .add ⟨by omega, by omega, by omega⟩) ?_
          refine TriOps.q .move ?_
          refine .nil ?_
          first
            | exact loopQ_i (j + 1, v5, T5) ⟨hlt, by simp only; rw [htk, List.filter_append, List.filter_cons, if_pos h5, ← List.append_assoc]; exact hO5⟩ (by simp only; omega) ((((((((EnvLe.nil _).cons rfl).cons rfl).cons rfl).cons rfl).cons rfl).cons rfl).cons rfl) (HLe.pick [2, 2, 2, 2] _)
            | exact loopQ_i (j + 1, v1, To1) ⟨hlt, by simp only; rw [htk, List.filter_append, List.filter_cons, if_neg (by rw [h5]; simp)]; simpa using hO1⟩ (by simp only; omega) ((((((((EnvLe.nil _).cons rfl).cons rfl).cons rfl).cons rfl).cons rfl).cons rfl).cons rfl) (HLe.pick [1, 1, 1, 1] _)
      · skip
        have hje : j = ys.length := by have := of_decide_eq_false h4; omega
        subst hje
        rw [List.take_length] at hO1
        refine .exit (seqQ_x (loopQ_x (blkQ_x ?_)))
        refine blkQ_n ?_
        refine loopQ_i (zs ++ ys.filter (fun t => tmatch f t), todo.filter fun k' => decide (k' ≠ k), v1, To1, Ti2) ⟨hnd.sublist List.filter_sublist, ?_, hO1, hitc.it⟩ ?_ (((((EnvLe.nil _).cons rfl).cons rfl).cons rfl).cons rfl) (HLe.pick [1, 1, 1] _)
        · simp only
          have h9 := filter_two (a := fun p : RB => (p.2.there r && tmatch f p.2.t) && decide (p.2.t.obr ∉ todo)) (b := fun p : RB => decide (p.2.t.obr = k) && (p.2.there r && tmatch f p.2.t)) (c := fun p : RB => (p.2.there r && tmatch f p.2.t) && decide (p.2.t.obr ∉ todo.filter fun k' => decide (k' ≠ k))) ps fun p _ => by
            by_cases e1 : p.2.t.obr = k
            · rw [e1]; simp [hk]
            · simp [e1]
          refine List.Perm.trans ?_ (h9.map _).symm
          rw [List.map_append]
          refine hpm.append ?_
          refine (hyp.filter _).trans (.of_eq ?_)
          rw [List.filter_map, List.filter_filter]
          unfold frows
          rw [List.filter_filter]
          congr 1
          refine List.filter_congr fun p _ => ?_
          simp only [Function.comp]
          cases decide (p.2.t.obr = k) <;> cases p.2.there r <;> cases tmatch f p.2.t <;> rfl
        · have := hft.length_eq
          simp only [List.length_cons] at this
          simp only; omega
    · skip
      have ht0 := hf h3
      subst ht0
      have hpm2 : zs.Perm (srd S f r) := by
        refine hpm.trans (.of_eq ?_)
        unfold srd
        rw [← h.eq, List.filter_map, List.map_map]
        congr 1
        refine List.filter_congr fun p _ => by simp
      refine .exit (seqQ_x (loopQ_x (blkQ_x ?_)))
      refine seqQ_n ?_
      refine .seq ?_
      refine .region ?_
      refine TriOps.q .move ?_
      refine TriOps.callM (STP.sort_spec (caps := []) vo _ To _ hO (by omega) (order_fn _) (fun p hp => trivial) ordc_so) (fun u T3 hu => ?_)
      obtain ⟨rfl, ys, hO3, hpy, hsy⟩ := hu
      have i5 := hO3.oneCell
      refine .nil ?_
      refine seqQ_n ?_
      refine .seq ?_
      refine .region ?_
      refine TriOps.q .move ?_
      refine TriOps.q .assign ?_
      refine TriOps.q .assign ?_
      refine .nil ?_
      refine seqQ_n ?_
      refine .ret (retQ_r _ (.two (.tmp rfl) (.tmp rfl)) ((HLe.pick [1] _)) ?_)
      exact ⟨T3, by simp [take, dropAt], _, ys, by rw [hsc]; rfl, hO3, by rw [hsc]; exact hpy.trans hpm2, by have := hsy.ordered; rw [ltc_ordc] at this; exact this⟩
end Go.Proofs.Ytkepgbimlolemaa
