/- A store: whether a tuple is there at a revision. No condition. -/
import Derived.Test.YtkepgbimlolemaaStoD
set_option linter.unusedVariables false
set_option linter.unusedSimpArgs false
set_option maxRecDepth 4000
namespace Go.Proofs.Ytkepgbimlolemaa
/-- Whether a tuple is there at a revision. -/
def shas (S : Sto) (t : Tpl) (r : Int) : Bool := scan S r && S.rows.any fun x => decide (x.t = t) && x.there r
theorem has1_spec (b : Nat) (x : SRow) (t : Tpl) (r : Int) (q1 q2 : Nat) (R : Rds) [pb : PC R (.pointer (some ⟨b, 0, none⟩)) x.enc] [p1 : PC R (.pointer (some ⟨q1, 0, none⟩)) t.enc] [p2 : PC R (.pointer (some ⟨q2, 0, none⟩)) [.int .u64 r]] :
    Spec Try.prog 82 [.pointer (some ⟨b, 0, none⟩), .pointer (some ⟨q1, 0, none⟩), .pointer (some ⟨q2, 0, none⟩)] R [] fun v H' => v = .bool (decide (x.t = t) && x.there r) ∧ H' = [] := by
  refine Spec.body Try.func82 rfl Try.results82 Try.ntmps82 rfl ?_
  refine .seq ?_
  refine .region ?_
  refine TriOps.q .assign ?_
  refine .nil ?_
  refine seqQ_n ?_
  refine .seq ?_
  refine .region_tail 11 mixed (by kernel_rfl) ?_
  conv => arg 6; dsimp only [List.take]
  refine TriOps.q .move ?_
  refine TriOps.q (.nilCheck rfl) ?_
  refine TriOps.q (.fieldAddr rfl) ?_
  refine TriOps.q (.loadT rfl) ?_
  refine TriOps.q (.loadA rfl) ?_
  refine TriOps.q (.eqA rfl rfl (Tpl.kinds x.t) (Tpl.kinds t)) ?_
  rw [show cellsEq (List.take 7 (List.drop 0 x.enc)) t.enc = decide (x.t = t) from Tpl.eq x.t t]
  refine TriOps.q .move ?_
  refine TriOps.split (t := 11) rfl (fun g1_6 => ?_) (fun g1_6 => ?_)
  · skip
    refine TriOps.gT g1_6 ?_
    refine TriOps.q .move ?_
    refine TriOps.gT g1_6 ?_
    refine TriOps.q (.nilCheck rfl) ?_
    refine TriOps.gT g1_6 ?_
    refine TriOps.q (.loadA rfl) ?_
    refine TriOps.gT g1_6 ?_
    refine TriOps.q (.load1 rfl) ?_
    refine .nil ?_
    refine TriOps.gT g1_6 ?_
    refine TriOps.callR (there_spec x r _) (fun v hv => ?_)
    subst hv
    refine TriOps.q (.pickTh g1_6) ?_
    refine TriOps.q .assign ?_
    refine .nil ?_
    refine seqQ_n ?_
    refine .ret (retQ_r _ (.one (.tmp rfl)) (.none _) ?_)
    refine ⟨congrArg _ ?_, rfl⟩
    simp_all
  · skip
    refine TriOps.gF g1_6 ?_
    refine TriOps.gF g1_6 ?_
    refine TriOps.gF g1_6 ?_
    refine TriOps.gF g1_6 ?_
    refine .nil ?_
    refine TriOps.gF g1_6 ?_
    refine TriOps.q (.pickFh g1_6) ?_
    refine TriOps.q .assign ?_
    refine .nil ?_
    refine seqQ_n ?_
    refine .ret (retQ_r _ (.one (.tmp rfl)) (.none _) ?_)
    refine ⟨congrArg _ ?_, rfl⟩
    simp_all
theorem has_spec {R : Rds} {g : Nat} {S : Sto} {ps : List RB} {vf vr : Value} {Mf : List (Obr × (Value × Seg))} {Mr : List (Sub × (Value × Seg))} (h : SV R g S ps vf vr Mf Mr) (t : Tpl) (r : Int) :
    Spec Try.prog 45 [.pointer (some ⟨g, 0, none⟩), .agg t.enc.toArray, .int .u64 r] R [] fun v H' => v = .bool (shas S t r) ∧ H' = [] := by
  have pc := h.pc
  have iof := h.of
  have ior := h.or
  obtain ⟨pf, cf, hlk, hrs⟩ := h.lf t.obr
  have hF : RS R 1 encRB (.slice pf (ids (fun x => x.t.obr) t.obr ps).length cf) (frows (fun x => x.t.obr) t.obr ps) := RS.of_map (enc := encPt) (f := fun p : RB => p.1) hrs
  have hany : (frows (fun x => x.t.obr) t.obr ps).any (fun p : RB => decide (p.2.t = t) && p.2.there r) = S.rows.any fun x => decide (x.t = t) && x.there r := by
    rw [← h.eq, List.any_map, Bool.eq_iff_iff, List.any_eq_true, List.any_eq_true]
    constructor
    · rintro ⟨p, hp, h1⟩
      exact ⟨p, (List.mem_filter.1 hp).1, h1⟩
    · rintro ⟨p, hp, h1⟩
      have h2 : p.2.t = t := by simp only [Function.comp, Bool.and_eq_true, decide_eq_true_eq] at h1; exact h1.1
      exact ⟨p, List.mem_filter.2 ⟨hp, by simp [h2]⟩, h1⟩
  refine Spec.body Try.func45 rfl Try.results45 Try.ntmps45 rfl ?_
  refine .seq ?_
  refine .region ?_
  refine TriOps.boxA rfl (fun b4 => ?_)
  refine TriOps.box1 rfl (fun b5 => ?_)
  refine TriOps.q .assign ?_
  refine .nil ?_
  refine seqQ_n ?_
  refine .seq ?_
  refine .region_all [] mixed ?_
  refine RA.takeO 0 rfl .move (by kernel_rfl) ?_
  refine RA.takeO 1 rfl (.load1 rfl) (by kernel_rfl) ?_
  refine RA.step 2 rfl (by kernel_rfl) rfl ?_
  refine TriOps.callR ((h.mono fun b o hb => .inl hb).can r) (fun v hv => ?_)
  subst hv
  refine .nil (Next.sub ?_)
  refine RA.takeO 3 rfl .move (by kernel_rfl) ?_
  refine RA.split (t := 10) rfl (fun g1_3 => ?_) (fun g1_3 => ?_)
  · skip
    refine RA.takeGhO 4 rfl rfl g1_3 .move (by kernel_rfl) ?_
    refine RA.takeGhO 5 rfl rfl g1_3 (.nilCheck rfl) (by kernel_rfl) ?_
    refine RA.takeGhO 6 rfl rfl g1_3 (.fieldAddr rfl) (by kernel_rfl) ?_
    refine RA.takeGhO 7 rfl rfl g1_3 (.load1 rfl) (by kernel_rfl) ?_
    refine RA.takeGhO 8 rfl rfl g1_3 (.loadA rfl) (by kernel_rfl) ?_
    refine RA.takeGhO 11 rfl rfl g1_3 .makeFunc (by kernel_rfl) ?_
    refine RA.step 9 rfl (by kernel_rfl) rfl ?_
    refine TriOps.gT g1_3 ?_
    refine TriOps.callR (of_spec t _) (fun v hv => ?_)
    subst hv
    refine .nil (Next.sub ?_)
    refine RA.takeGhO 10 rfl rfl g1_3 (.lookupE (h.mono fun b o hb => .inl hb).mf rfl rfl hlk) (by kernel_rfl) ?_
    refine RA.step 12 rfl (by kernel_rfl) rfl ?_
    refine TriOps.gT g1_3 ?_
    refine TriOps.callR (LRP.containsF_spec 82 [.pointer (some ⟨b4, 0, none⟩), .pointer (some ⟨b5, 0, none⟩)] (fun p : RB => decide (p.2.t = t) && p.2.there r) _ _ _ hF.rx fun p hp R' hR => by
      have i1 := PC.of (E := 88) (fr := (0, 0)) (R := R') (b := b4) (vs := t.enc) (hR _ _ (.inr (by simp)))
      have i2 := PC.of (E := 24) (fr := (0, 0)) (R := R') (b := b5) (vs := [.int .u64 r]) (hR _ _ (.inr (by simp)))
      have i3 : PC R' (.pointer (some ⟨p.1, 0, none⟩)) p.2.enc := (h.pr p (List.mem_filter.1 hp).1).mono fun b o hb => hR _ _ (.inl hb)
      exact has1_spec p.1 p.2 t r b4 b5 R') (fun v hv => ?_)
    subst hv
    refine .nil (Next.sub ?_)
    refine RA.takeO 13 rfl (.pickTh g1_3) (by kernel_rfl) ?_
    refine RA.takeO 14 rfl .assign (by kernel_rfl) ?_
    refine RA.nil (by kernel_rfl) ?_
    refine seqQ_n ?_
    refine .ret (retQ_r _ (.one (.tmp rfl)) (.none _) ?_)
    refine ⟨congrArg _ ?_, rfl⟩
    unfold shas
    simp_all
  · skip
    refine RA.takeFh 4 rfl rfl g1_3 rfl (by kernel_rfl) ?_
    refine RA.takeFh 5 rfl rfl g1_3 rfl (by kernel_rfl) ?_
    refine RA.takeFh 6 rfl rfl g1_3 rfl (by kernel_rfl) ?_
    refine RA.takeFh 7 rfl rfl g1_3 rfl (by kernel_rfl) ?_
    refine RA.takeFh 8 rfl rfl g1_3 rfl (by kernel_rfl) ?_
    refine RA.takeFh 11 rfl rfl g1_3 rfl (by kernel_rfl) ?_
    refine RA.step 9 rfl (by kernel_rfl) rfl ?_
    refine TriOps.gF g1_3 ?_
    refine .nil (Next.sub ?_)
    refine RA.takeFh 10 rfl rfl g1_3 rfl (by kernel_rfl) ?_
    refine RA.step 12 rfl (by kernel_rfl) rfl ?_
    refine TriOps.gF g1_3 ?_
    refine .nil (Next.sub ?_)
    refine RA.takeO 13 rfl (.pickFh g1_3) (by kernel_rfl) ?_
    refine RA.takeO 14 rfl .assign (by kernel_rfl) ?_
    refine RA.nil (by kernel_rfl) ?_
    refine seqQ_n ?_
    refine .ret (retQ_r _ (.one (.tmp rfl)) (.none _) ?_)
    refine ⟨congrArg _ ?_, rfl⟩
    unfold shas
    simp_all
end Go.Proofs.Ytkepgbimlolemaa
