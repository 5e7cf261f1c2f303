/- Tuples: comparisons, which are right, which a filter picks. No condition. -/
import Derived.Test.YtkepgbimlolemaaTplA
import Derived.Test.YtkepgbimlolemaaCi
import Derived.Test.YtkepgbimlolemaaMot3
set_option linter.unusedVariables false
set_option maxRecDepth 4000
namespace Go.Proofs.Ytkepgbimlolemaa
def Tpl.fits (t : Tpl) : Prop := t.os.size ≤ 9223372036854775807 ∧ t.oi.size ≤ 9223372036854775807 ∧ t.rel.size ≤ 9223372036854775807 ∧ t.us.size ≤ 9223372036854775807 ∧ t.ss.size ≤ 9223372036854775807 ∧ t.si.size ≤ 9223372036854775807 ∧ t.sr.size ≤ 9223372036854775807
theorem rank_spec (s : Sub) (R : Rds) : Spec Try.prog 159 [.agg s.enc.toArray] R [] fun v H' => v = .int .i64 (srank s.us) ∧ H' = [] := by
  refine Spec.body Try.func159 rfl Try.results159 Try.ntmps159 rfl ?_
  refine .seq ?_
  refine .region ?_
  refine TriOps.boxA rfl (fun b1 => ?_)
  refine TriOps.q .assign ?_
  refine .nil ?_
  refine seqQ_n ?_
  refine .seq ?_
  refine .seq ?_
  refine .region ?_
  refine TriOps.q (.fieldAddr rfl) ?_
  refine TriOps.q (.load1 rfl) ?_
  refine TriOps.q .neS ?_
  refine .nil ?_
  refine seqQ_n ?_
  refine .cond rfl (fun h1 => ?_) (fun h1 => ?_)
  · skip
    refine .seq ?_
    refine .region ?_
    refine TriOps.q .assign ?_
    refine .nil ?_
    refine seqQ_n ?_
    refine .ret (seqQ_r (retQ_r _ (.one (.tmp rfl)) (.none _) ?_))
    have h9 : ¬ s.us = ⟨#[]⟩ := by simpa using h1
    exact ⟨by unfold srank; rw [if_neg h9], rfl⟩
  · skip
    refine .skip ?_
    refine seqQ_n ?_
    refine .seq ?_
    refine .region ?_
    refine TriOps.q .assign ?_
    refine .nil ?_
    refine seqQ_n ?_
    refine .ret (retQ_r _ (.one (.tmp rfl)) (.none _) ?_)
    have h9 : s.us = ⟨#[]⟩ := by simpa using h1
    exact ⟨by unfold srank; rw [if_pos h9], rfl⟩
theorem tcompare_spec (a b : Tpl) (R : Rds) : Spec Try.prog 136 [.agg a.enc.toArray, .agg b.enc.toArray] R [] fun v H' => v = .int .i64 (tplcmp a b) ∧ H' = [] := by
  obtain ⟨a1, a2, a3, a4, a5, a6, a7⟩ := a
  obtain ⟨c1, c2, c3, c4, c5, c6, c7⟩ := b
  have ia : Ones (Sub.enc ⟨a4, a5, a6, a7⟩) := inferInstance
  have ib : Ones (Sub.enc ⟨c4, c5, c6, c7⟩) := inferInstance
  refine Spec.body Try.func136 rfl Try.results136 Try.ntmps136 rfl ?_
  refine .seq ?_
  refine .region ?_
  refine TriOps.boxA rfl (fun b2 => ?_)
  refine TriOps.boxA rfl (fun b3 => ?_)
  refine TriOps.q .assign ?_
  refine .nil ?_
  refine seqQ_n ?_
  refine .seq ?_
  refine Tri.cut (X := Nat × Nat) (fun _ => True) (fun y => [(2, .pointer (some ⟨b2, 0, none⟩)), (3, .pointer (some ⟨b3, 0, none⟩)), (5, .pointer (some ⟨y.1, 0, none⟩)), (6, .pointer (some ⟨y.2, 0, none⟩))]) (fun y => [[(y.1, .cells (Sub.enc ⟨a4, a5, a6, a7⟩).toArray 86 (0, 0))], [(y.2, .cells (Sub.enc ⟨c4, c5, c6, c7⟩).toArray 86 (0, 0))], [(b3, .cells (Tpl.enc ⟨c1, c2, c3, c4, c5, c6, c7⟩).toArray 88 (0, 0))], [(b2, .cells (Tpl.enc ⟨a1, a2, a3, a4, a5, a6, a7⟩).toArray 88 (0, 0))]]) ?_ ?_
  · skip
    refine .region_any [] [6, 7] mixed ?_
    conv => arg 3; simp only [take, rest, dropAt, List.getD_cons_zero, List.getD_cons_succ]
    conv => arg 5; simp only [take, rest, dropAt, List.getD_cons_zero, List.getD_cons_succ]
    conv => arg 9; simp only [take, rest, dropAt, List.getD_cons_zero, List.getD_cons_succ]
    refine RA.takeO 0 rfl (.fieldAddr rfl) (by kernel_rfl) ?_
    refine RA.takeO 1 rfl (.loadT rfl) (by kernel_rfl) ?_
    refine RA.take 2 rfl (.fieldAddrA rfl) (by kernel_rfl) ?_
    refine RA.take 3 rfl (.loadT rfl) (by kernel_rfl) ?_
    refine RA.step2 4 5 rfl rfl (by kernel_rfl) rfl ?_ ?_
    · skip
      refine TriOps.allocA (fun b5 => ?_)
      refine .nil (Next.sub ?_)
      refine RA.step 5 rfl (by kernel_rfl) rfl ?_
      refine TriOps.allocA (fun b6 => ?_)
      refine .nil (Next.sub ?_)
      refine RA.step 6 rfl (by kernel_rfl) rfl ?_
      refine TriOps.storeA rfl rfl ?_
      refine .nil (Next.mod rfl ?_)
      refine RA.step 7 rfl (by kernel_rfl) rfl ?_
      refine TriOps.storeA rfl rfl ?_
      refine .nil (Next.mod rfl ?_)
      refine RA.nil (by kernel_rfl) ?_
      first
        | exact joinQ_n (b5, b6) trivial (((((EnvLe.nil _).cons rfl).cons rfl).cons rfl).cons rfl) (HLe.pick [1, 0, 0, 0] _)
        | exact joinQ_n (b5, b6) trivial (((((EnvLe.nil _).cons rfl).cons rfl).cons rfl).cons rfl) (HLe.pick [0, 0, 0, 0] _)
    · skip
      refine TriOps.allocA (fun b6 => ?_)
      refine .nil (Next.sub ?_)
      refine RA.step 4 rfl (by kernel_rfl) rfl ?_
      refine TriOps.allocA (fun b5 => ?_)
      refine .nil (Next.sub ?_)
      refine RA.step 6 rfl (by kernel_rfl) rfl ?_
      refine TriOps.storeA rfl rfl ?_
      refine .nil (Next.mod rfl ?_)
      refine RA.step 7 rfl (by kernel_rfl) rfl ?_
      refine TriOps.storeA rfl rfl ?_
      refine .nil (Next.mod rfl ?_)
      refine RA.nil (by kernel_rfl) ?_
      first
        | exact joinQ_n (b5, b6) trivial (((((EnvLe.nil _).cons rfl).cons rfl).cons rfl).cons rfl) (HLe.pick [1, 0, 0, 0] _)
        | exact joinQ_n (b5, b6) trivial (((((EnvLe.nil _).cons rfl).cons rfl).cons rfl).cons rfl) (HLe.pick [0, 0, 0, 0] _)
  · intro y hy
    obtain ⟨b5, b6⟩ := y
    simp only
    refine seqQ_n ?_
    refine .seq ?_
    refine .region_all [] mixed ?_
    refine RA.takeO 0 rfl (.fieldAddr rfl) (by kernel_rfl) ?_
    refine RA.takeO 1 rfl (.fieldAddr rfl) (by kernel_rfl) ?_
    refine RA.takeO 2 rfl (.load1 rfl) (by kernel_rfl) ?_
    refine RA.takeO 3 rfl (.fieldAddr rfl) (by kernel_rfl) ?_
    refine RA.takeO 4 rfl (.fieldAddr rfl) (by kernel_rfl) ?_
    refine RA.takeO 5 rfl (.load1 rfl) (by kernel_rfl) ?_
    refine RA.takeO 7 rfl (.fieldAddr rfl) (by kernel_rfl) ?_
    refine RA.takeO 8 rfl (.fieldAddr rfl) (by kernel_rfl) ?_
    refine RA.takeO 9 rfl (.load1 rfl) (by kernel_rfl) ?_
    refine RA.takeO 10 rfl (.fieldAddr rfl) (by kernel_rfl) ?_
    refine RA.takeO 11 rfl (.fieldAddr rfl) (by kernel_rfl) ?_
    refine RA.takeO 12 rfl (.load1 rfl) (by kernel_rfl) ?_
    refine RA.takeO 14 rfl (.fieldAddr rfl) (by kernel_rfl) ?_
    refine RA.takeO 15 rfl (.load1 rfl) (by kernel_rfl) ?_
    refine RA.takeO 16 rfl (.fieldAddr rfl) (by kernel_rfl) ?_
    refine RA.takeO 17 rfl (.load1 rfl) (by kernel_rfl) ?_
    refine RA.takeO 19 rfl (.loadA rfl) (by kernel_rfl) ?_
    refine RA.takeO 21 rfl (.loadA rfl) (by kernel_rfl) ?_
    refine RA.takeO 24 rfl (.fieldAddr rfl) (by kernel_rfl) ?_
    refine RA.takeO 25 rfl (.load1 rfl) (by kernel_rfl) ?_
    refine RA.takeO 26 rfl (.fieldAddr rfl) (by kernel_rfl) ?_
    refine RA.takeO 27 rfl (.load1 rfl) (by kernel_rfl) ?_
    refine RA.takeO 29 rfl (.fieldAddr rfl) (by kernel_rfl) ?_
    refine RA.takeO 30 rfl (.fieldAddr rfl) (by kernel_rfl) ?_
    refine RA.takeO 31 rfl (.load1 rfl) (by kernel_rfl) ?_
    refine RA.takeO 32 rfl (.fieldAddr rfl) (by kernel_rfl) ?_
    refine RA.takeO 33 rfl (.fieldAddr rfl) (by kernel_rfl) ?_
    refine RA.takeO 34 rfl (.load1 rfl) (by kernel_rfl) ?_
    refine RA.takeO 36 rfl (.fieldAddr rfl) (by kernel_rfl) ?_
    refine RA.takeO 37 rfl (.fieldAddr rfl) (by kernel_rfl) ?_
    refine RA.takeO 38 rfl (.load1 rfl) (by kernel_rfl) ?_
    refine RA.takeO 39 rfl (.fieldAddr rfl) (by kernel_rfl) ?_
    refine RA.takeO 40 rfl (.fieldAddr rfl) (by kernel_rfl) ?_
    refine RA.takeO 41 rfl (.load1 rfl) (by kernel_rfl) ?_
    refine RA.takeO 43 rfl (.fieldAddr rfl) (by kernel_rfl) ?_
    refine RA.takeO 44 rfl (.load1 rfl) (by kernel_rfl) ?_
    refine RA.takeO 45 rfl (.fieldAddr rfl) (by kernel_rfl) ?_
    refine RA.takeO 46 rfl (.load1 rfl) (by kernel_rfl) ?_
    refine RA.step 6 rfl (by kernel_rfl) rfl ?_
    refine TriOps.callR (compare_spec a1 c1 _) (fun v hv => ?_)
    subst hv
    refine .nil (Next.sub ?_)
    refine RA.step 13 rfl (by kernel_rfl) rfl ?_
    refine TriOps.callR (compare_spec a2 c2 _) (fun v hv => ?_)
    subst hv
    refine .nil (Next.sub ?_)
    refine RA.step 18 rfl (by kernel_rfl) rfl ?_
    refine TriOps.callR (compare_spec a3 c3 _) (fun v hv => ?_)
    subst hv
    refine .nil (Next.sub ?_)
    refine RA.step 20 rfl (by kernel_rfl) rfl ?_
    refine TriOps.callR (rank_spec ⟨a4, a5, a6, a7⟩ _) (fun v hv => ?_)
    subst hv
    refine .nil (Next.sub ?_)
    refine RA.step 22 rfl (by kernel_rfl) rfl ?_
    refine TriOps.callR (rank_spec ⟨c4, c5, c6, c7⟩ _) (fun v hv => ?_)
    subst hv
    refine .nil (Next.sub ?_)
    refine RA.step 23 rfl (by kernel_rfl) rfl ?_
    refine TriOps.callR (compareI_spec (srank a4) (srank c4) _) (fun v hv => ?_)
    subst hv
    refine .nil (Next.sub ?_)
    refine RA.step 28 rfl (by kernel_rfl) rfl ?_
    refine TriOps.callR (compare_spec a4 c4 _) (fun v hv => ?_)
    subst hv
    refine .nil (Next.sub ?_)
    refine RA.step 35 rfl (by kernel_rfl) rfl ?_
    refine TriOps.callR (compare_spec a5 c5 _) (fun v hv => ?_)
    subst hv
    refine .nil (Next.sub ?_)
    refine RA.step 42 rfl (by kernel_rfl) rfl ?_
    refine TriOps.callR (compare_spec a6 c6 _) (fun v hv => ?_)
    subst hv
    refine .nil (Next.sub ?_)
    refine RA.step 47 rfl (by kernel_rfl) rfl ?_
    refine TriOps.callR (compare_spec a7 c7 _) (fun v hv => ?_)
    subst hv
    refine .nil (Next.sub ?_)
    refine RA.step 48 rfl (by kernel_rfl) rfl ?_
    refine TriOps.buildSliceN1 [_, _, _, _, _, _, _, _] (fun b59 => ?_)
    refine .nil (Next.sub ?_)
    refine RA.step 49 rfl (by kernel_rfl) rfl ?_
    refine TriOps.callR (or_spec _ [scmp a1 c1, scmp a2 c2, scmp a3 c3, icmp (srank a4) (srank c4), scmp a4 c4, scmp a5 c5, scmp a6 c6, scmp a7 c7] _ (RS.lits rfl (by simp [encI]) (by simp [encI, oneCell]))) (fun v hv => ?_)
    subst hv
    refine .nil (Next.sub ?_)
    refine RA.takeO 50 rfl .assign (by kernel_rfl) ?_
    refine RA.nil (by kernel_rfl) ?_
    refine seqQ_n ?_
    refine .ret (retQ_r _ (.one (.tmp rfl)) (.none _) ?_)
    exact ⟨rfl, rfl⟩
theorem tless_p_spec (a b : Tpl) (R : Rds) : Spec Try.prog 96 [.agg a.enc.toArray, .agg b.enc.toArray] R [] fun v H' => v = .bool (tlt a b) ∧ H' = [] := by
  refine Spec.body Try.func96 rfl Try.results96 Try.ntmps96 rfl ?_
  refine .seq ?_
  refine .region ?_
  refine TriOps.boxA rfl (fun b2 => ?_)
  refine TriOps.boxA rfl (fun b3 => ?_)
  refine TriOps.q .assign ?_
  refine .nil ?_
  refine seqQ_n ?_
  refine .seq ?_
  refine .region ?_
  refine TriOps.q (.loadA rfl) ?_
  refine TriOps.q (.loadA rfl) ?_
  refine TriOps.callR (tcompare_spec a b _) (fun v hv => ?_)
  subst hv
  refine TriOps.q .lss ?_
  refine TriOps.q .assign ?_
  refine .nil ?_
  refine seqQ_n ?_
  refine .ret (retQ_r _ (.one (.tmp rfl)) (.none _) ?_)
  exact ⟨rfl, rfl⟩
theorem tname_spec (b : Bool) (R : Rds) : Spec Try.prog 160 [.bool b] R [] fun v H' => v = .int .i64 (if b then 0 else 9) ∧ H' = [] := by
  refine Spec.body Try.func160 rfl Try.results160 Try.ntmps160 rfl ?_
  refine .seq ?_
  refine .region ?_
  refine TriOps.q .assign ?_
  refine .nil ?_
  refine seqQ_n ?_
  refine .seq ?_
  refine .seq ?_
  refine .region ?_
  refine TriOps.q .move ?_
  refine .nil ?_
  refine seqQ_n ?_
  refine .cond rfl (fun h1 => ?_) (fun h1 => ?_)
  · skip
    refine .seq ?_
    refine .region ?_
    refine TriOps.q .assign ?_
    refine .nil ?_
    refine seqQ_n ?_
    refine .ret (seqQ_r (retQ_r _ (.one (.tmp rfl)) (.none _) ?_))
    exact ⟨by rw [h1]; rfl, rfl⟩
  · skip
    refine .skip ?_
    refine seqQ_n ?_
    refine .seq ?_
    refine .region ?_
    refine TriOps.q .assign ?_
    refine .nil ?_
    refine seqQ_n ?_
    refine .ret (retQ_r _ (.one (.tmp rfl)) (.none _) ?_)
    exact ⟨by rw [h1]; rfl, rfl⟩
theorem checkRef_spec (s i : ByteArray) (hs : s.size ≤ 9223372036854775807) (hi : i.size ≤ 9223372036854775807) (R : Rds) : Spec Try.prog 161 [.agg [.string s, .string i].toArray] R [] fun v H' => v = .int .i64 (if isRef s i then 0 else 9) ∧ H' = [] := by
  refine Spec.body Try.func161 rfl Try.results161 Try.ntmps161 rfl ?_
  refine .seq ?_
  refine .region ?_
  refine TriOps.boxA rfl (fun b1 => ?_)
  refine TriOps.q .assign ?_
  refine .nil ?_
  refine seqQ_n ?_
  refine .seq ?_
  refine .region ?_
  refine TriOps.q (.fieldAddr rfl) ?_
  refine TriOps.q (.load1 rfl) ?_
  refine TriOps.callR (word_spec s hs _) (fun v hv => ?_)
  subst hv
  refine TriOps.q .move ?_
  refine TriOps.split (t := 6) rfl (fun g1_3 => ?_) (fun g1_3 => ?_)
  · skip
    have hv9 : isRef s i = isID i := by unfold isRef; rw [g1_3]; rfl
    refine TriOps.gT g1_3 ?_
    refine TriOps.q (.fieldAddr rfl) ?_
    refine TriOps.gT g1_3 ?_
    refine TriOps.q (.load1 rfl) ?_
    refine TriOps.gT g1_3 ?_
    refine TriOps.callR (id_spec i hi _) (fun v hv => ?_)
    subst hv
    refine TriOps.q (.pickTh g1_3) ?_
    refine TriOps.callR (tname_spec _ _) (fun v hv => ?_)
    subst hv
    refine TriOps.q .assign ?_
    refine .nil ?_
    refine seqQ_n ?_
    refine .ret (retQ_r _ (.one (.tmp rfl)) (.none _) ?_)
    exact ⟨by rw [hv9], rfl⟩
  · skip
    have hv9 : isRef s i = false := by unfold isRef; rw [g1_3]; rfl
    refine TriOps.gF g1_3 ?_
    refine TriOps.gF g1_3 ?_
    refine TriOps.gF g1_3 ?_
    refine TriOps.q (.pickFh g1_3) ?_
    refine TriOps.callR (tname_spec _ _) (fun v hv => ?_)
    subst hv
    refine TriOps.q .assign ?_
    refine .nil ?_
    refine seqQ_n ?_
    refine .ret (retQ_r _ (.one (.tmp rfl)) (.none _) ?_)
    exact ⟨by rw [hv9], rfl⟩
theorem zero_ne9 (b : Bool) : ((if b = true then (0 : Int) else 9) == 0) = b := by cases b <;> rfl
theorem checkSub_spec (s : Sub) (h1_ : s.us.size ≤ 9223372036854775807) (h2_ : s.ss.size ≤ 9223372036854775807) (h3_ : s.si.size ≤ 9223372036854775807) (h4_ : s.sr.size ≤ 9223372036854775807) (R : Rds) : Spec Try.prog 163 [.agg s.enc.toArray] R [] fun v H' => v = .int .i64 (if isSub s then 0 else 9) ∧ H' = [] := by
  obtain ⟨a4, a5, a6, a7⟩ := s
  simp only at h1_ h2_ h3_ h4_
  refine Spec.body Try.func163 rfl Try.results163 Try.ntmps163 rfl ?_
  refine .seq ?_
  refine .region ?_
  refine TriOps.boxA rfl (fun b1 => ?_)
  refine TriOps.q .assign ?_
  refine .nil ?_
  refine seqQ_n ?_
  refine .seq ?_
  refine .seq ?_
  refine .region ?_
  refine TriOps.q (.fieldAddr rfl) ?_
  refine TriOps.q (.load1 rfl) ?_
  refine TriOps.q .neS ?_
  refine .nil ?_
  refine seqQ_n ?_
  refine .cond rfl (fun h1 => ?_) (fun h1 => ?_)
  · skip
    have hne : ¬ a4 = ⟨#[]⟩ := by simpa using h1
    refine .seq ?_
    refine .region ?_
    refine TriOps.q (.fieldAddr rfl) ?_
    refine TriOps.q (.load1 rfl) ?_
    refine TriOps.callR (id_spec a4 h1_ _) (fun v hv => ?_)
    subst hv
    refine TriOps.q .move ?_
    refine TriOps.split (t := 9) rfl (fun g2_3 => ?_) (fun g2_3 => ?_)
    · skip
      have hv9 : isSub ⟨a4, a5, a6, a7⟩ = decide ((⟨a4, a5, a6, a7⟩ : Sub) = ⟨a4, ⟨#[]⟩, ⟨#[]⟩, ⟨#[]⟩⟩) := by
        unfold isSub
        simp only
        rw [if_neg hne, g2_3, Bool.true_and, Bool.eq_iff_iff]
        simp [and_assoc]
      refine TriOps.gT g2_3 ?_
      refine TriOps.q (.loadA rfl) ?_
      refine TriOps.gT g2_3 ?_
      refine TriOps.q (.fieldAddr rfl) ?_
      refine TriOps.gT g2_3 ?_
      refine TriOps.q (.load1 rfl) ?_
      refine TriOps.gT g2_3 ?_
      refine TriOps.q .bld ?_
      refine TriOps.gT g2_3 ?_
      refine TriOps.q (.eqA rfl rfl (Sub.kinds ⟨a4, a5, a6, a7⟩) (Sub.kinds ⟨a4, ⟨#[]⟩, ⟨#[]⟩, ⟨#[]⟩⟩)) ?_
      rw [show cellsEq (Sub.enc ⟨a4, a5, a6, a7⟩) (setL [.string ⟨#[]⟩, .string ⟨#[]⟩, .string ⟨#[]⟩, .string ⟨#[]⟩] 0 [.string a4]) = _ from Sub.eq ⟨a4, a5, a6, a7⟩ ⟨a4, ⟨#[]⟩, ⟨#[]⟩, ⟨#[]⟩⟩]
      refine TriOps.q (.pickTh g2_3) ?_
      refine TriOps.callR (tname_spec _ _) (fun v hv => ?_)
      subst hv
      refine TriOps.q .assign ?_
      refine .nil ?_
      refine seqQ_n ?_
      refine .ret (seqQ_r (retQ_r _ (.one (.tmp rfl)) (.none _) ?_))
      exact ⟨by rw [hv9], rfl⟩
    · skip
      have hv9 : isSub ⟨a4, a5, a6, a7⟩ = false := by
        unfold isSub
        simp only
        rw [if_neg hne, g2_3]; rfl
      refine TriOps.gF g2_3 ?_
      refine TriOps.gF g2_3 ?_
      refine TriOps.gF g2_3 ?_
      refine TriOps.gF g2_3 ?_
      refine TriOps.gF g2_3 ?_
      refine TriOps.q (.pickFh g2_3) ?_
      refine TriOps.callR (tname_spec _ _) (fun v hv => ?_)
      subst hv
      refine TriOps.q .assign ?_
      refine .nil ?_
      refine seqQ_n ?_
      refine .ret (seqQ_r (retQ_r _ (.one (.tmp rfl)) (.none _) ?_))
      exact ⟨by rw [hv9], rfl⟩
  · skip
    have hne : a4 = ⟨#[]⟩ := by simpa using h1
    refine .skip ?_
    refine seqQ_n ?_
    refine .seq ?_
    refine .region ?_
    refine TriOps.q (.fieldAddr rfl) ?_
    refine TriOps.q (.loadT rfl) ?_
    refine TriOps.callR (checkRef_spec a5 a6 h2_ h3_ _) (fun v hv => ?_)
    subst hv
    refine TriOps.q .eqI ?_
    rw [zero_ne9]
    refine TriOps.q .move ?_
    refine TriOps.split (t := 21) rfl (fun g3_4 => ?_) (fun g3_4 => ?_)
    · skip
      have hv9 : isSub ⟨a4, a5, a6, a7⟩ = isWord a7 := by
        unfold isSub
        simp only
        rw [if_pos hne, g3_4, Bool.true_and]
      refine TriOps.gT g3_4 ?_
      refine TriOps.q (.fieldAddr rfl) ?_
      refine TriOps.gT g3_4 ?_
      refine TriOps.q (.load1 rfl) ?_
      refine TriOps.gT g3_4 ?_
      refine TriOps.callR (word_spec a7 h4_ _) (fun v hv => ?_)
      subst hv
      refine TriOps.q (.pickTh g3_4) ?_
      refine TriOps.callR (tname_spec _ _) (fun v hv => ?_)
      subst hv
      refine TriOps.q .assign ?_
      refine .nil ?_
      refine seqQ_n ?_
      refine .ret (retQ_r _ (.one (.tmp rfl)) (.none _) ?_)
      exact ⟨by rw [hv9], rfl⟩
    · skip
      have hv9 : isSub ⟨a4, a5, a6, a7⟩ = false := by
        unfold isSub
        simp only
        rw [if_pos hne, g3_4]; rfl
      refine TriOps.gF g3_4 ?_
      refine TriOps.gF g3_4 ?_
      refine TriOps.gF g3_4 ?_
      refine TriOps.q (.pickFh g3_4) ?_
      refine TriOps.callR (tname_spec _ _) (fun v hv => ?_)
      subst hv
      refine TriOps.q .assign ?_
      refine .nil ?_
      refine seqQ_n ?_
      refine .ret (retQ_r _ (.one (.tmp rfl)) (.none _) ?_)
      exact ⟨by rw [hv9], rfl⟩
theorem checkTpl_spec (t : Tpl) (ht : t.fits) (R : Rds) : Spec Try.prog 138 [.agg t.enc.toArray] R [] fun v H' => v = .int .i64 (if isTpl t then 0 else 9) ∧ H' = [] := by
  obtain ⟨a1, a2, a3, a4, a5, a6, a7⟩ := t
  obtain ⟨k1, k2, k3, k4, k5, k6, k7⟩ := ht
  simp only at k1 k2 k3 k4 k5 k6 k7
  refine Spec.body Try.func138 rfl Try.results138 Try.ntmps138 rfl ?_
  refine .seq ?_
  refine .region ?_
  refine TriOps.boxA rfl (fun b1 => ?_)
  refine TriOps.q .assign ?_
  refine .nil ?_
  refine seqQ_n ?_
  refine .seq ?_
  refine .region ?_
  refine TriOps.q (.fieldAddr rfl) ?_
  refine TriOps.q (.loadT rfl) ?_
  refine TriOps.callR (checkRef_spec a1 a2 k1 k2 _) (fun v hv => ?_)
  subst hv
  refine TriOps.q .eqI ?_
  rw [zero_ne9]
  refine TriOps.q .move ?_
  refine TriOps.split (t := 7) rfl (fun g1_4 => ?_) (fun g1_4 => ?_)
  · skip
    refine TriOps.gT g1_4 ?_
    refine TriOps.q (.fieldAddr rfl) ?_
    refine TriOps.gT g1_4 ?_
    refine TriOps.q (.load1 rfl) ?_
    refine TriOps.gT g1_4 ?_
    refine TriOps.callR (word_spec a3 k3 _) (fun v hv => ?_)
    subst hv
    refine TriOps.q (.pickTh g1_4) ?_
    refine TriOps.q .move ?_
    refine TriOps.split (t := 12) rfl (fun g1_9 => ?_) (fun g1_9 => ?_)
    · skip
      have hv9 : isTpl ⟨a1, a2, a3, a4, a5, a6, a7⟩ = isSub ⟨a4, a5, a6, a7⟩ := by unfold isTpl; simp only; rw [g1_4, g1_9]; rfl
      refine TriOps.gT g1_9 ?_
      refine TriOps.q (.fieldAddr rfl) ?_
      refine TriOps.gT g1_9 ?_
      refine TriOps.q (.loadT rfl) ?_
      refine TriOps.gT g1_9 ?_
      refine TriOps.callR (checkSub_spec ⟨a4, a5, a6, a7⟩ k4 k5 k6 k7 _) (fun v hv => ?_)
      subst hv
      refine TriOps.gT g1_9 ?_
      refine TriOps.q .eqI ?_
      rw [zero_ne9]
      refine TriOps.q (.pickTh g1_9) ?_
      refine TriOps.callR (tname_spec _ _) (fun v hv => ?_)
      subst hv
      refine TriOps.q .assign ?_
      refine .nil ?_
      refine seqQ_n ?_
      refine .ret (retQ_r _ (.one (.tmp rfl)) (.none _) ?_)
      exact ⟨by rw [hv9], rfl⟩
    · skip
      have hv9 : isTpl ⟨a1, a2, a3, a4, a5, a6, a7⟩ = false := by unfold isTpl; simp only; rw [g1_4, g1_9]; rfl
      refine TriOps.gF g1_9 ?_
      refine TriOps.gF g1_9 ?_
      refine TriOps.gF g1_9 ?_
      refine TriOps.gF g1_9 ?_
      refine TriOps.q (.pickFh g1_9) ?_
      refine TriOps.callR (tname_spec _ _) (fun v hv => ?_)
      subst hv
      refine TriOps.q .assign ?_
      refine .nil ?_
      refine seqQ_n ?_
      refine .ret (retQ_r _ (.one (.tmp rfl)) (.none _) ?_)
      exact ⟨by rw [hv9], rfl⟩
  · skip
    have hv9 : isTpl ⟨a1, a2, a3, a4, a5, a6, a7⟩ = false := by unfold isTpl; simp only; rw [g1_4]; rfl
    refine TriOps.gF g1_4 ?_
    refine TriOps.gF g1_4 ?_
    refine TriOps.gF g1_4 ?_
    refine TriOps.q (.pickFh g1_4) ?_
    refine TriOps.q .move ?_
    refine TriOps.gf rfl rfl ?_
    refine TriOps.gf rfl rfl ?_
    refine TriOps.gf rfl rfl ?_
    refine TriOps.gf rfl rfl ?_
    refine TriOps.q .pickF ?_
    refine TriOps.callR (tname_spec _ _) (fun v hv => ?_)
    subst hv
    refine TriOps.q .assign ?_
    refine .nil ?_
    refine seqQ_n ?_
    refine .ret (retQ_r _ (.one (.tmp rfl)) (.none _) ?_)
    exact ⟨by rw [hv9], rfl⟩
theorem tfits_spec (a s : ByteArray) (R : Rds) : Spec Try.prog 94 [.string a, .string s] R [] fun v H' => v = .bool (decide (a = ⟨#[]⟩) || decide (a = s)) ∧ H' = [] := by
  refine Spec.body Try.func94 rfl Try.results94 Try.ntmps94 rfl ?_
  refine .seq ?_
  refine .region ?_
  refine TriOps.q .assign ?_
  refine .nil ?_
  refine seqQ_n ?_
  refine .seq ?_
  refine .region ?_
  refine TriOps.q .move ?_
  refine TriOps.q .eqS ?_
  refine TriOps.q .move ?_
  refine TriOps.split (t := 7) rfl (fun g1_2 => ?_) (fun g1_2 => ?_)
  · skip
    refine TriOps.gF g1_2 ?_
    refine TriOps.gF g1_2 ?_
    refine TriOps.gF g1_2 ?_
    refine TriOps.q (.pickTh g1_2) ?_
    refine TriOps.q .assign ?_
    refine .nil ?_
    refine seqQ_n ?_
    refine .ret (retQ_r _ (.one (.tmp rfl)) (.none _) ?_)
    refine ⟨congrArg _ ?_, rfl⟩
    simp_all
  · skip
    refine TriOps.gT g1_2 ?_
    refine TriOps.q .move ?_
    refine TriOps.gT g1_2 ?_
    refine TriOps.q .move ?_
    refine TriOps.gT g1_2 ?_
    refine TriOps.q .eqS ?_
    refine TriOps.q (.pickFh g1_2) ?_
    refine TriOps.q .assign ?_
    refine .nil ?_
    refine seqQ_n ?_
    refine .ret (retQ_r _ (.one (.tmp rfl)) (.none _) ?_)
    refine ⟨congrArg _ ?_, rfl⟩
    simp_all
theorem tmatch_spec (f t : Tpl) (R : Rds) : Spec Try.prog 69 [.agg f.enc.toArray, .agg t.enc.toArray] R [] fun v H' => v = .bool (tmatch f t) ∧ H' = [] := by
  have it : Ones (Sub.enc ⟨t.us, t.ss, t.si, t.sr⟩) := inferInstance
  refine Spec.body Try.func69 rfl Try.results69 Try.ntmps69 rfl ?_
  refine .seq ?_
  refine .region ?_
  refine TriOps.boxA rfl (fun b2 => ?_)
  refine TriOps.boxA rfl (fun b3 => ?_)
  refine TriOps.q .assign ?_
  refine .nil ?_
  refine seqQ_n ?_
  refine .seq ?_
  refine .region ?_
  refine TriOps.q (.fieldAddr rfl) ?_
  refine TriOps.q (.loadT rfl) ?_
  refine TriOps.allocA (fun b5 => ?_)
  refine TriOps.storeA rfl rfl ?_
  refine .nil ?_
  refine seqQ_n ?_
  refine .seq ?_
  refine .region ?_
  refine TriOps.q (.fieldAddr rfl) ?_
  refine TriOps.q (.load1 rfl) ?_
  refine TriOps.q (.fieldAddr rfl) ?_
  refine TriOps.q (.fieldAddr rfl) ?_
  refine TriOps.q (.load1 rfl) ?_
  refine TriOps.callR (tfits_spec (f.os) (t.os) _) (fun v hv => ?_)
  subst hv
  refine TriOps.q .move ?_
  refine TriOps.split (t := 14) rfl (fun g2_6 => ?_) (fun g2_6 => ?_)
  · skip
    refine TriOps.gT g2_6 ?_
    refine TriOps.q (.fieldAddr rfl) ?_
    refine TriOps.gT g2_6 ?_
    refine TriOps.q (.load1 rfl) ?_
    refine TriOps.gT g2_6 ?_
    refine TriOps.q (.fieldAddr rfl) ?_
    refine TriOps.gT g2_6 ?_
    refine TriOps.q (.fieldAddr rfl) ?_
    refine TriOps.gT g2_6 ?_
    refine TriOps.q (.load1 rfl) ?_
    refine TriOps.gT g2_6 ?_
    refine TriOps.callR (tfits_spec (f.oi) (t.oi) _) (fun v hv => ?_)
    subst hv
    refine TriOps.q (.pickTh g2_6) ?_
    refine TriOps.q .move ?_
    refine TriOps.split (t := 22) rfl (fun g2_14 => ?_) (fun g2_14 => ?_)
    · skip
      refine TriOps.gT g2_14 ?_
      refine TriOps.q (.fieldAddr rfl) ?_
      refine TriOps.gT g2_14 ?_
      refine TriOps.q (.load1 rfl) ?_
      refine TriOps.gT g2_14 ?_
      refine TriOps.q (.fieldAddr rfl) ?_
      refine TriOps.gT g2_14 ?_
      refine TriOps.q (.load1 rfl) ?_
      refine TriOps.gT g2_14 ?_
      refine TriOps.callR (tfits_spec (f.rel) (t.rel) _) (fun v hv => ?_)
      subst hv
      refine TriOps.q (.pickTh g2_14) ?_
      refine TriOps.q .move ?_
      refine TriOps.split (t := 29) rfl (fun g2_21 => ?_) (fun g2_21 => ?_)
      · skip
        refine TriOps.gT g2_21 ?_
        refine TriOps.q (.fieldAddr rfl) ?_
        refine TriOps.gT g2_21 ?_
        refine TriOps.q (.load1 rfl) ?_
        refine TriOps.gT g2_21 ?_
        refine TriOps.q (.fieldAddr rfl) ?_
        refine TriOps.gT g2_21 ?_
        refine TriOps.q (.load1 rfl) ?_
        refine TriOps.gT g2_21 ?_
        refine TriOps.callR (tfits_spec (f.us) (t.us) _) (fun v hv => ?_)
        subst hv
        refine TriOps.q (.pickTh g2_21) ?_
        refine TriOps.q .move ?_
        refine TriOps.split (t := 36) rfl (fun g2_28 => ?_) (fun g2_28 => ?_)
        · skip
          refine TriOps.gT g2_28 ?_
          refine TriOps.q (.fieldAddr rfl) ?_
          refine TriOps.gT g2_28 ?_
          refine TriOps.q (.fieldAddr rfl) ?_
          refine TriOps.gT g2_28 ?_
          refine TriOps.q (.load1 rfl) ?_
          refine TriOps.gT g2_28 ?_
          refine TriOps.q (.fieldAddr rfl) ?_
          refine TriOps.gT g2_28 ?_
          refine TriOps.q (.fieldAddr rfl) ?_
          refine TriOps.gT g2_28 ?_
          refine TriOps.q (.load1 rfl) ?_
          refine TriOps.gT g2_28 ?_
          refine TriOps.callR (tfits_spec (f.ss) (t.ss) _) (fun v hv => ?_)
          subst hv
          refine TriOps.q (.pickTh g2_28) ?_
          refine TriOps.q .move ?_
          refine TriOps.split (t := 45) rfl (fun g2_37 => ?_) (fun g2_37 => ?_)
          · skip
            refine TriOps.gT g2_37 ?_
            refine TriOps.q (.fieldAddr rfl) ?_
            refine TriOps.gT g2_37 ?_
            refine TriOps.q (.fieldAddr rfl) ?_
            refine TriOps.gT g2_37 ?_
            refine TriOps.q (.load1 rfl) ?_
            refine TriOps.gT g2_37 ?_
            refine TriOps.q (.fieldAddr rfl) ?_
            refine TriOps.gT g2_37 ?_
            refine TriOps.q (.fieldAddr rfl) ?_
            refine TriOps.gT g2_37 ?_
            refine TriOps.q (.load1 rfl) ?_
            refine TriOps.gT g2_37 ?_
            refine TriOps.callR (tfits_spec (f.si) (t.si) _) (fun v hv => ?_)
            subst hv
            refine TriOps.q (.pickTh g2_37) ?_
            refine TriOps.q .move ?_
            refine TriOps.split (t := 54) rfl (fun g2_46 => ?_) (fun g2_46 => ?_)
            · skip
              refine TriOps.gT g2_46 ?_
              refine TriOps.q (.fieldAddr rfl) ?_
              refine TriOps.gT g2_46 ?_
              refine TriOps.q (.load1 rfl) ?_
              refine TriOps.gT g2_46 ?_
              refine TriOps.q (.fieldAddr rfl) ?_
              refine TriOps.gT g2_46 ?_
              refine TriOps.q (.load1 rfl) ?_
              refine TriOps.gT g2_46 ?_
              refine TriOps.callR (tfits_spec (f.sr) (t.sr) _) (fun v hv => ?_)
              subst hv
              refine TriOps.q (.pickTh g2_46) ?_
              refine TriOps.q .assign ?_
              refine .nil ?_
              refine seqQ_n ?_
              refine .ret (retQ_r _ (.one (.tmp rfl)) (.none _) ?_)
              refine ⟨congrArg _ ?_, rfl⟩
              unfold tmatch
              simp_all
            · skip
              refine TriOps.gF g2_46 ?_
              refine TriOps.gF g2_46 ?_
              refine TriOps.gF g2_46 ?_
              refine TriOps.gF g2_46 ?_
              refine TriOps.gF g2_46 ?_
              refine TriOps.q (.pickFh g2_46) ?_
              refine TriOps.q .assign ?_
              refine .nil ?_
              refine seqQ_n ?_
              refine .ret (retQ_r _ (.one (.tmp rfl)) (.none _) ?_)
              refine ⟨congrArg _ ?_, rfl⟩
              unfold tmatch
              simp_all
          · skip
            refine TriOps.gF g2_37 ?_
            refine TriOps.gF g2_37 ?_
            refine TriOps.gF g2_37 ?_
            refine TriOps.gF g2_37 ?_
            refine TriOps.gF g2_37 ?_
            refine TriOps.gF g2_37 ?_
            refine TriOps.gF g2_37 ?_
            refine TriOps.q (.pickFh g2_37) ?_
            refine TriOps.q .move ?_
            refine TriOps.gf rfl rfl ?_
            refine TriOps.gf rfl rfl ?_
            refine TriOps.gf rfl rfl ?_
            refine TriOps.gf rfl rfl ?_
            refine TriOps.gf rfl rfl ?_
            refine TriOps.q .pickF ?_
            refine TriOps.q .assign ?_
            refine .nil ?_
            refine seqQ_n ?_
            refine .ret (retQ_r _ (.one (.tmp rfl)) (.none _) ?_)
            refine ⟨congrArg _ ?_, rfl⟩
            unfold tmatch
            simp_all
        · skip
          refine TriOps.gF g2_28 ?_
          refine TriOps.gF g2_28 ?_
          refine TriOps.gF g2_28 ?_
          refine TriOps.gF g2_28 ?_
          refine TriOps.gF g2_28 ?_
          refine TriOps.gF g2_28 ?_
          refine TriOps.gF g2_28 ?_
          refine TriOps.q (.pickFh g2_28) ?_
          refine TriOps.q .move ?_
          refine TriOps.gf rfl rfl ?_
          refine TriOps.gf rfl rfl ?_
          refine TriOps.gf rfl rfl ?_
          refine TriOps.gf rfl rfl ?_
          refine TriOps.gf rfl rfl ?_
          refine TriOps.gf rfl rfl ?_
          refine TriOps.gf rfl rfl ?_
          refine TriOps.q .pickF ?_
          refine TriOps.q .move ?_
          refine TriOps.gf rfl rfl ?_
          refine TriOps.gf rfl rfl ?_
          refine TriOps.gf rfl rfl ?_
          refine TriOps.gf rfl rfl ?_
          refine TriOps.gf rfl rfl ?_
          refine TriOps.q .pickF ?_
          refine TriOps.q .assign ?_
          refine .nil ?_
          refine seqQ_n ?_
          refine .ret (retQ_r _ (.one (.tmp rfl)) (.none _) ?_)
          refine ⟨congrArg _ ?_, rfl⟩
          unfold tmatch
          simp_all
      · skip
        refine TriOps.gF g2_21 ?_
        refine TriOps.gF g2_21 ?_
        refine TriOps.gF g2_21 ?_
        refine TriOps.gF g2_21 ?_
        refine TriOps.gF g2_21 ?_
        refine TriOps.q (.pickFh g2_21) ?_
        refine TriOps.q .move ?_
        refine TriOps.gf rfl rfl ?_
        refine TriOps.gf rfl rfl ?_
        refine TriOps.gf rfl rfl ?_
        refine TriOps.gf rfl rfl ?_
        refine TriOps.gf rfl rfl ?_
        refine TriOps.gf rfl rfl ?_
        refine TriOps.gf rfl rfl ?_
        refine TriOps.q .pickF ?_
        refine TriOps.q .move ?_
        refine TriOps.gf rfl rfl ?_
        refine TriOps.gf rfl rfl ?_
        refine TriOps.gf rfl rfl ?_
        refine TriOps.gf rfl rfl ?_
        refine TriOps.gf rfl rfl ?_
        refine TriOps.gf rfl rfl ?_
        refine TriOps.gf rfl rfl ?_
        refine TriOps.q .pickF ?_
        refine TriOps.q .move ?_
        refine TriOps.gf rfl rfl ?_
        refine TriOps.gf rfl rfl ?_
        refine TriOps.gf rfl rfl ?_
        refine TriOps.gf rfl rfl ?_
        refine TriOps.gf rfl rfl ?_
        refine TriOps.q .pickF ?_
        refine TriOps.q .assign ?_
        refine .nil ?_
        refine seqQ_n ?_
        refine .ret (retQ_r _ (.one (.tmp rfl)) (.none _) ?_)
        refine ⟨congrArg _ ?_, rfl⟩
        unfold tmatch
        simp_all
    · skip
      refine TriOps.gF g2_14 ?_
      refine TriOps.gF g2_14 ?_
      refine TriOps.gF g2_14 ?_
      refine TriOps.gF g2_14 ?_
      refine TriOps.gF g2_14 ?_
      refine TriOps.q (.pickFh g2_14) ?_
      refine TriOps.q .move ?_
      refine TriOps.gf rfl rfl ?_
      refine TriOps.gf rfl rfl ?_
      refine TriOps.gf rfl rfl ?_
      refine TriOps.gf rfl rfl ?_
      refine TriOps.gf rfl rfl ?_
      refine TriOps.q .pickF ?_
      refine TriOps.q .move ?_
      refine TriOps.gf rfl rfl ?_
      refine TriOps.gf rfl rfl ?_
      refine TriOps.gf rfl rfl ?_
      refine TriOps.gf rfl rfl ?_
      refine TriOps.gf rfl rfl ?_
      refine TriOps.gf rfl rfl ?_
      refine TriOps.gf rfl rfl ?_
      refine TriOps.q .pickF ?_
      refine TriOps.q .move ?_
      refine TriOps.gf rfl rfl ?_
      refine TriOps.gf rfl rfl ?_
      refine TriOps.gf rfl rfl ?_
      refine TriOps.gf rfl rfl ?_
      refine TriOps.gf rfl rfl ?_
      refine TriOps.gf rfl rfl ?_
      refine TriOps.gf rfl rfl ?_
      refine TriOps.q .pickF ?_
      refine TriOps.q .move ?_
      refine TriOps.gf rfl rfl ?_
      refine TriOps.gf rfl rfl ?_
      refine TriOps.gf rfl rfl ?_
      refine TriOps.gf rfl rfl ?_
      refine TriOps.gf rfl rfl ?_
      refine TriOps.q .pickF ?_
      refine TriOps.q .assign ?_
      refine .nil ?_
      refine seqQ_n ?_
      refine .ret (retQ_r _ (.one (.tmp rfl)) (.none _) ?_)
      refine ⟨congrArg _ ?_, rfl⟩
      unfold tmatch
      simp_all
  · skip
    refine TriOps.gF g2_6 ?_
    refine TriOps.gF g2_6 ?_
    refine TriOps.gF g2_6 ?_
    refine TriOps.gF g2_6 ?_
    refine TriOps.gF g2_6 ?_
    refine TriOps.gF g2_6 ?_
    refine TriOps.q (.pickFh g2_6) ?_
    refine TriOps.q .move ?_
    refine TriOps.gf rfl rfl ?_
    refine TriOps.gf rfl rfl ?_
    refine TriOps.gf rfl rfl ?_
    refine TriOps.gf rfl rfl ?_
    refine TriOps.gf rfl rfl ?_
    refine TriOps.q .pickF ?_
    refine TriOps.q .move ?_
    refine TriOps.gf rfl rfl ?_
    refine TriOps.gf rfl rfl ?_
    refine TriOps.gf rfl rfl ?_
    refine TriOps.gf rfl rfl ?_
    refine TriOps.gf rfl rfl ?_
    refine TriOps.q .pickF ?_
    refine TriOps.q .move ?_
    refine TriOps.gf rfl rfl ?_
    refine TriOps.gf rfl rfl ?_
    refine TriOps.gf rfl rfl ?_
    refine TriOps.gf rfl rfl ?_
    refine TriOps.gf rfl rfl ?_
    refine TriOps.gf rfl rfl ?_
    refine TriOps.gf rfl rfl ?_
    refine TriOps.q .pickF ?_
    refine TriOps.q .move ?_
    refine TriOps.gf rfl rfl ?_
    refine TriOps.gf rfl rfl ?_
    refine TriOps.gf rfl rfl ?_
    refine TriOps.gf rfl rfl ?_
    refine TriOps.gf rfl rfl ?_
    refine TriOps.gf rfl rfl ?_
    refine TriOps.gf rfl rfl ?_
    refine TriOps.q .pickF ?_
    refine TriOps.q .move ?_
    refine TriOps.gf rfl rfl ?_
    refine TriOps.gf rfl rfl ?_
    refine TriOps.gf rfl rfl ?_
    refine TriOps.gf rfl rfl ?_
    refine TriOps.gf rfl rfl ?_
    refine TriOps.q .pickF ?_
    refine TriOps.q .assign ?_
    refine .nil ?_
    refine seqQ_n ?_
    refine .ret (retQ_r _ (.one (.tmp rfl)) (.none _) ?_)
    refine ⟨congrArg _ ?_, rfl⟩
    unfold tmatch
    simp_all
end Go.Proofs.Ytkepgbimlolemaa
