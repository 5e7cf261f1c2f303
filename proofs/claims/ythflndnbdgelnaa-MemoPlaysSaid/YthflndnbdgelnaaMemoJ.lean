/- The law's walk: it answers true, whatever the steps. No condition. -/
import Derived.Test.YthflndnbdgelnaaMemoI
set_option linter.unusedVariables false
namespace Go.Proofs.Ythflndnbdgelnaa

structure Stp where
  kind : Int
  q : Quest
  x : Bool
  r : Int
def Stp.enc (s : Stp) : List Value := .int .i64 s.kind :: (s.q.enc ++ [.bool s.x, .int .u64 s.r])

theorem plays_bad (n : Int) (v : Value) (ss : List Stp) (R : Rds) (hS : RS R 9 Stp.enc v ss) (h : n < 0 ∨ 65536 < n) :
    Spec Try.prog 3 [.int .i64 n, v] R [] fun v H' => v = .bool true ∧ H' = [] := by
  refine Spec.body Try.func3 rfl Try.results3 Try.ntmps3 rfl ?_
  refine .seq ?_
  refine .region ?_
  refine TriOps.q .assign ?_
  refine .nil ?_
  refine seqQ_n ?_
  refine .seq ?_
  refine .region ?_
  refine TriOps.q .move ?_
  refine TriOps.callR (new_bad n _ h) (fun v1 hv => ?_)
  subst hv
  refine TriOps.q .move ?_
  refine TriOps.q .extract ?_
  refine TriOps.q .extract ?_
  refine TriOps.q .assign ?_
  refine TriOps.q .assign ?_
  refine .nil ?_
  refine seqQ_n ?_
  refine .seq ?_
  refine .region ?_
  refine TriOps.q .move ?_
  refine TriOps.callR (rnew_bad n _ h) (fun v2 hv => ?_)
  subst hv
  refine TriOps.q .move ?_
  refine TriOps.q .extract ?_
  refine TriOps.q .extract ?_
  refine TriOps.q .assign ?_
  refine TriOps.q .assign ?_
  refine .nil ?_
  refine seqQ_n ?_
  refine .seq ?_
  refine .seq ?_
  refine .region ?_
  refine TriOps.q .move ?_
  refine TriOps.q .move ?_
  refine TriOps.q .neI ?_
  refine TriOps.q .move ?_
  refine TriOps.split (t := 27) rfl (fun g3_3 => ?_) (fun g3_3 => ?_)
  · skip
    simp at g3_3
  · skip
    refine TriOps.gT g3_3 ?_
    refine TriOps.q .move ?_
    refine TriOps.gT g3_3 ?_
    refine TriOps.q (.eqNilA rfl rfl) ?_
    refine TriOps.gT g3_3 ?_
    refine TriOps.q .move ?_
    refine TriOps.gT g3_3 ?_
    refine TriOps.q (.eqNilA rfl rfl) ?_
    refine TriOps.gT g3_3 ?_
    refine TriOps.q .neB ?_
    refine TriOps.q (.pickFh g3_3) ?_
    refine .nil ?_
    refine seqQ_n ?_
    refine .condF ?_
    refine .skip ?_
    refine seqQ_n ?_
    refine .seq ?_
    refine .seq ?_
    refine .region ?_
    refine TriOps.q .assign ?_
    refine .nil ?_
    refine seqQ_n ?_
    refine .block ?_
    refine .loop (X := Unit) (fun _ => True) (fun _ => [(1, v), (7, .pointer none), (9, .int .i64 0)]) (fun _ => []) (fun _ => 0) () trivial ((((EnvLe.nil _).cons rfl).cons rfl).cons rfl) (HLe.refl _) ?_
    intro _ _
    refine .seq ?_
    refine .seq ?_
    refine .region ?_
    refine TriOps.q .move ?_
    refine TriOps.q .move ?_
    refine TriOps.q (.lenR hS) ?_
    refine TriOps.q .lss ?_
    refine TriOps.q .move ?_
    refine TriOps.split (t := 38) rfl (fun g6_4 => ?_) (fun g6_4 => ?_)
    · skip
      refine TriOps.gT g6_4 ?_
      refine TriOps.q .move ?_
      refine TriOps.gT g6_4 ?_
      refine TriOps.q .lss ?_
      refine TriOps.q (.pickTh g6_4) ?_
      refine TriOps.q .move ?_
      refine TriOps.split (t := 42) rfl (fun g6_8 => ?_) (fun g6_8 => ?_)
      · skip
        refine TriOps.gT g6_8 ?_
        refine TriOps.q .move ?_
        refine TriOps.gT g6_8 ?_
        refine TriOps.q (.neNilA rfl rfl) ?_
        refine TriOps.q (.pickTh g6_8) ?_
        refine .nil ?_
        refine seqQ_n ?_
        refine .condF ?_
        refine .exit (seqQ_x (loopQ_x (blkQ_x ?_)))
        refine seqQ_n ?_
        refine .seq ?_
        refine .region ?_
        refine TriOps.callR (lives_spec _) (fun v3 hv => ?_)
        subst hv
        refine TriOps.q .assign ?_
        refine .nil ?_
        refine seqQ_n ?_
        refine .ret (retQ_r _ (.one (.tmp rfl)) (.none _) ?_)
        exact ⟨rfl, rfl⟩
      · skip
        refine TriOps.gF g6_8 ?_
        refine TriOps.gF g6_8 ?_
        refine TriOps.q (.pickFh g6_8) ?_
        refine .nil ?_
        refine seqQ_n ?_
        refine .condF ?_
        refine .exit (seqQ_x (loopQ_x (blkQ_x ?_)))
        refine seqQ_n ?_
        refine .seq ?_
        refine .region ?_
        refine TriOps.callR (lives_spec _) (fun v3 hv => ?_)
        subst hv
        refine TriOps.q .assign ?_
        refine .nil ?_
        refine seqQ_n ?_
        refine .ret (retQ_r _ (.one (.tmp rfl)) (.none _) ?_)
        exact ⟨rfl, rfl⟩
    · skip
      refine TriOps.gF g6_4 ?_
      refine TriOps.gF g6_4 ?_
      refine TriOps.q (.pickFh g6_4) ?_
      refine TriOps.q .move ?_
      refine TriOps.gf rfl rfl ?_
      refine TriOps.gf rfl rfl ?_
      refine TriOps.q .pickF ?_
      refine .nil ?_
      refine seqQ_n ?_
      refine .condF ?_
      refine .exit (seqQ_x (loopQ_x (blkQ_x ?_)))
      refine seqQ_n ?_
      refine .seq ?_
      refine .region ?_
      refine TriOps.callR (lives_spec _) (fun v3 hv => ?_)
      subst hv
      refine TriOps.q .assign ?_
      refine .nil ?_
      refine seqQ_n ?_
      refine .ret (retQ_r _ (.one (.tmp rfl)) (.none _) ?_)
      exact ⟨rfl, rfl⟩

theorem plays_ok (n : Nat) (v : Value) (ss : List Stp) (R : Rds) (hS : RS R 9 Stp.enc v ss) (h : n ≤ 65536) :
    Spec Try.prog 3 [.int .i64 n, v] R [] fun v H' => v = .bool true ∧ H' = [] := by
  have hsl := hS.le
  refine Spec.body Try.func3 rfl Try.results3 Try.ntmps3 rfl ?_
  refine .seq ?_
  refine .region ?_
  refine TriOps.q .assign ?_
  refine .nil ?_
  refine seqQ_n ?_
  refine .seq ?_
  refine .region ?_
  refine TriOps.q .move ?_
  refine TriOps.callN ((new_ok n _ h).mono fun v H' ⟨b, T, h1, h2, h3⟩ => (⟨T, h2, b, h1, h3⟩ : ∃ T, H' = [T] ∧ ∃ b, v = .tuple [.pointer (some ⟨b, 0, none⟩), .int .i64 0].toArray ∧ PM.is b ⟨n, [], [], 0⟩ T)) (fun v1 Tm0 hv => ?_)
  obtain ⟨b, rfl, hm0⟩ := hv
  refine TriOps.q .move ?_
  refine TriOps.q .extract ?_
  refine TriOps.q .extract ?_
  refine TriOps.q .assign ?_
  refine TriOps.q .assign ?_
  refine .nil ?_
  refine seqQ_n ?_
  refine .seq ?_
  refine .region ?_
  refine TriOps.q .move ?_
  refine TriOps.callN (rnew_ok n _ h) (fun v2 Tr0 hv => ?_)
  obtain ⟨c, rfl, hr0⟩ := hv
  refine TriOps.q .move ?_
  refine TriOps.q .extract ?_
  refine TriOps.q .extract ?_
  refine TriOps.q .assign ?_
  refine TriOps.q .assign ?_
  refine .nil ?_
  refine seqQ_n ?_
  refine .seq ?_
  refine .seq ?_
  refine .region ?_
  refine TriOps.q .move ?_
  refine TriOps.q .move ?_
  refine TriOps.q .neI ?_
  refine TriOps.q .move ?_
  refine TriOps.split (t := 27) rfl (fun g3_3 => ?_) (fun g3_3 => ?_)
  · skip
    simp at g3_3
  · skip
    refine TriOps.gT g3_3 ?_
    refine TriOps.q .move ?_
    refine TriOps.gT g3_3 ?_
    refine TriOps.q (.eqNilA rfl rfl) ?_
    refine TriOps.gT g3_3 ?_
    refine TriOps.q .move ?_
    refine TriOps.gT g3_3 ?_
    refine TriOps.q (.eqNilA rfl rfl) ?_
    refine TriOps.gT g3_3 ?_
    refine TriOps.q .neB ?_
    refine TriOps.q (.pickFh g3_3) ?_
    refine .nil ?_
    refine seqQ_n ?_
    refine .condF ?_
    refine .skip ?_
    refine seqQ_n ?_
    refine .seq ?_
    refine .seq ?_
    refine .region ?_
    refine TriOps.q .assign ?_
    refine .nil ?_
    refine seqQ_n ?_
    refine .block ?_
    refine .loop (X := Nat × (PM × List (Quest × Bool)) × (Seg × Seg)) (fun y => y.1 ≤ ss.length ∧ Inv n y.2.1.1 y.2.1.2 ∧ PM.is b y.2.1.1 y.2.2.1 ∧ RefM.is c (RefM.of n y.2.1.2) y.2.2.2) (fun y => [(1, v), (5, .pointer (some ⟨b, 0, none⟩)), (7, .pointer (some ⟨c, 0, none⟩)), (9, .int .i64 (y.1 : Nat))]) (fun y => [y.2.2.2, y.2.2.1]) (fun y => ss.length - y.1) (0, (⟨n, [], [], 0⟩, []), (Tm0, Tr0)) ⟨by omega, Inv.new n, hm0, hr0⟩ (((((EnvLe.nil _).cons rfl).cons rfl).cons rfl).cons rfl) (HLe.refl _) ?_
    rintro ⟨i, ⟨m, z⟩, ⟨Tm, Tr⟩⟩ ⟨hi, hI, hm, hr⟩
    simp only at hi hI hm hr ⊢
    have hzl : z.length ≤ 65536 := by have := hI.le; omega
    have hal : m.age.length ≤ 1000000 := by rw [hI.age, List.length_map]; omega
    have hql : (RefM.of n z).qs.length ≤ 1000000 := by simp only [RefM.of, List.length_map]; omega
    have hbl : (RefM.of n z).bs.length = (RefM.of n z).qs.length := by simp [RefM.of]
    refine .seq ?_
    refine .seq ?_
    refine .region ?_
    refine TriOps.q .move ?_
    refine TriOps.q .move ?_
    refine TriOps.q (.lenR hS) ?_
    refine TriOps.q .lss ?_
    refine TriOps.q .move ?_
    refine TriOps.split (t := 38) rfl (fun g6_4 => ?_) (fun g6_4 => ?_)
    · skip
      have hlt : i < ss.length := by simp at g6_4; omega
      obtain ⟨s, hs⟩ : ∃ s, ss[i]? = some s := ⟨_, List.getElem?_eq_getElem hlt⟩
      have ps := hS.pc hs
      refine TriOps.gT g6_4 ?_
      refine TriOps.q .move ?_
      refine TriOps.gT g6_4 ?_
      refine TriOps.q .lss ?_
      refine TriOps.q (.pickTh g6_4) ?_
      refine TriOps.q .move ?_
      refine TriOps.split (t := 42) rfl (fun g6_8 => ?_) (fun g6_8 => ?_)
      · skip
        refine TriOps.gT g6_8 ?_
        refine TriOps.q .move ?_
        refine TriOps.gT g6_8 ?_
        refine TriOps.q (.neNilA rfl rfl) ?_
        refine TriOps.q (.pickTh g6_8) ?_
        refine .nil ?_
        refine seqQ_n ?_
        refine .condT ?_
        refine .skip ?_
        refine seqQ_n ?_
        refine .seq ?_
        refine .block ?_
        refine .seq ?_
        refine .seq ?_
        refine .region ?_
        refine TriOps.q .move ?_
        refine TriOps.q .move ?_
        refine TriOps.q (.indexR i hS hs rfl rfl rfl) ?_
        refine TriOps.q (.fieldAddr rfl) ?_
        refine TriOps.q (.load1 rfl) ?_
        refine .nil ?_
        refine seqQ_n ?_
        refine Tri.cut (X := (PM × List (Quest × Bool)) × (Seg × Seg)) (fun y => Inv n y.1.1 y.1.2 ∧ PM.is b y.1.1 y.2.1 ∧ RefM.is c (RefM.of n y.1.2) y.2.2) (fun _ => [(1, v), (5, .pointer (some ⟨b, 0, none⟩)), (7, .pointer (some ⟨c, 0, none⟩)), (9, .int .i64 (i : Nat))]) (fun y => [y.2.2, y.2.1]) ?_ ?_
        · refine .block ?_
          refine .seq ?_
          refine .region ?_
          refine TriOps.q .eqI ?_
          refine TriOps.q .assign ?_
          refine .nil ?_
          refine seqQ_n ?_
          refine .cond rfl (fun h3 => ?_) (fun h3 => ?_)
          · skip
            refine .seq ?_
            refine .region_all [12] mixed ?_
            refine RA.takeO 0 rfl .move (by kernel_rfl) ?_
            refine RA.takeO 1 rfl .move (by kernel_rfl) ?_
            refine RA.takeO 2 rfl .move (by kernel_rfl) ?_
            refine RA.takeO 3 rfl (.indexR i hS hs rfl rfl rfl) (by kernel_rfl) ?_
            refine RA.takeO 4 rfl (.fieldAddr rfl) (by kernel_rfl) ?_
            refine RA.takeO 5 rfl (.loadT rfl) (by kernel_rfl) ?_
            refine RA.takeO 7 rfl .move (by kernel_rfl) ?_
            refine RA.takeO 8 rfl .move (by kernel_rfl) ?_
            refine RA.takeO 9 rfl (.indexR i hS hs rfl rfl rfl) (by kernel_rfl) ?_
            refine RA.takeO 10 rfl (.fieldAddr rfl) (by kernel_rfl) ?_
            refine RA.takeO 11 rfl (.load1 rfl) (by kernel_rfl) ?_
            refine RA.step 6 rfl (by kernel_rfl) rfl ?_
            refine TriOps.callR (mine_spec s.q _) (fun v3 hv => ?_)
            subst hv
            refine .nil (Next.sub ?_)
            refine RA.step 12 rfl (by kernel_rfl) rfl ?_
            refine TriOps.callM (put_spec b m Tm hm s.q s.x R hal) (fun v4 Tm1 hv => ?_)
            obtain ⟨rfl, hm1⟩ := hv
            refine .nil (Next.mod rfl ?_)
            refine RA.nil (by kernel_rfl) ?_
            refine seqQ_n ?_
            refine .region_tail 11 mixed (by kernel_rfl) ?_
            refine TriOps.q .move ?_
            refine TriOps.q .move ?_
            refine TriOps.q .move ?_
            refine TriOps.q (.indexR i hS hs rfl rfl rfl) ?_
            refine TriOps.q (.fieldAddr rfl) ?_
            refine TriOps.q (.loadT rfl) ?_
            refine TriOps.q .move ?_
            refine TriOps.q .move ?_
            refine TriOps.q (.indexR i hS hs rfl rfl rfl) ?_
            refine TriOps.q (.fieldAddr rfl) ?_
            refine TriOps.q (.load1 rfl) ?_
            refine .nil ?_
            refine TriOps.callM (rput_spec c (RefM.of n z) Tr hr s.q s.x R hql hbl) (fun v5 Tr1 hv => ?_)
            obtain ⟨rfl, rm', hr1, hput⟩ := hv
            obtain ⟨z1, hI1, rfl⟩ := hI.put hput
            refine .nil ?_
            refine blkQ_n ?_
            first
              | exact joinQ_n ((_, z1), (Tm1, Tr1)) ⟨hI1, hm1, hr1⟩ (((((EnvLe.nil _).cons rfl).cons rfl).cons rfl).cons rfl) (HLe.refl _)
              | exact joinQ_n ((_, z.filter (keeps s.r)), (Tm2, Tr2)) ⟨hI.forget s.r, hm2, hr2⟩ (((((EnvLe.nil _).cons rfl).cons rfl).cons rfl).cons rfl) (HLe.refl _)
              | exact joinQ_n ((m, z), (Tm, Tr)) ⟨hI, hm, hr⟩ (((((EnvLe.nil _).cons rfl).cons rfl).cons rfl).cons rfl) (HLe.refl _)
          · skip
            refine .seq ?_
            refine .region ?_
            refine TriOps.q .eqI ?_
            refine TriOps.q .assign ?_
            refine .nil ?_
            refine seqQ_n ?_
            refine .cond rfl (fun h4 => ?_) (fun h4 => ?_)
            · skip
              refine .seq ?_
              refine .region ?_
              refine TriOps.q .move ?_
              refine TriOps.q .move ?_
              refine TriOps.q .move ?_
              refine TriOps.q (.indexR i hS hs rfl rfl rfl) ?_
              refine TriOps.q (.fieldAddr rfl) ?_
              refine TriOps.q (.load1 rfl) ?_
              refine TriOps.callM (forget_spec b m Tm hm s.r R hal) (fun v4 Tm2 hv => ?_)
              obtain ⟨rfl, hm2⟩ := hv
              refine .nil ?_
              refine seqQ_n ?_
              refine .region ?_
              refine TriOps.q .move ?_
              refine TriOps.q .move ?_
              refine TriOps.q .move ?_
              refine TriOps.q (.indexR i hS hs rfl rfl rfl) ?_
              refine TriOps.q (.fieldAddr rfl) ?_
              refine TriOps.q (.load1 rfl) ?_
              refine TriOps.callM (rforget_spec c (RefM.of n z) Tr hr s.r R hql hbl) (fun v5 Tr2 hv => ?_)
              obtain ⟨rfl, hr2⟩ := hv
              rw [upto_of] at hr2
              refine .nil ?_
              refine blkQ_n ?_
              first
                | exact joinQ_n ((_, z1), (Tm1, Tr1)) ⟨hI1, hm1, hr1⟩ (((((EnvLe.nil _).cons rfl).cons rfl).cons rfl).cons rfl) (HLe.refl _)
                | exact joinQ_n ((_, z.filter (keeps s.r)), (Tm2, Tr2)) ⟨hI.forget s.r, hm2, hr2⟩ (((((EnvLe.nil _).cons rfl).cons rfl).cons rfl).cons rfl) (HLe.refl _)
                | exact joinQ_n ((m, z), (Tm, Tr)) ⟨hI, hm, hr⟩ (((((EnvLe.nil _).cons rfl).cons rfl).cons rfl).cons rfl) (HLe.refl _)
            · skip
              refine .skip ?_
              refine blkQ_n ?_
              first
                | exact joinQ_n ((_, z1), (Tm1, Tr1)) ⟨hI1, hm1, hr1⟩ (((((EnvLe.nil _).cons rfl).cons rfl).cons rfl).cons rfl) (HLe.refl _)
                | exact joinQ_n ((_, z.filter (keeps s.r)), (Tm2, Tr2)) ⟨hI.forget s.r, hm2, hr2⟩ (((((EnvLe.nil _).cons rfl).cons rfl).cons rfl).cons rfl) (HLe.refl _)
                | exact joinQ_n ((m, z), (Tm, Tr)) ⟨hI, hm, hr⟩ (((((EnvLe.nil _).cons rfl).cons rfl).cons rfl).cons rfl) (HLe.refl _)
        · intro x hx
          obtain ⟨⟨m2, z2⟩, ⟨Tm2, Tr2⟩⟩ := x
          obtain ⟨hI2, hm2, hr2⟩ := hx
          simp only at hI2 hm2 hr2 ⊢
          obtain ⟨vq, vb, Tq, Tb, hTr, hQ, hB⟩ := hr2
          have hhd : sg Tr2 c (.cells [.int .i64 n, vq, vb].toArray 46 (0, 0)) := by rw [hTr]; simp [sg, RefM.of]
          have hps : PS Tr2 (.pointer (some ⟨c, 0, none⟩)) [.int .i64 n, vq, vb] := ⟨PC.of hhd⟩
          have hQs : RS (sg Tr2) 6 Quest.enc vq (RefM.of n z2).qs := hQ.rs fun p hp => by rw [hTr]; simp [sg, hp]
          have hBs : RS (sg Tr2) 1 encB vb (RefM.of n z2).bs := hB.rs fun p hp => by rw [hTr]; simp [sg, hp]
          have hlen : m2.kept.length = (RefM.of n z2).qs.length := by rw [hI2.len]; simp [RefM.of]
          refine seqQ_n ?_
          refine .seq ?_
          refine .seq ?_
          refine .region_all [] mixed ?_
          refine RA.takeO 0 rfl .move (by kernel_rfl) ?_
          refine RA.takeO 2 rfl .move (by kernel_rfl) ?_
          refine RA.takeO 3 rfl (.nilCheck rfl) (by kernel_rfl) ?_
          refine RA.takeO 4 rfl (.fieldAddr rfl) (by kernel_rfl) ?_
          refine RA.takeO 5 rfl (.load1 rfl) (by kernel_rfl) ?_
          refine RA.takeO 6 rfl (.lenR hQs) (by kernel_rfl) ?_
          refine RA.step 1 rfl (by kernel_rfl) rfl ?_
          refine TriOps.callR (len_spec b m2 Tm2 hm2 _ (fun p hp => .inr (by simp [hp]))) (fun v6 hv => ?_)
          subst hv
          refine .nil (Next.sub ?_)
          refine RA.takeO 7 rfl .neI (by kernel_rfl) ?_
          refine RA.nil (by kernel_rfl) ?_
          refine seqQ_n ?_
          refine .cond rfl (fun h5 => ?_) (fun h5 => ?_)
          · skip
            exfalso
            simp [hlen] at h5
          · skip
            refine .skip ?_
            refine seqQ_n ?_
            refine .seq ?_
            refine .region ?_
            refine TriOps.q .assign ?_
            refine .nil ?_
            refine seqQ_n ?_
            refine .block ?_
            refine .loop (X := Nat) (fun j => j ≤ i + 1) (fun j => [(1, v), (5, .pointer (some ⟨b, 0, none⟩)), (7, .pointer (some ⟨c, 0, none⟩)), (9, .int .i64 (i : Nat)), (10, .int .i64 (j : Nat))]) (fun _ => [Tr2, Tm2]) (fun j => i + 1 - j) 0 (by omega) ((((((EnvLe.nil _).cons rfl).cons rfl).cons rfl).cons rfl).cons rfl) (HLe.refl _) ?_
            intro j hj
            refine .seq ?_
            refine .seq ?_
            refine .region ?_
            refine TriOps.q .move ?_
            refine TriOps.q .move ?_
            refine TriOps.q .leq ?_
            refine .nil ?_
            refine seqQ_n ?_
            refine .cond rfl (fun h6 => ?_) (fun h6 => ?_)
            · skip
              have hji : j ≤ i := by simp at h6; omega
              obtain ⟨u, hu⟩ : ∃ u, ss[j]? = some u := ⟨_, List.getElem?_eq_getElem (by omega)⟩
              have pu := hS.pc hu
              refine .skip ?_
              refine seqQ_n ?_
              refine .seq ?_
              refine .block ?_
              refine .seq ?_
              refine .region ?_
              refine TriOps.q .move ?_
              refine TriOps.q .move ?_
              refine TriOps.q .move ?_
              refine TriOps.q (.indexR j hS hu rfl rfl rfl) ?_
              refine TriOps.q (.fieldAddr rfl) ?_
              refine TriOps.q (.loadT rfl) ?_
              refine TriOps.callR (mine_spec u.q _) (fun v7 hv => ?_)
              subst hv
              refine TriOps.callR (get_spec b m2 Tm2 hm2 u.q _ (fun p hp => .inr (by simp [hp]))) (fun v8 hv => ?_)
              subst hv
              refine TriOps.q .move ?_
              refine TriOps.q .extract ?_
              refine TriOps.q .extract ?_
              refine TriOps.q .assign ?_
              refine TriOps.q .assign ?_
              refine .nil ?_
              refine seqQ_n ?_
              refine .seq ?_
              refine .region ?_
              refine TriOps.q .move ?_
              refine TriOps.q .move ?_
              refine TriOps.q .move ?_
              refine TriOps.q (.indexR j hS hu rfl rfl rfl) ?_
              refine TriOps.q (.fieldAddr rfl) ?_
              refine TriOps.q (.loadT rfl) ?_
              refine TriOps.callR (find_spec c (RefM.of n z2) vq vb u.q _ ⟨.inr (by rw [hTr]; simp [RefM.of]), hQs.mono (fun b o hb => .inr (by simpa [sg] using .inl hb)), hBs.mono (fun b o hb => .inr (by simpa [sg] using .inl hb))⟩) (fun v9 hv => ?_)
              obtain ⟨k, rfl, hk⟩ : ∃ k : Int, v9 = .int .i64 k ∧ ((∃ (l : Nat) (y : Bool), k = l ∧ (RefM.of n z2).bs[l]? = some y ∧ mget u.q m2.kept = some y) ∨ (k = -1 ∧ mget u.q m2.kept = none)) := by
                rcases hv with ⟨l, h1, h2⟩ | ⟨h1, h2⟩
                · simp only [RefM.of, List.getElem?_map, Option.map_eq_some_iff] at h1
                  obtain ⟨p, hp, hpq⟩ := h1
                  exact ⟨l, h2, .inl ⟨l, p.2, rfl, by simp [RefM.of, hp], by rw [← hpq]; exact hI2.get p (List.mem_of_getElem? hp)⟩⟩
                · exact ⟨-1, h2, .inr ⟨rfl, hI2.non _ h1⟩⟩
              refine TriOps.q .assign ?_
              refine .nil ?_
              refine seqQ_n ?_
              refine .seq ?_
              refine .region ?_
              refine TriOps.q .move ?_
              refine TriOps.q .move ?_
              refine TriOps.q .geq ?_
              refine TriOps.q .neB ?_
              refine TriOps.q .move ?_
              refine TriOps.split (t := 131) rfl (fun g22_4 => ?_) (fun g22_4 => ?_)
              · skip
                exfalso
                rcases hk with ⟨l, y, rfl, _, hg⟩ | ⟨rfl, hg⟩ <;> simp [hg] at g22_4
              · skip
                refine TriOps.gT g22_4 ?_
                refine TriOps.q .move ?_
                refine TriOps.gT g22_4 ?_
                refine TriOps.q .move ?_
                refine TriOps.split (t := 133) rfl (fun g22_6 => ?_) (fun g22_6 => ?_)
                · skip
                  obtain ⟨l, y, rfl, hy, hg⟩ : ∃ (l : Nat) (y : Bool), k = l ∧ (RefM.of n z2).bs[l]? = some y ∧ mget u.q m2.kept = some y := by
                    rcases hk with hk | ⟨_, hg⟩
                    · exact hk
                    · simp [hg] at g22_6
                  have py : PS Tr2 (baseP vb (l * 1)) (encB y) := ⟨hBs.pc hy⟩
                  refine TriOps.gT g22_6 ?_
                  refine TriOps.q .move ?_
                  refine TriOps.gT g22_6 ?_
                  refine TriOps.q .move ?_
                  refine TriOps.gT g22_6 ?_
                  refine TriOps.q (.nilCheck rfl) ?_
                  refine TriOps.gT g22_6 ?_
                  refine TriOps.q (.fieldAddr rfl) ?_
                  refine TriOps.gT g22_6 ?_
                  refine TriOps.q (.load1 rfl) ?_
                  refine TriOps.gT g22_6 ?_
                  refine TriOps.q .move ?_
                  refine TriOps.gT g22_6 ?_
                  refine TriOps.q (.indexR l hBs hy rfl rfl rfl) ?_
                  refine TriOps.gT g22_6 ?_
                  refine TriOps.q (.load1 rfl) ?_
                  refine TriOps.gT g22_6 ?_
                  refine TriOps.q .neB ?_
                  refine TriOps.gT g22_4 ?_
                  refine TriOps.q (.pickTh g22_6) ?_
                  refine TriOps.q (.pickFh g22_4) ?_
                  refine TriOps.q .move ?_
                  refine TriOps.split (t := 145) rfl (fun g22_18 => ?_) (fun g22_18 => ?_)
                  · skip
                    exfalso
                    simp [hg] at g22_18
                  · skip
                    refine TriOps.gT g22_18 ?_
                    refine TriOps.q .move ?_
                    refine TriOps.gT g22_18 ?_
                    refine TriOps.q .not ?_
                    refine TriOps.gT g22_18 ?_
                    refine TriOps.q .move ?_
                    refine TriOps.split (t := 148) rfl (fun g22_21 => ?_) (fun g22_21 => ?_)
                    · skip
                      refine TriOps.gT g22_21 ?_
                      refine TriOps.q .move ?_
                      refine TriOps.gT g22_18 ?_
                      refine TriOps.q (.pickTh g22_21) ?_
                      refine TriOps.q (.pickFh g22_18) ?_
                      refine .nil ?_
                      refine seqQ_n ?_
                      refine .cond rfl (fun h7 => ?_) (fun h7 => ?_)
                      · skip
                        exfalso
                        cases hgg : mget u.q m2.kept <;> simp_all
                      · skip
                        refine .skip ?_
                        refine blkQ_n (seqQ_n ?_)
                        refine .region ?_
                        refine TriOps.q .move ?_
                        refine TriOps.q (.inc (n := j) (by omega)) ?_
                        refine TriOps.q .assign ?_
                        refine .nil ?_
                        exact loopQ_i (j + 1) (by omega) (by omega) ((((((EnvLe.nil _).cons rfl).cons rfl).cons rfl).cons rfl).cons rfl) (HLe.refl _)
                    · skip
                      refine TriOps.gF g22_21 ?_
                      refine TriOps.gT g22_18 ?_
                      refine TriOps.q (.pickFh g22_21) ?_
                      refine TriOps.q (.pickFh g22_18) ?_
                      refine .nil ?_
                      refine seqQ_n ?_
                      refine .condF ?_
                      refine .skip ?_
                      refine blkQ_n (seqQ_n ?_)
                      refine .region ?_
                      refine TriOps.q .move ?_
                      refine TriOps.q (.inc (n := j) (by omega)) ?_
                      refine TriOps.q .assign ?_
                      refine .nil ?_
                      exact loopQ_i (j + 1) (by omega) (by omega) ((((((EnvLe.nil _).cons rfl).cons rfl).cons rfl).cons rfl).cons rfl) (HLe.refl _)
                · skip
                  refine TriOps.gF g22_6 ?_
                  refine TriOps.gF g22_6 ?_
                  refine TriOps.gF g22_6 ?_
                  refine TriOps.gF g22_6 ?_
                  refine TriOps.gF g22_6 ?_
                  refine TriOps.gF g22_6 ?_
                  refine TriOps.gF g22_6 ?_
                  refine TriOps.gF g22_6 ?_
                  refine TriOps.gF g22_6 ?_
                  refine TriOps.gT g22_4 ?_
                  refine TriOps.q (.pickFh g22_6) ?_
                  refine TriOps.q (.pickFh g22_4) ?_
                  refine TriOps.q .move ?_
                  refine TriOps.gt rfl ?_
                  refine TriOps.q .move ?_
                  refine TriOps.gt rfl ?_
                  refine TriOps.q .not ?_
                  refine TriOps.gt rfl ?_
                  refine TriOps.q .move ?_
                  refine TriOps.split (t := 148) rfl (fun g22_21 => ?_) (fun g22_21 => ?_)
                  · skip
                    refine TriOps.gT g22_21 ?_
                    refine TriOps.q .move ?_
                    refine TriOps.gt rfl ?_
                    refine TriOps.q (.pickTh g22_21) ?_
                    refine TriOps.q .pickF ?_
                    refine .nil ?_
                    refine seqQ_n ?_
                    refine .cond rfl (fun h7 => ?_) (fun h7 => ?_)
                    · skip
                      exfalso
                      cases hgg : mget u.q m2.kept <;> simp_all
                    · skip
                      refine .skip ?_
                      refine blkQ_n (seqQ_n ?_)
                      refine .region ?_
                      refine TriOps.q .move ?_
                      refine TriOps.q (.inc (n := j) (by omega)) ?_
                      refine TriOps.q .assign ?_
                      refine .nil ?_
                      exact loopQ_i (j + 1) (by omega) (by omega) ((((((EnvLe.nil _).cons rfl).cons rfl).cons rfl).cons rfl).cons rfl) (HLe.refl _)
                  · skip
                    refine TriOps.gF g22_21 ?_
                    refine TriOps.gt rfl ?_
                    refine TriOps.q (.pickFh g22_21) ?_
                    refine TriOps.q .pickF ?_
                    refine .nil ?_
                    refine seqQ_n ?_
                    refine .condF ?_
                    refine .skip ?_
                    refine blkQ_n (seqQ_n ?_)
                    refine .region ?_
                    refine TriOps.q .move ?_
                    refine TriOps.q (.inc (n := j) (by omega)) ?_
                    refine TriOps.q .assign ?_
                    refine .nil ?_
                    exact loopQ_i (j + 1) (by omega) (by omega) ((((((EnvLe.nil _).cons rfl).cons rfl).cons rfl).cons rfl).cons rfl) (HLe.refl _)
            · skip
              refine .exit (seqQ_x (loopQ_x (blkQ_x ?_)))
              refine blkQ_n (seqQ_n ?_)
              refine .region ?_
              refine TriOps.q .move ?_
              refine TriOps.q (.inc (n := i) (by omega)) ?_
              refine TriOps.q .assign ?_
              refine .nil ?_
              exact loopQ_i (i + 1, (m2, z2), (Tm2, Tr2)) ⟨by simp only; omega, hI2, hm2, ⟨vq, vb, Tq, Tb, hTr, hQ, hB⟩⟩ (by simp only; omega) (((((EnvLe.nil _).cons rfl).cons rfl).cons rfl).cons rfl) (HLe.refl _)
      · skip
        refine TriOps.gF g6_8 ?_
        refine TriOps.gF g6_8 ?_
        refine TriOps.q (.pickFh g6_8) ?_
        refine .nil ?_
        refine seqQ_n ?_
        refine .condF ?_
        refine .exit (seqQ_x (loopQ_x (blkQ_x ?_)))
        refine seqQ_n ?_
        refine .seq ?_
        refine .region ?_
        refine TriOps.callR (lives_spec _) (fun v3 hv => ?_)
        subst hv
        refine TriOps.q .assign ?_
        refine .nil ?_
        refine seqQ_n ?_
        refine .ret (retQ_r _ (.one (.tmp rfl)) (.none _) ?_)
        exact ⟨rfl, rfl⟩
    · skip
      refine TriOps.gF g6_4 ?_
      refine TriOps.gF g6_4 ?_
      refine TriOps.q (.pickFh g6_4) ?_
      refine TriOps.q .move ?_
      refine TriOps.gf rfl rfl ?_
      refine TriOps.gf rfl rfl ?_
      refine TriOps.q .pickF ?_
      refine .nil ?_
      refine seqQ_n ?_
      refine .condF ?_
      refine .exit (seqQ_x (loopQ_x (blkQ_x ?_)))
      refine seqQ_n ?_
      refine .seq ?_
      refine .region ?_
      refine TriOps.callR (lives_spec _) (fun v3 hv => ?_)
      subst hv
      refine TriOps.q .assign ?_
      refine .nil ?_
      refine seqQ_n ?_
      refine .ret (retQ_r _ (.one (.tmp rfl)) (.none _) ?_)
      exact ⟨rfl, rfl⟩
end Go.Proofs.Ythflndnbdgelnaa
