/- The document's memo: its functions. No condition. -/
import Derived.Test.YthflndnbdgelnaaMemoC
set_option linter.unusedVariables false
namespace Go.Proofs.Ythflndnbdgelnaa

instance Quest.keyR : KeyT Try.prog 34 (fun q : Quest => .agg q.enc.toArray) := KeyT.agg fQ34 Try.underlying34 rfl Quest.kinds Quest.eq
structure RefM where
  size : Nat
  qs : List Quest
  bs : List Bool
def RefM.is (b : Nat) (m : RefM) (T : Seg) : Prop := ∃ vq vb Tq Tb, T = (b, .cells [.int .i64 m.size, vq, vb].toArray 46 (0, 0)) :: (Tq ++ Tb) ∧
  OS 34 6 Quest.enc vq m.qs Tq ∧ OS 4 1 encB vb m.bs Tb
def RefM.rd (R : Rds) (b : Nat) (m : RefM) (vq vb : Value) : Prop := R b (.cells [.int .i64 m.size, vq, vb].toArray 46 (0, 0)) ∧ RS R 6 Quest.enc vq m.qs ∧ RS R 1 encB vb m.bs

theorem rnew_bad (n : Int) (R : Rds) (h : n < 0 ∨ 65536 < n) : Spec Try.prog 5 [.int .i64 n] R [] fun v H' => v = .tuple [.pointer none, .int .i64 2].toArray ∧ H' = [] := by
  refine Spec.body Try.func5 rfl Try.results5 Try.ntmps5 rfl ?_
  refine .seq ?_
  refine .region ?_
  refine TriOps.q .assign ?_
  refine TriOps.q .assign ?_
  refine .nil ?_
  refine seqQ_n ?_
  refine .seq ?_
  refine .seq ?_
  refine .region ?_
  refine TriOps.q .move ?_
  refine TriOps.q .lss ?_
  refine TriOps.q .move ?_
  refine TriOps.split (t := 6) rfl (fun g1_2 => ?_) (fun g1_2 => ?_)
  · skip
    refine TriOps.gF g1_2 ?_
    refine TriOps.gF g1_2 ?_
    refine TriOps.q (.pickTh g1_2) ?_
    refine .nil ?_
    refine seqQ_n ?_
    refine .condT ?_
    refine .seq ?_
    refine .region ?_
    refine TriOps.q .assign ?_
    refine TriOps.q .assign ?_
    refine .nil ?_
    refine seqQ_n ?_
    refine .ret (seqQ_r (retQ_r _ (.two (.tmp rfl) (.tmp rfl)) (.none _) ?_))
    exact ⟨rfl, rfl⟩
  · skip
    refine TriOps.gT g1_2 ?_
    refine TriOps.q .move ?_
    refine TriOps.gT g1_2 ?_
    refine TriOps.q .gtr ?_
    refine TriOps.q (.pickFh g1_2) ?_
    refine .nil ?_
    refine seqQ_n ?_
    refine .cond rfl (fun h1 => ?_) (fun h1 => ?_)
    · skip
      refine .seq ?_
      refine .region ?_
      refine TriOps.q .assign ?_
      refine TriOps.q .assign ?_
      refine .nil ?_
      refine seqQ_n ?_
      refine .ret (seqQ_r (retQ_r _ (.two (.tmp rfl) (.tmp rfl)) (.none _) ?_))
      exact ⟨rfl, rfl⟩
    · skip
      simp at g1_2 h1; omega
theorem rnew_ok (n : Nat) (R : Rds) (h : n ≤ 65536) : Spec Try.prog 5 [.int .i64 n] R [] fun v H' => ∃ T, H' = [T] ∧ ∃ b, v = .tuple [.pointer (some ⟨b, 0, none⟩), .int .i64 0].toArray ∧ RefM.is b ⟨n, [], []⟩ T := by
  refine Spec.body Try.func5 rfl Try.results5 Try.ntmps5 rfl ?_
  refine .seq ?_
  refine .region ?_
  refine TriOps.q .assign ?_
  refine TriOps.q .assign ?_
  refine .nil ?_
  refine seqQ_n ?_
  refine .seq ?_
  refine .seq ?_
  refine .region ?_
  refine TriOps.q .move ?_
  refine TriOps.q .lss ?_
  refine TriOps.q .move ?_
  refine TriOps.split (t := 6) rfl (fun g1_2 => ?_) (fun g1_2 => ?_)
  · skip
    simp at g1_2; omega
  · skip
    refine TriOps.gT g1_2 ?_
    refine TriOps.q .move ?_
    refine TriOps.gT g1_2 ?_
    refine TriOps.q .gtr ?_
    refine TriOps.q (.pickFh g1_2) ?_
    refine .nil ?_
    refine seqQ_n ?_
    refine .cond rfl (fun h1 => ?_) (fun h1 => ?_)
    · skip
      simp at h1; omega
    · skip
      refine .skip ?_
      refine seqQ_n ?_
      refine .seq ?_
      refine .region ?_
      refine TriOps.q .move ?_
      refine TriOps.q .bld ?_
      refine TriOps.boxA rfl (fun b12 => ?_)
      refine TriOps.q .assign ?_
      refine TriOps.q .assign ?_
      refine .nil ?_
      refine seqQ_n ?_
      refine .ret (retQ_r _ (.two (.tmp rfl) (.tmp rfl)) (.one [0] _) ?_)
      exact ⟨_, rfl, _, rfl, _, _, [], [], rfl, OS.nil, OS.nil⟩

theorem find_spec (b : Nat) (m : RefM) (vq vb : Value) (q : Quest) (R : Rds) (hm : RefM.rd R b m vq vb) :
    Spec Try.prog 13 [.pointer (some ⟨b, 0, none⟩), .agg q.enc.toArray] R [] fun v H' => ((∃ i, m.qs[i]? = some q ∧ v = .int .i64 (i : Nat)) ∨ (q ∉ m.qs ∧ v = .int .i64 (-1))) ∧ H' = [] := by
  obtain ⟨h1, hq, hb⟩ := hm
  have pc := PC.of h1
  have i1 := hq.oneCell
  have hle := hq.le
  refine Spec.body Try.func13 rfl Try.results13 Try.ntmps13 rfl ?_
  refine .seq ?_
  refine .region ?_
  refine TriOps.boxA rfl (fun b3 => ?_)
  refine TriOps.q .assign ?_
  refine .nil ?_
  refine seqQ_n ?_
  refine .seq ?_
  refine .seq ?_
  refine .region ?_
  refine TriOps.q .assign ?_
  refine .nil ?_
  refine seqQ_n ?_
  refine .block ?_
  refine .loop (X := Nat) (fun i => i ≤ m.qs.length ∧ ∀ j, j < i → m.qs[j]? ≠ some q) (fun i => [(0, .pointer (some ⟨b, 0, none⟩)), (3, .pointer (some ⟨b3, 0, none⟩)), (5, .int .i64 (i : Nat))]) (fun _ => [[(b3, .cells q.enc.toArray 34 (0, 0))]]) (fun i => m.qs.length - i) 0 ⟨by omega, by omega⟩ ((((EnvLe.nil _).cons rfl).cons rfl).cons rfl) (HLe.refl _) ?_
  intro i hi
  refine .seq ?_
  refine .seq ?_
  refine .region ?_
  refine TriOps.q .move ?_
  refine TriOps.q .move ?_
  refine TriOps.q (.nilCheck rfl) ?_
  refine TriOps.q (.fieldAddr rfl) ?_
  refine TriOps.q (.load1 rfl) ?_
  refine TriOps.q (.lenR hq) ?_
  refine TriOps.q .lss ?_
  refine .nil ?_
  refine seqQ_n ?_
  refine .cond rfl (fun h1 => ?_) (fun h1 => ?_)
  · skip
    obtain ⟨z, hz⟩ : ∃ z, m.qs[i]? = some z := by
      have : i < m.qs.length := by simp at h1; omega
      exact ⟨_, List.getElem?_eq_getElem this⟩
    have hlt : i < m.qs.length := by simp at h1; omega
    refine .skip ?_
    refine seqQ_n ?_
    refine .seq ?_
    refine .block ?_
    refine .seq ?_
    refine .region_still mixed (by kernel_rfl) ?_
    refine TriOps.q .move ?_
    refine TriOps.q (.nilCheck rfl) ?_
    refine TriOps.q (.fieldAddr rfl) ?_
    refine TriOps.q (.load1 rfl) ?_
    refine TriOps.q .move ?_
    refine TriOps.indexR i hq hz (fun pz => ?_)
    refine TriOps.q (.loadA rfl) ?_
    refine TriOps.q (.loadA rfl) ?_
    refine TriOps.q (.eqA rfl rfl z.kinds q.kinds) ?_
    refine .nil ?_
    refine seqQ_n ?_
    refine .cond rfl (fun h2 => ?_) (fun h2 => ?_)
    · skip
      refine .seq ?_
      refine .region ?_
      refine TriOps.q .move ?_
      refine TriOps.q .assign ?_
      refine .nil ?_
      refine seqQ_n ?_
      refine .ret (blkQ_r (seqQ_r (loopQ_r (blkQ_r (seqQ_r (retQ_r _ (.one (.tmp rfl)) (.none _) ?_))))))
      exact ⟨.inl ⟨i, by rw [hz]; simp [Quest.eq] at h2; rw [h2], rfl⟩, rfl⟩
    · skip
      refine .skip ?_
      refine blkQ_n (seqQ_n ?_)
      refine .region ?_
      refine TriOps.q .move ?_
      refine TriOps.q (.inc (n := i) (by omega)) ?_
      refine TriOps.q .assign ?_
      refine .nil ?_
      exact loopQ_i (i + 1) ⟨by omega, fun j hj => by
        rcases Nat.lt_or_ge j i with h | h
        · exact hi.2 j h
        · obtain rfl : j = i := by omega
          rw [hz]; simp [Quest.eq] at h2; simpa using h2⟩ (by omega) ((((EnvLe.nil _).cons rfl).cons rfl).cons rfl) (HLe.refl _)
  · skip
    refine .exit (seqQ_x (loopQ_x (blkQ_x ?_)))
    refine seqQ_n ?_
    refine .seq ?_
    refine .region ?_
    refine TriOps.q .assign ?_
    refine .nil ?_
    refine seqQ_n ?_
    refine .ret (retQ_r _ (.one (.tmp rfl)) (.none _) ?_)
    refine ⟨.inr ⟨fun hc => ?_, rfl⟩, rfl⟩
    obtain ⟨j, hj, he⟩ := List.mem_iff_getElem.1 hc
    refine hi.2 j ?_ (by rw [List.getElem?_eq_getElem hj, he])
    simp at h1; omega

/-- What Put does. -/
def RefM.Put (m : RefM) (q : Quest) (x : Bool) (m' : RefM) : Prop :=
  (∃ i, m.qs[i]? = some q ∧ m' = ⟨m.size, m.qs, m.bs.set i x⟩) ∨ (q ∉ m.qs ∧ m' = if m.size < (m.qs ++ [q]).length then ⟨m.size, (m.qs ++ [q]).drop 1, (m.bs ++ [x]).drop 1⟩ else ⟨m.size, m.qs ++ [q], m.bs ++ [x]⟩)
theorem rput_spec (b : Nat) (m : RefM) (T : Seg) (hm : RefM.is b m T) (q : Quest) (x : Bool) (R : Rds) (hl : m.qs.length ≤ 1000000) (he : m.bs.length = m.qs.length) :
    Spec Try.prog 8 [.pointer (some ⟨b, 0, none⟩), .agg q.enc.toArray, .bool x] R [T] fun v H' => ∃ T', H' = [T'] ∧ v = .tuple #[] ∧ ∃ m', RefM.is b m' T' ∧ m.Put q x m' := by
  obtain ⟨vq, vb, Tq, Tb, rfl, hQ, hB⟩ := hm
  have i1 := hQ.oneCell
  have i2 := hB.oneCell
  have enc1 : ∀ y : Bool, (encB y).length = 1 := fun _ => rfl
  refine Spec.segs (H' := [[(b, .cells [.int .i64 m.size, vq, vb].toArray 46 (0, 0))], Tq, Tb]) (by simp) ?_
  refine Spec.body Try.func8 rfl Try.results8 Try.ntmps8 rfl ?_
  refine .seq ?_
  refine .region ?_
  refine TriOps.boxA rfl (fun b4 => ?_)
  refine .nil ?_
  refine seqQ_n ?_
  refine .seq ?_
  refine .region ?_
  refine TriOps.q .move ?_
  refine TriOps.q (.loadA rfl) ?_
  refine TriOps.callR (find_spec b m vq vb q _ ⟨.inr (by simp), hQ.rx, hB.rx⟩) (fun v hv => ?_)
  obtain ⟨j, rfl, hj⟩ : ∃ j : Int, v = .int .i64 j ∧ ((∃ i : Nat, m.qs[i]? = some q ∧ j = i) ∨ (q ∉ m.qs ∧ j = -1)) := by
    rcases hv with ⟨i, h1, h2⟩ | ⟨h1, h2⟩
    · exact ⟨i, h2, .inl ⟨i, h1, rfl⟩⟩
    · exact ⟨-1, h2, .inr ⟨h1, rfl⟩⟩
  refine TriOps.q .assign ?_
  refine .nil ?_
  refine seqQ_n ?_
  refine .seq ?_
  refine .seq ?_
  refine .region ?_
  refine TriOps.q .move ?_
  refine TriOps.q .geq ?_
  refine .nil ?_
  refine seqQ_n ?_
  refine .cond rfl (fun h1 => ?_) (fun h1 => ?_)
  · skip
    have hj' : 0 ≤ j := by simpa using h1
    obtain ⟨i, hi, rfl⟩ : ∃ i : Nat, m.qs[i]? = some q ∧ j = i := by
      rcases hj with h | h
      · exact h
      · omega
    obtain ⟨y, hy⟩ : ∃ y, m.bs[i]? = some y := by
      obtain ⟨hlt, _⟩ := List.getElem?_eq_some_iff.1 hi
      exact ⟨_, List.getElem?_eq_getElem (by omega)⟩
    refine .seq ?_
    refine .region ?_
    refine TriOps.q .move ?_
    refine TriOps.q (.nilCheck rfl) ?_
    refine TriOps.q (.fieldAddr rfl) ?_
    refine TriOps.q (.load1 rfl) ?_
    refine TriOps.q .move ?_
    refine TriOps.q .move ?_
    refine TriOps.indexO i hB hy (fun ps => ?_)
    refine TriOps.storeO1 i hB hy x (fun Tb' hB' => ?_)
    refine .nil ?_
    refine seqQ_n ?_
    refine .ret (seqQ_r (retQ_r _ .none (.one [1, 1, 1] _) ?_))
    exact ⟨_, rfl, rfl, ⟨m.size, m.qs, m.bs.set i x⟩, ⟨_, _, Tq, Tb', flat3 _ _ _, hQ, hB'⟩, .inl ⟨i, hi, rfl⟩⟩
  · skip
    have hq : q ∉ m.qs := by
      rcases hj with ⟨i, h, rfl⟩ | h
      · simp at h1
      · exact h.1
    refine .skip ?_
    refine seqQ_n ?_
    refine .seq ?_
    refine .region_still mixed (by kernel_rfl) ?_
    refine TriOps.q .move ?_
    refine TriOps.q (.nilCheck rfl) ?_
    refine TriOps.q (.fieldAddr rfl) ?_
    refine TriOps.q (.load1 rfl) ?_
    refine TriOps.q .move ?_
    refine TriOps.q (.nilCheck rfl) ?_
    refine TriOps.q (.fieldAddr rfl) ?_
    refine TriOps.q (.load1 rfl) ?_
    refine TriOps.q .assign ?_
    refine TriOps.q .assign ?_
    refine .nil ?_
    refine seqQ_n ?_
    refine .seq ?_
    refine .region ?_
    refine TriOps.q .move ?_
    refine TriOps.q .move ?_
    refine TriOps.q .move ?_
    refine TriOps.q (.loadA rfl) ?_
    refine TriOps.buildSlice1A (fun b33 => ?_)
    refine TriOps.append hQ (RS.lit1 (x := q) rfl rfl (Quest.one q).h) (by simp; omega) (fun vq1 Tq1 hQ1 => ?_)
    have i3 := hQ1.oneCell
    refine TriOps.q .move ?_
    refine TriOps.q .move ?_
    refine TriOps.buildSlice11 (fun b37 => ?_)
    refine TriOps.append hB (RS.lit1 (x := x) rfl rfl (by simp [oneCell])) (by simp; omega) (fun vb1 Tb1 hB1 => ?_)
    have i4 := hB1.oneCell
    refine TriOps.q (.nilCheck rfl) ?_
    refine TriOps.q (.fieldAddr rfl) ?_
    refine TriOps.store1 rfl rfl ?_
    refine TriOps.q (.nilCheck rfl) ?_
    refine TriOps.q (.fieldAddr rfl) ?_
    refine TriOps.store1 rfl rfl ?_
    refine .nil ?_
    refine seqQ_n ?_
    refine .seq ?_
    refine .region_still mixed (by kernel_rfl) ?_
    refine TriOps.q .move ?_
    refine TriOps.q (.nilCheck rfl) ?_
    refine TriOps.q (.fieldAddr rfl) ?_
    refine TriOps.q (.load1 rfl) ?_
    refine TriOps.q (.lenO hQ1) ?_
    refine TriOps.q .move ?_
    refine TriOps.q (.nilCheck rfl) ?_
    refine TriOps.q (.fieldAddr rfl) ?_
    refine TriOps.q (.load1 rfl) ?_
    refine TriOps.q .gtr ?_
    refine .nil ?_
    refine seqQ_n ?_
    refine .cond rfl (fun h2 => ?_) (fun h2 => ?_)
    · skip
      have hlt : m.size < (m.qs ++ [q]).length := by simp at h2 ⊢; omega
      refine .region_all [14, 17] mixed ?_
      refine RA.takeO 0 rfl .move (by kernel_rfl) ?_
      refine RA.take 1 rfl .move (by kernel_rfl) ?_
      refine RA.takeO 2 rfl .move (by kernel_rfl) ?_
      refine RA.takeO 3 rfl (.nilCheck rfl) (by kernel_rfl) ?_
      refine RA.takeO 4 rfl (.fieldAddr rfl) (by kernel_rfl) ?_
      refine RA.takeO 5 rfl (.load1 rfl) (by kernel_rfl) ?_
      refine RA.sliceO 6 rfl 1 (m.qs ++ [q]).length hQ1 ⟨_, rfl⟩ rfl (by simp) (by simp) rfl (by kernel_rfl) (fun vq2 hQ2 => ?_)
      refine RA.takeO 7 rfl .move (by kernel_rfl) ?_
      refine RA.takeO 8 rfl (.nilCheck rfl) (by kernel_rfl) ?_
      refine RA.takeO 9 rfl (.fieldAddr rfl) (by kernel_rfl) ?_
      refine RA.takeO 10 rfl (.load1 rfl) (by kernel_rfl) ?_
      refine RA.sliceO 11 rfl 1 (m.bs ++ [x]).length hB1 ⟨_, rfl⟩ rfl (by simp) (by simp) rfl (by kernel_rfl) (fun vb2 hB2 => ?_)
      refine RA.takeO 12 rfl (.nilCheck rfl) (by kernel_rfl) ?_
      refine RA.takeO 13 rfl (.fieldAddr rfl) (by kernel_rfl) ?_
      refine RA.step 14 rfl (by kernel_rfl) rfl ?_
      have i5 := hQ2.oneCell
      refine TriOps.store1 rfl rfl ?_
      refine .nil (Next.mod rfl ?_)
      refine RA.take 15 rfl (.nilCheckA rfl) (by kernel_rfl) ?_
      refine RA.take 16 rfl (.fieldAddrA rfl) (by kernel_rfl) ?_
      refine RA.step 17 rfl (by kernel_rfl) rfl ?_
      have i6 := hB2.oneCell
      refine TriOps.store1 rfl rfl ?_
      refine .nil (Next.mod rfl ?_)
      refine RA.nil (by kernel_rfl) ?_
      refine retQ_n _ .none (.one [3, 3, 3] _) ?_
      rw [List.take_of_length_le (by simp)] at hQ2 hB2
      refine ⟨_, rfl, rfl, ⟨m.size, (m.qs ++ [q]).drop 1, (m.bs ++ [x]).drop 1⟩, ⟨_, _, Tq1, Tb1, flat3 _ _ _, hQ2, hB2⟩, .inr ⟨hq, ?_⟩⟩
      rw [if_pos hlt]
    · skip
      have hge : ¬ m.size < (m.qs ++ [q]).length := by simp at h2 ⊢; omega
      refine .skip ?_
      refine retQ_n _ .none (.one [3, 3, 3] _) ?_
      refine ⟨_, rfl, rfl, ⟨m.size, m.qs ++ [q], m.bs ++ [x]⟩, ⟨_, _, Tq1, Tb1, flat3 _ _ _, hQ1, hB1⟩, .inr ⟨hq, ?_⟩⟩
      rw [if_neg hge]
end Go.Proofs.Ythflndnbdgelnaa
