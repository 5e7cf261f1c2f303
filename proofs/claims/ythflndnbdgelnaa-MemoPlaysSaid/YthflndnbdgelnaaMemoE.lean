/- The document's memo: Forget. No condition. -/
import Derived.Test.YthflndnbdgelnaaMemoD
set_option linter.unusedVariables false
namespace Go.Proofs.Ythflndnbdgelnaa

def keeps (r : Int) (p : Quest × Bool) : Bool := decide (p.1.rev ≥ r)
def upto (m : RefM) (r : Int) (i : Nat) : List (Quest × Bool) := ((m.qs.zip m.bs).take i).filter (keeps r)
theorem upto_step {m : RefM} {r : Int} {i : Nat} {q : Quest} {x : Bool} (hq : m.qs[i]? = some q) (hx : m.bs[i]? = some x) : upto m r (i + 1) = upto m r i ++ (if keeps r (q, x) then [(q, x)] else []) := by
  have hz : (m.qs.zip m.bs)[i]? = some (q, x) := by simp [List.getElem?_zip_eq_some, hq, hx]
  unfold upto
  rw [List.take_add_one, hz, List.filter_append]
  simp only [Option.toList_some, List.filter_cons, List.filter_nil]
theorem upto_le {m : RefM} {r : Int} {i : Nat} : (upto m r i).length ≤ m.qs.length := by
  unfold upto
  refine Nat.le_trans (List.length_filter_le _ _) ?_
  simp; omega
theorem rforget_spec (b : Nat) (m : RefM) (T : Seg) (hm : RefM.is b m T) (r : Int) (R : Rds) (hl : m.qs.length ≤ 1000000) (he : m.bs.length = m.qs.length) :
    Spec Try.prog 10 [.pointer (some ⟨b, 0, none⟩), .int .u64 r] R [T] fun v H' => ∃ T', H' = [T'] ∧ v = .tuple #[] ∧ RefM.is b ⟨m.size, (upto m r m.qs.length).map (·.1), (upto m r m.qs.length).map (·.2)⟩ T' := by
  obtain ⟨vq, vb, Tq, Tb, rfl, hQ, hB⟩ := hm
  have i1 := hQ.oneCell
  have i2 := hB.oneCell
  refine Spec.segs (H' := [[(b, .cells [.int .i64 m.size, vq, vb].toArray 46 (0, 0))], Tq, Tb, [], []]) (by simp) ?_
  refine Spec.body Try.func10 rfl Try.results10 Try.ntmps10 rfl ?_
  refine .seq ?_
  refine .region ?_
  refine TriOps.q .assign ?_
  refine .nil ?_
  refine seqQ_n ?_
  refine .seq ?_
  refine .region ?_
  refine TriOps.q .assign ?_
  refine .nil ?_
  refine seqQ_n ?_
  refine .seq ?_
  refine .seq ?_
  refine .region ?_
  refine TriOps.q .assign ?_
  refine .nil ?_
  refine seqQ_n ?_
  refine .block ?_
  refine .loop (X := Nat × (Value × Seg) × (Value × Seg)) (fun y => y.1 ≤ m.qs.length ∧ OS 34 6 Quest.enc y.2.1.1 ((upto m r y.1).map (·.1)) y.2.1.2 ∧ OS 4 1 encB y.2.2.1 ((upto m r y.1).map (·.2)) y.2.2.2) (fun y => [(0, .pointer (some ⟨b, 0, none⟩)), (1, .int .u64 r), (4, y.2.1.1), (5, y.2.2.1), (6, .int .i64 (y.1 : Nat))]) (fun y => [[(b, .cells [.int .i64 m.size, vq, vb].toArray 46 (0, 0))], Tq, Tb, y.2.1.2, y.2.2.2]) (fun y => m.qs.length - y.1) (0, (.slice none 0 0, []), (.slice none 0 0, [])) ⟨by omega, OS.nil, OS.nil⟩ ((((((EnvLe.nil _).cons rfl).cons rfl).cons rfl).cons rfl).cons rfl) (HLe.refl _) ?_
  rintro ⟨i, ⟨vq', Tq'⟩, ⟨vb', Tb'⟩⟩ ⟨hi, hQ', hB'⟩
  simp only at hi hQ' hB' ⊢
  have i3 := hQ'.oneCell
  have i4 := hB'.oneCell
  refine .seq ?_
  refine .seq ?_
  refine .region ?_
  refine TriOps.q .move ?_
  refine TriOps.q .move ?_
  refine TriOps.q (.nilCheck rfl) ?_
  refine TriOps.q (.fieldAddr rfl) ?_
  refine TriOps.q (.load1 rfl) ?_
  refine TriOps.q (.lenO hQ) ?_
  refine TriOps.q .lss ?_
  refine .nil ?_
  refine seqQ_n ?_
  refine .cond rfl (fun h1 => ?_) (fun h1 => ?_)
  · skip
    have hlt : i < m.qs.length := by simp at h1; omega
    obtain ⟨q, hq⟩ : ∃ q, m.qs[i]? = some q := ⟨_, List.getElem?_eq_getElem hlt⟩
    obtain ⟨x, hx⟩ : ∃ x, m.bs[i]? = some x := ⟨_, List.getElem?_eq_getElem (by omega)⟩
    have hst := upto_step (r := r) hq hx
    have hle := upto_le (m := m) (r := r) (i := i)
    refine .skip ?_
    refine seqQ_n ?_
    refine .seq ?_
    refine .block ?_
    refine .seq ?_
    refine .region ?_
    refine TriOps.q .move ?_
    refine TriOps.q (.nilCheck rfl) ?_
    refine TriOps.q (.fieldAddr rfl) ?_
    refine TriOps.q (.load1 rfl) ?_
    refine TriOps.q .move ?_
    refine TriOps.indexO i hQ hq (fun ps => ?_)
    refine TriOps.q (.fieldAddr rfl) ?_
    refine TriOps.q (.load1 rfl) ?_
    refine TriOps.q .move ?_
    refine TriOps.q .geq ?_
    refine TriOps.q .move ?_
    refine TriOps.split (t := 26) rfl (fun g5_10 => ?_) (fun g5_10 => ?_)
    · skip
      refine TriOps.gT g5_10 ?_
      refine TriOps.q .move ?_
      refine TriOps.gT g5_10 ?_
      refine TriOps.q .move ?_
      refine TriOps.gT g5_10 ?_
      refine TriOps.q (.nilCheck rfl) ?_
      refine TriOps.gT g5_10 ?_
      refine TriOps.q (.fieldAddr rfl) ?_
      refine TriOps.gT g5_10 ?_
      refine TriOps.q (.load1 rfl) ?_
      refine TriOps.gT g5_10 ?_
      refine TriOps.q (.lenO hB) ?_
      refine TriOps.gT g5_10 ?_
      refine TriOps.q .lss ?_
      refine TriOps.q (.pickTh g5_10) ?_
      refine .nil ?_
      refine seqQ_n ?_
      refine Tri.cut (X := (Value × Seg) × (Value × Seg)) (fun y => OS 34 6 Quest.enc y.1.1 ((upto m r (i + 1)).map (·.1)) y.1.2 ∧ OS 4 1 encB y.2.1 ((upto m r (i + 1)).map (·.2)) y.2.2) (fun y => [(0, .pointer (some ⟨b, 0, none⟩)), (1, .int .u64 r), (4, y.1.1), (5, y.2.1), (6, .int .i64 (i : Nat))]) (fun y => [[(b, .cells [.int .i64 m.size, vq, vb].toArray 46 (0, 0))], Tq, Tb, y.1.2, y.2.2]) ?_ ?_
      ·
        refine .cond rfl (fun h2 => ?_) (fun h2 => ?_)
        · skip
          refine .region_any [3, 3] [9, 19] mixed ?_
          conv => arg 3; simp only [take, rest, dropAt, List.getD_cons_zero, List.getD_cons_succ]
          conv => arg 5; simp only [take, rest, dropAt, List.getD_cons_zero, List.getD_cons_succ]
          conv => arg 9; simp only [take, rest, dropAt, List.getD_cons_zero, List.getD_cons_succ]
          refine RA.takeO 0 rfl .move (by kernel_rfl) ?_
          refine RA.takeO 1 rfl .move (by kernel_rfl) ?_
          refine RA.takeO 2 rfl (.nilCheck rfl) (by kernel_rfl) ?_
          refine RA.takeO 3 rfl (.fieldAddr rfl) (by kernel_rfl) ?_
          refine RA.takeO 4 rfl (.load1 rfl) (by kernel_rfl) ?_
          refine RA.takeO 5 rfl .move (by kernel_rfl) ?_
          refine RA.indexO 6 rfl i hQ hq rfl rfl rfl (by kernel_rfl) (fun ps1 => ?_)
          refine RA.takeO 7 rfl (.loadA rfl) (by kernel_rfl) ?_
          refine RA.take 10 rfl .move (by kernel_rfl) ?_
          refine RA.take 11 rfl .move (by kernel_rfl) ?_
          refine RA.take 12 rfl (.nilCheckA rfl) (by kernel_rfl) ?_
          refine RA.take 13 rfl (.fieldAddrA rfl) (by kernel_rfl) ?_
          refine RA.take 14 rfl (.load1 rfl) (by kernel_rfl) ?_
          refine RA.take 15 rfl .move (by kernel_rfl) ?_
          refine RA.indexO 16 rfl i hB hx rfl rfl rfl (by kernel_rfl) (fun ps2 => ?_)
          refine RA.take 17 rfl (.load1 rfl) (by kernel_rfl) ?_
          refine RA.step2 8 18 rfl rfl (by kernel_rfl) rfl ?_ ?_
          · skip
            refine TriOps.buildSlice1A (fun b43 => ?_)
            refine .nil (Next.sub ?_)
            refine RA.step2 9 18 rfl rfl (by kernel_rfl) rfl ?_ ?_
            · skip
              refine TriOps.append hQ' (RS.lit (b := b43) (E := 34) (fr := (0, 0)) (x := q) (by simp [Rx]) rfl rfl (Quest.one q).h) (by simp; omega) (fun vq1 Tq1 hQ1 => ?_)
              have i5 := hQ1.oneCell
              refine .nil (Next.mod rfl ?_)
              refine RA.step 18 rfl (by kernel_rfl) rfl ?_
              refine TriOps.buildSlice11 (fun b53 => ?_)
              refine .nil (Next.mod rfl ?_)
              refine RA.step 19 rfl (by kernel_rfl) rfl ?_
              refine TriOps.append hB' (RS.lit (b := b53) (E := 4) (fr := (0, 0)) (cs := [.bool x]) (x := x) (by simp [Rx]) rfl rfl (by simp [oneCell])) (by simp; omega) (fun vb1 Tb1 hB1 => ?_)
              have i6 := hB1.oneCell
              refine .nil (Next.mod rfl ?_)
              refine RA.take 20 rfl .assign (by kernel_rfl) ?_
              refine RA.take 21 rfl .assign (by kernel_rfl) ?_
              refine RA.nil (by kernel_rfl) ?_
              first
                | exact joinQ_n ((vq1, Tq1), (vb1, Tb1)) (by have hk : keeps r (q, x) = true := g5_10
                                                             rw [hst, if_pos hk]; simpa using ⟨hQ1, hB1⟩) ((((((EnvLe.nil _).cons rfl).cons rfl).cons rfl).cons rfl).cons rfl) (HLe.pick [4, 4, 4, 2, 2] _)
                | exact joinQ_n ((vq', Tq'), (vb', Tb')) (by have hk : keeps r (q, x) = false := g5_10
                                                             rw [hst, hk]; simpa using ⟨hQ', hB'⟩) ((((((EnvLe.nil _).cons rfl).cons rfl).cons rfl).cons rfl).cons rfl) (HLe.refl _)
                | (exfalso; simp at h2; omega)
            · skip
              refine TriOps.buildSlice11 (fun b53 => ?_)
              refine .nil (Next.sub ?_)
              refine RA.step 9 rfl (by kernel_rfl) rfl ?_
              refine TriOps.append hQ' (RS.lit (b := b43) (E := 34) (fr := (0, 0)) (x := q) (by simp [Rx]) rfl rfl (Quest.one q).h) (by simp; omega) (fun vq1 Tq1 hQ1 => ?_)
              have i5 := hQ1.oneCell
              refine .nil (Next.mod rfl ?_)
              refine RA.step 19 rfl (by kernel_rfl) rfl ?_
              refine TriOps.append hB' (RS.lit (b := b53) (E := 4) (fr := (0, 0)) (cs := [.bool x]) (x := x) (by simp [Rx]) rfl rfl (by simp [oneCell])) (by simp; omega) (fun vb1 Tb1 hB1 => ?_)
              have i6 := hB1.oneCell
              refine .nil (Next.mod rfl ?_)
              refine RA.take 20 rfl .assign (by kernel_rfl) ?_
              refine RA.take 21 rfl .assign (by kernel_rfl) ?_
              refine RA.nil (by kernel_rfl) ?_
              first
                | exact joinQ_n ((vq1, Tq1), (vb1, Tb1)) (by have hk : keeps r (q, x) = true := g5_10
                                                             rw [hst, if_pos hk]; simpa using ⟨hQ1, hB1⟩) ((((((EnvLe.nil _).cons rfl).cons rfl).cons rfl).cons rfl).cons rfl) (HLe.pick [4, 4, 4, 2, 2] _)
                | exact joinQ_n ((vq', Tq'), (vb', Tb')) (by have hk : keeps r (q, x) = false := g5_10
                                                             rw [hst, hk]; simpa using ⟨hQ', hB'⟩) ((((((EnvLe.nil _).cons rfl).cons rfl).cons rfl).cons rfl).cons rfl) (HLe.refl _)
                | (exfalso; simp at h2; omega)
          · skip
            refine TriOps.buildSlice11 (fun b53 => ?_)
            refine .nil (Next.sub ?_)
            refine RA.step 8 rfl (by kernel_rfl) rfl ?_
            refine TriOps.buildSlice1A (fun b43 => ?_)
            refine .nil (Next.sub ?_)
            refine RA.step 9 rfl (by kernel_rfl) rfl ?_
            refine TriOps.append hQ' (RS.lit (b := b43) (E := 34) (fr := (0, 0)) (x := q) (by simp [Rx]) rfl rfl (Quest.one q).h) (by simp; omega) (fun vq1 Tq1 hQ1 => ?_)
            have i5 := hQ1.oneCell
            refine .nil (Next.mod rfl ?_)
            refine RA.step 19 rfl (by kernel_rfl) rfl ?_
            refine TriOps.append hB' (RS.lit (b := b53) (E := 4) (fr := (0, 0)) (cs := [.bool x]) (x := x) (by simp [Rx]) rfl rfl (by simp [oneCell])) (by simp; omega) (fun vb1 Tb1 hB1 => ?_)
            have i6 := hB1.oneCell
            refine .nil (Next.mod rfl ?_)
            refine RA.take 20 rfl .assign (by kernel_rfl) ?_
            refine RA.take 21 rfl .assign (by kernel_rfl) ?_
            refine RA.nil (by kernel_rfl) ?_
            first
              | exact joinQ_n ((vq1, Tq1), (vb1, Tb1)) (by have hk : keeps r (q, x) = true := g5_10
                                                           rw [hst, if_pos hk]; simpa using ⟨hQ1, hB1⟩) ((((((EnvLe.nil _).cons rfl).cons rfl).cons rfl).cons rfl).cons rfl) (HLe.pick [4, 4, 4, 2, 2] _)
              | exact joinQ_n ((vq', Tq'), (vb', Tb')) (by have hk : keeps r (q, x) = false := g5_10
                                                           rw [hst, hk]; simpa using ⟨hQ', hB'⟩) ((((((EnvLe.nil _).cons rfl).cons rfl).cons rfl).cons rfl).cons rfl) (HLe.refl _)
              | (exfalso; simp at h2; omega)
        · skip
          refine .skip ?_
          first
            | exact joinQ_n ((vq1, Tq1), (vb1, Tb1)) (by have hk : keeps r (q, x) = true := g5_10
                                                         rw [hst, if_pos hk]; simpa using ⟨hQ1, hB1⟩) ((((((EnvLe.nil _).cons rfl).cons rfl).cons rfl).cons rfl).cons rfl) (HLe.pick [4, 4, 4, 2, 2] _)
            | exact joinQ_n ((vq', Tq'), (vb', Tb')) (by have hk : keeps r (q, x) = false := g5_10
                                                         rw [hst, hk]; simpa using ⟨hQ', hB'⟩) ((((((EnvLe.nil _).cons rfl).cons rfl).cons rfl).cons rfl).cons rfl) (HLe.refl _)
            | (exfalso; simp at h2; omega)
      · intro x hx
        obtain ⟨⟨vq2, Tq2⟩, ⟨vb2, Tb2⟩⟩ := x
        obtain ⟨hQ2, hB2⟩ := hx
        simp only at hQ2 hB2 ⊢
        refine blkQ_n (seqQ_n ?_)
        refine .region ?_
        refine TriOps.q .move ?_
        refine TriOps.q (.inc (n := i) (by omega)) ?_
        refine TriOps.q .assign ?_
        refine .nil ?_
        exact loopQ_i (i + 1, (vq2, Tq2), (vb2, Tb2)) ⟨by omega, hQ2, hB2⟩ (by simp only; omega) ((((((EnvLe.nil _).cons rfl).cons rfl).cons rfl).cons rfl).cons rfl) (HLe.refl _)
    · skip
      refine TriOps.gF g5_10 ?_
      refine TriOps.gF g5_10 ?_
      refine TriOps.gF g5_10 ?_
      refine TriOps.gF g5_10 ?_
      refine TriOps.gF g5_10 ?_
      refine TriOps.gF g5_10 ?_
      refine TriOps.gF g5_10 ?_
      refine TriOps.q (.pickFh g5_10) ?_
      refine .nil ?_
      refine seqQ_n ?_
      refine Tri.cut (X := (Value × Seg) × (Value × Seg)) (fun y => OS 34 6 Quest.enc y.1.1 ((upto m r (i + 1)).map (·.1)) y.1.2 ∧ OS 4 1 encB y.2.1 ((upto m r (i + 1)).map (·.2)) y.2.2) (fun y => [(0, .pointer (some ⟨b, 0, none⟩)), (1, .int .u64 r), (4, y.1.1), (5, y.2.1), (6, .int .i64 (i : Nat))]) (fun y => [[(b, .cells [.int .i64 m.size, vq, vb].toArray 46 (0, 0))], Tq, Tb, y.1.2, y.2.2]) ?_ ?_
      ·
        refine .condF ?_
        refine .skip ?_
        first
          | exact joinQ_n ((vq1, Tq1), (vb1, Tb1)) (by have hk : keeps r (q, x) = true := g5_10
                                                       rw [hst, if_pos hk]; simpa using ⟨hQ1, hB1⟩) ((((((EnvLe.nil _).cons rfl).cons rfl).cons rfl).cons rfl).cons rfl) (HLe.pick [4, 4, 4, 2, 2] _)
          | exact joinQ_n ((vq', Tq'), (vb', Tb')) (by have hk : keeps r (q, x) = false := g5_10
                                                       rw [hst, hk]; simpa using ⟨hQ', hB'⟩) ((((((EnvLe.nil _).cons rfl).cons rfl).cons rfl).cons rfl).cons rfl) (HLe.refl _)
          | (exfalso; simp at h2; omega)
      · intro x hx
        obtain ⟨⟨vq2, Tq2⟩, ⟨vb2, Tb2⟩⟩ := x
        obtain ⟨hQ2, hB2⟩ := hx
        simp only at hQ2 hB2 ⊢
        refine blkQ_n (seqQ_n ?_)
        refine .region ?_
        refine TriOps.q .move ?_
        refine TriOps.q (.inc (n := i) (by omega)) ?_
        refine TriOps.q .assign ?_
        refine .nil ?_
        exact loopQ_i (i + 1, (vq2, Tq2), (vb2, Tb2)) ⟨by omega, hQ2, hB2⟩ (by simp only; omega) ((((((EnvLe.nil _).cons rfl).cons rfl).cons rfl).cons rfl).cons rfl) (HLe.refl _)
  · skip
    refine .exit (seqQ_x (loopQ_x (blkQ_x ?_)))
    refine seqQ_n ?_
    refine .region ?_
    refine TriOps.q .move ?_
    refine TriOps.q .move ?_
    refine TriOps.q .move ?_
    refine TriOps.q .move ?_
    refine TriOps.q (.nilCheck rfl) ?_
    refine TriOps.q (.fieldAddr rfl) ?_
    refine TriOps.store1 rfl rfl ?_
    refine TriOps.q (.nilCheck rfl) ?_
    refine TriOps.q (.fieldAddr rfl) ?_
    refine TriOps.store1 rfl rfl ?_
    refine .nil ?_
    refine retQ_n _ .none (.one [0, 2, 2] _) ?_
    have hn : i = m.qs.length := by simp at h1; omega
    subst hn
    exact ⟨_, rfl, rfl, _, _, Tq', Tb', flat3 _ _ _, hQ', hB'⟩
end Go.Proofs.Ythflndnbdgelnaa
