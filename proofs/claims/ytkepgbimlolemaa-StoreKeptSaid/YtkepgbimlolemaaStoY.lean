/- A store behind calls. No condition. -/
import Derived.Test.YtkepgbimlolemaaStoX
import Derived.Test.YtkepgbimlolemaaStoU
import Derived.Test.YtkepgbimlolemaaStoN
import Derived.Test.YtkepgbimlolemaaStoO
set_option linter.unusedVariables false
set_option linter.unusedSimpArgs false
set_option maxRecDepth 4000
namespace Go.Proofs.Ytkepgbimlolemaa
/-- No tuple is put at the revision at which it was taken away. -/
def SPL (S : Sto) : Prop := S.rows.Pairwise fun x y => x.t = y.t → x.to < y.fr
theorem SPL.write {S : Sto} (hS : SOK S) (h : SPL S) (must no : List Tpl) (cs : List Chg) : SPL (swrite S must no cs) := by
  by_cases hc : scode S must no cs = 0
  · have hw := scode_zero hc
    rw [swrite_rows hS hc]
    unfold SPL
    simp only
    rw [List.pairwise_append]
    refine ⟨?_, ?_, fun x hx y hy => ?_⟩
    · rw [List.pairwise_map]
      refine (h.and hS.pw).imp fun {x y} hxy he => ?_
      obtain ⟨c1, c2⟩ := closeAll_t (cs := cs) (r := S.head + 1) (x := x)
      obtain ⟨c3, c4⟩ := closeAll_t (cs := cs) (r := S.head + 1) (x := y)
      rw [c1, c3] at he
      rw [closeAll_shut (hxy.2 he).1, c4]
      exact hxy.1 he
    · unfold news
      rw [List.pairwise_map]
      have := hw.nd
      rw [List.Nodup, List.pairwise_map] at this
      exact (this.sublist List.filter_sublist).imp fun {x y} hxy he => absurd he hxy
    · intro he
      obtain ⟨z, hz, rfl⟩ := List.mem_map.1 hx
      obtain ⟨c, hc, hp, rfl⟩ := news_mem.1 hy
      obtain ⟨c1, c2⟩ := closeAll_t (cs := cs) (r := S.head + 1) (x := z)
      rw [c1] at he
      have h5 := sthere_false.1 (hw.away c hc hp) z hz he
      rw [closeAll_shut h5]
      obtain ⟨_, _, _, h6⟩ := hS.ok z hz
      simp only
      omega
  · rw [swrite_else hc]; exact h
theorem SPL.collect {S : Sto} (h : SPL S) (hh : Int) : SPL (scollect S hh) := by
  unfold scollect
  split
  · exact List.Pairwise.sublist List.filter_sublist h
  · exact h
theorem swrite_head {S : Sto} {must no : List Tpl} {cs : List Chg} : (swrite S must no cs).head ≤ S.head + 1 := by
  unfold swrite
  split
  · exact Int.le_refl _
  · omega
theorem scollect_head {S : Sto} {h : Int} : (scollect S h).head = S.head := by unfold scollect; split <;> rfl
theorem played_spec (v : Value) (cs : List SCall) (R : Rds) (h : RS R 12 SCall.enc v cs) (hD : ∀ c ∈ cs, c.is R) :
    Spec Try.prog 34 [v] R [] fun u H' => ∃ T, H' = [T] ∧ ∃ g S, u = .pointer (some ⟨g, 0, none⟩) ∧ SI g S T ∧ SOK S ∧ SPL S ∧ S.head ≤ cs.length := by
  have hle := h.le
  obtain ⟨pv, kv_, rfl⟩ := h.val
  refine Spec.body Try.func34 rfl Try.results34 Try.ntmps34 rfl ?_
  refine .seq ?_
  refine .region ?_
  refine TriOps.q .assign ?_
  refine .nil ?_
  refine seqQ_n ?_
  refine .seq ?_
  refine .region ?_
  refine TriOps.callN (snew_spec _) (fun u T0 hu => ?_)
  obtain ⟨g, rfl, hg⟩ := hu
  refine TriOps.q .assign ?_
  refine .nil ?_
  refine seqQ_n ?_
  refine .seq ?_
  refine .seq ?_
  refine .region ?_
  refine TriOps.q .assign ?_
  refine .nil ?_
  refine seqQ_n ?_
  refine .block ?_
  refine .loop (X := Nat × Sto × Seg) (fun y => (y.1 ≤ cs.length ∧ y.2.1.head ≤ y.1) ∧ SI g y.2.1 y.2.2 ∧ SOK y.2.1 ∧ SPL y.2.1) (fun y => [(0, .slice pv cs.length kv_), (3, .pointer (some ⟨g, 0, none⟩)), (4, .int .i64 (y.1 : Nat))]) (fun y => [y.2.2]) (fun y => cs.length - y.1) (0, ⟨[], 0, 0⟩, T0) ⟨⟨Nat.zero_le _, by simp⟩, hg, SOK.new, List.Pairwise.nil⟩ ((((EnvLe.nil _).cons rfl).cons rfl).cons rfl) (HLe.pick [0] _) ?_
  rintro ⟨i, S, T⟩ ⟨⟨hi, hih⟩, hI, hS, hSP⟩
  simp only at hi hih hI hS hSP ⊢
  refine .seq ?_
  refine .seq ?_
  refine .region ?_
  refine TriOps.q .move ?_
  refine TriOps.q .move ?_
  refine TriOps.q (.lenR h) ?_
  refine TriOps.q .lss ?_
  refine .nil ?_
  refine seqQ_n ?_
  refine .cond rfl (fun h1 => ?_) (fun h1 => ?_)
  · skip
    have hlt : i < cs.length := by have := of_decide_eq_true h1; omega
    obtain ⟨c, hc⟩ : ∃ c, cs[i]? = some c := ⟨_, List.getElem?_eq_getElem hlt⟩
    have hcis := hD c (List.mem_of_getElem? hc)
    have icn := hcis.ones
    obtain ⟨kd, wm, wn, wc, f, rev, must, no, ss⟩ := c
    have hm : RS R 7 Tpl.enc wm must := hcis.hm
    have hno : RS R 7 Tpl.enc wn no := hcis.hn
    have hch : RS R 8 Chg.enc wc ss := hcis.hc
    obtain ⟨pm, km, rfl⟩ := hm.val
    obtain ⟨pn, kn, rfl⟩ := hno.val
    obtain ⟨pc, kc, rfl⟩ := hch.val
    have ien : Ones (SCall.enc ⟨kd, .slice pm must.length km, .slice pn no.length kn, .slice pc ss.length kc, f, rev, must, no, ss⟩) := hcis.ones
    refine .skip ?_
    refine seqQ_n ?_
    refine .seq ?_
    refine .block ?_
    refine .seq ?_
    refine .seq ?_
    refine .region ?_
    refine TriOps.q .move ?_
    refine TriOps.q .move ?_
    refine TriOps.indexR i h hc (fun p14 => ?_)
    refine TriOps.q (.fieldAddr rfl) ?_
    refine TriOps.q (.load1 rfl) ?_
    refine TriOps.q .eqI ?_
    refine .nil ?_
    refine seqQ_n ?_
    refine Tri.cut (X := Sto × Seg) (fun y => (y.1.head ≤ i + 1) ∧ SI g y.1 y.2 ∧ SOK y.1 ∧ SPL y.1) (fun y => [(0, .slice pv cs.length kv_), (3, .pointer (some ⟨g, 0, none⟩)), (4, .int .i64 (i : Nat))]) (fun y => [y.2]) ?_ ?_
    ·
      refine .cond rfl (fun h2 => ?_) (fun h2 => ?_)
      · skip
        refine .region_tail 16 mixed (by kernel_rfl) ?_
        conv => arg 6; dsimp only [List.take]
        refine TriOps.q .move ?_
        refine TriOps.q .move ?_
        refine TriOps.q .move ?_
        refine TriOps.indexR i h hc (fun p21 => ?_)
        refine TriOps.q (.fieldAddr rfl) ?_
        refine TriOps.q (.load1 rfl) ?_
        refine TriOps.q .move ?_
        refine TriOps.q .move ?_
        refine TriOps.indexR i h hc (fun p26 => ?_)
        refine TriOps.q (.fieldAddr rfl) ?_
        refine TriOps.q (.load1 rfl) ?_
        refine TriOps.q .move ?_
        refine TriOps.q .move ?_
        refine TriOps.indexR i h hc (fun p31 => ?_)
        refine TriOps.q (.fieldAddr rfl) ?_
        refine TriOps.q (.load1 rfl) ?_
        refine .nil ?_
        refine TriOps.callM (write_spec g S T hI hS _ _ _ must no ss _ hm hno hch hcis.fm hcis.fn hcis.fc) (fun u T1 hu => ?_)
        obtain ⟨rfl, hI1⟩ := hu
        refine .nil ?_
        first
          | exact joinQ_n (swrite S must no ss, T1) ⟨by have := swrite_head (S := S) (must := must) (no := no) (cs := ss); simp only; omega, hI1, hS.write must no ss, hSP.write hS must no ss⟩ ((((EnvLe.nil _).cons rfl).cons rfl).cons rfl) (HLe.pick [0] _)
          | exact joinQ_n (S, T) ⟨by simp only; omega, hI, hS, hSP⟩ ((((EnvLe.nil _).cons rfl).cons rfl).cons rfl) (HLe.refl _)
      · skip
        refine .skip ?_
        first
          | exact joinQ_n (swrite S must no ss, T1) ⟨by have := swrite_head (S := S) (must := must) (no := no) (cs := ss); simp only; omega, hI1, hS.write must no ss, hSP.write hS must no ss⟩ ((((EnvLe.nil _).cons rfl).cons rfl).cons rfl) (HLe.pick [0] _)
          | exact joinQ_n (S, T) ⟨by simp only; omega, hI, hS, hSP⟩ ((((EnvLe.nil _).cons rfl).cons rfl).cons rfl) (HLe.refl _)
    · intro x hx
      obtain ⟨S1, T1⟩ := x
      obtain ⟨hh1, hI1, hS1, hSP1⟩ := hx
      simp only at hh1 hI1 hS1 hSP1 ⊢
      refine seqQ_n ?_
      refine .seq ?_
      refine .region ?_
      refine TriOps.q .move ?_
      refine TriOps.q .move ?_
      refine TriOps.indexR i h hc (fun p37 => ?_)
      refine TriOps.q (.fieldAddr rfl) ?_
      refine TriOps.q (.load1 rfl) ?_
      refine TriOps.q .eqI ?_
      refine .nil ?_
      refine seqQ_n ?_
      refine .cond rfl (fun h3 => ?_) (fun h3 => ?_)
      · skip
        refine .region ?_
        refine TriOps.q .move ?_
        refine TriOps.q .move ?_
        refine TriOps.q .move ?_
        refine TriOps.indexR i h hc (fun p44 => ?_)
        refine TriOps.q (.fieldAddr rfl) ?_
        refine TriOps.q (.load1 rfl) ?_
        refine TriOps.callM (collect_spec g S1 T1 hI1 hS1 rev _) (fun u T2 hu => ?_)
        obtain ⟨rfl, hI2⟩ := hu
        refine .nil ?_
        refine blkQ_n (seqQ_n ?_)
        refine .region ?_
        refine TriOps.q .move ?_
        refine TriOps.q (.i64 ((i + 1 : Nat) : Int) .add ⟨by omega, by omega, by omega⟩) ?_
        refine TriOps.q .assign ?_
        refine .nil ?_
        first
          | exact loopQ_i (i + 1, scollect S1 rev, T2) ⟨⟨hlt, by simp only [scollect_head]; omega⟩, hI2, hS1.collect rev, hSP1.collect rev⟩ (by simp only; omega) ((((EnvLe.nil _).cons rfl).cons rfl).cons rfl) (HLe.pick [0] _)
          | exact loopQ_i (i + 1, S1, T1) ⟨⟨hlt, by simp only; omega⟩, hI1, hS1, hSP1⟩ (by simp only; omega) ((((EnvLe.nil _).cons rfl).cons rfl).cons rfl) (HLe.refl _)
      · skip
        refine .skip ?_
        refine blkQ_n (seqQ_n ?_)
        refine .region ?_
        refine TriOps.q .move ?_
        refine TriOps.q (.i64 ((i + 1 : Nat) : Int) .add ⟨by omega, by omega, by omega⟩) ?_
        refine TriOps.q .assign ?_
        refine .nil ?_
        first
          | exact loopQ_i (i + 1, scollect S1 rev, T2) ⟨⟨hlt, by simp only [scollect_head]; omega⟩, hI2, hS1.collect rev, hSP1.collect rev⟩ (by simp only; omega) ((((EnvLe.nil _).cons rfl).cons rfl).cons rfl) (HLe.pick [0] _)
          | exact loopQ_i (i + 1, S1, T1) ⟨⟨hlt, by simp only; omega⟩, hI1, hS1, hSP1⟩ (by simp only; omega) ((((EnvLe.nil _).cons rfl).cons rfl).cons rfl) (HLe.refl _)
  · skip
    refine .exit (seqQ_x (loopQ_x (blkQ_x ?_)))
    refine seqQ_n ?_
    refine .seq ?_
    refine .region ?_
    refine TriOps.q .move ?_
    refine TriOps.q .assign ?_
    refine .nil ?_
    refine seqQ_n ?_
    refine .ret (retQ_r _ (.one (.tmp rfl)) (.one [0] _) ?_)
    exact ⟨T, by simp [take], g, S, rfl, hI, hS, hSP, by omega⟩
end Go.Proofs.Ytkepgbimlolemaa
