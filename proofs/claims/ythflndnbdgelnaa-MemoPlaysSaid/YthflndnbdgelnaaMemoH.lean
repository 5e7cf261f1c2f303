/- Memo's Forget. No condition. -/
import Derived.Test.YthflndnbdgelnaaMemoG
set_option linter.unusedVariables false
namespace Go.Proofs.Ythflndnbdgelnaa

def old (r : Int) (q : Quest) : Bool := !decide (q.rev ≥ r)
def oldStep (r : Int) (M : List (Quest × Bool)) (q : Quest) : List (Quest × Bool) := if old r q then mdel q M else M
theorem forget1_spec (q : Quest) (r : Int) (b b2 b3 : Nat) (m : PM) (vm va : Value) (M : List (Quest × Bool)) (T : Seg) (R : Rds) (hM : MS (fun q : Quest => .agg q.enc.toArray) Value.bool vm M T)
    (h1 : R b (.cells [.bool true, .int .i64 m.size, vm, va, .int .i64 m.hits].toArray 55 (0, 0))) (h2 : R b2 (.cells [.pointer (some ⟨b, 0, none⟩)].toArray 23 (0, 0))) (h3 : R b3 (.cells [.int .u64 r].toArray 30 (0, 0))) :
    Spec Try.prog 18 [.agg q.enc.toArray, .pointer (some ⟨b3, 0, none⟩), .pointer (some ⟨b2, 0, none⟩)] R [T] fun v H' => ∃ T', H' = [T'] ∧ v = .bool (old r q) ∧ MS (fun q : Quest => .agg q.enc.toArray) Value.bool vm (oldStep r M q) T' := by
  have p1 := PC.of h1
  have p2 := PC.of h2
  have p3 := PC.of h3
  have i1 := hM.one
  refine Spec.body Try.func18 rfl Try.results18 Try.ntmps18 rfl ?_
  refine .seq ?_
  refine .region ?_
  refine TriOps.boxA rfl (fun b3 => ?_)
  refine TriOps.q .assign ?_
  refine .nil ?_
  refine seqQ_n ?_
  refine .seq ?_
  refine .seq ?_
  refine .region ?_
  refine TriOps.q (.fieldAddr rfl) ?_
  refine TriOps.q (.load1 rfl) ?_
  refine TriOps.q (.load1 rfl) ?_
  refine TriOps.q .geq ?_
  refine .nil ?_
  refine seqQ_n ?_
  refine .cond rfl (fun h1 => ?_) (fun h1 => ?_)
  · skip
    refine .seq ?_
    refine .region ?_
    refine TriOps.q .assign ?_
    refine .nil ?_
    refine seqQ_n ?_
    refine .ret (seqQ_r (retQ_r _ (.one (.tmp rfl)) (.one [1] _) ?_))
    have ho : old r q = false := by simp only [old]; rw [h1]; rfl
    exact ⟨T, by simp [take], by rw [ho], by simp only [oldStep, ho]; exact hM⟩
  · skip
    refine .skip ?_
    refine seqQ_n ?_
    refine .seq ?_
    refine .region_tail 5 mixed (by kernel_rfl) ?_
    refine TriOps.q (.load1 rfl) ?_
    refine TriOps.q (.nilCheck rfl) ?_
    refine TriOps.q (.fieldAddr rfl) ?_
    refine TriOps.q (.load1 rfl) ?_
    refine TriOps.q (.loadA rfl) ?_
    refine .nil ?_
    refine TriOps.delete hM rfl (show _ = some (Value.agg q.enc.toArray) from rfl) (fun T1 hM1 _ => ?_)
    refine .nil ?_
    refine seqQ_n ?_
    refine .seq ?_
    refine .region ?_
    refine TriOps.q .assign ?_
    refine .nil ?_
    refine seqQ_n ?_
    refine .ret (retQ_r _ (.one (.tmp rfl)) (.one [1] _) ?_)
    have ho : old r q = true := by simp only [old]; rw [h1]; rfl
    exact ⟨T1, by simp [take], by rw [ho], by simp only [oldStep, ho, if_true]; exact hM1⟩
theorem forget_spec (b : Nat) (m : PM) (T : Seg) (hm : PM.is b m T) (r : Int) (R : Rds) (hl : m.age.length ≤ 1000000) :
    Spec Try.prog 9 [.pointer (some ⟨b, 0, none⟩), .int .u64 r] R [T] fun v H' => ∃ T', H' = [T'] ∧ v = .tuple #[] ∧ PM.is b ⟨m.size, m.age.foldl (oldStep r) m.kept, m.age.filter fun q => !old r q, m.hits⟩ T' := by
  obtain ⟨vm, va, Tm, Ta, rfl, hM, hA⟩ := hm
  have i1 := hM.one
  have i2 := hA.oneCell
  refine Spec.segs (H' := [[(b, .cells [.bool true, .int .i64 m.size, vm, va, .int .i64 m.hits].toArray 55 (0, 0))], Tm, Ta]) (by simp) ?_
  refine Spec.body Try.func9 rfl Try.results9 Try.ntmps9 rfl ?_
  refine .seq ?_
  refine .region ?_
  refine TriOps.box1 rfl (fun b2 => ?_)
  refine TriOps.box1 rfl (fun b3 => ?_)
  refine .nil ?_
  refine seqQ_n ?_
  refine .seq ?_
  refine .seq ?_
  refine .region ?_
  refine TriOps.q (.load1 rfl) ?_
  refine TriOps.callR (ok_spec b true _ _ _) (fun v hv => ?_)
  subst hv
  refine TriOps.q .not ?_
  refine .nil ?_
  refine seqQ_n ?_
  refine .condF ?_
  refine .skip ?_
  refine seqQ_n ?_
  refine .region_any [2, 2, 2] [7, 10] mixed ?_
  conv => arg 3; simp only [take, rest, dropAt, List.getD_cons_zero, List.getD_cons_succ]
  conv => arg 5; simp only [take, rest, dropAt, List.getD_cons_zero, List.getD_cons_succ]
  conv => arg 9; simp only [take, rest, dropAt, List.getD_cons_zero, List.getD_cons_succ]
  refine RA.take 0 rfl (.load1 rfl) (by kernel_rfl) ?_
  refine RA.takeO 1 rfl (.load1 rfl) (by kernel_rfl) ?_
  refine RA.takeO 2 rfl (.nilCheck rfl) (by kernel_rfl) ?_
  refine RA.takeO 3 rfl (.fieldAddr rfl) (by kernel_rfl) ?_
  refine RA.takeO 4 rfl (.load1 rfl) (by kernel_rfl) ?_
  refine RA.takeO 6 rfl .makeFunc (by kernel_rfl) ?_
  refine RA.step 5 rfl (by kernel_rfl) rfl ?_
  refine TriOps.callN (clone_spec va m.age _ hA.rx hl) (fun v1 Tc hC => ?_)
  have i3 := hC.oneCell
  refine .nil (Next.sub ?_)
  refine RA.step 7 rfl (by kernel_rfl) rfl ?_
  refine TriOps.call [0, 1] (delete_spec (fun M T => MS (fun q : Quest => .agg q.enc.toArray) Value.bool vm M T) (old r) (oldStep r) 18 [.pointer (some ⟨b3, 0, none⟩), .pointer (some ⟨b2, 0, none⟩)] v1 m.age m.kept Tc Tm _ hC (fun q _ M T hM => forget1_spec q r b b2 b3 m vm va M T _ hM (by simp [Rx, rest, dropAt]) (by simp [Rx, rest, dropAt]) (by simp [Rx, rest, dropAt])) hM) (fun v2 H' hv => ?_)
  obtain ⟨Tx, Tk, rfl, hO, hK⟩ := hv
  have i4 := hO.oneCell
  conv => arg 8; simp only [rest, dropAt, List.cons_append, List.nil_append]
  refine .nil (Next.mod rfl ?_)
  refine RA.take 8 rfl (.nilCheckA rfl) (by kernel_rfl) ?_
  refine RA.take 9 rfl (.fieldAddrA rfl) (by kernel_rfl) ?_
  refine RA.step 10 rfl (by kernel_rfl) rfl ?_
  refine TriOps.store1 rfl rfl ?_
  refine .nil (Next.mod rfl ?_)
  refine RA.nil (by kernel_rfl) ?_
  refine retQ_n _ .none (.one [2, 1, 0] _) ?_
  exact ⟨_, rfl, rfl, _, _, Tk, Tx, flat3 _ _ _, hK, hO⟩
end Go.Proofs.Ythflndnbdgelnaa
