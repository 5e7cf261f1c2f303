/- A memo that lives. No condition. -/
import Derived.Test.YthflndnbdgelnaaMemoP
set_option linter.unusedVariables false
namespace Go.Proofs.Ythflndnbdgelnaa

def q1 : Quest := ⟨1, 0, .empty, .empty, .empty, .empty⟩
theorem q1_put : (PM.put ⟨2, [], [], 0⟩ q1 true) = ⟨2, [(q1, true)], [q1], 0⟩ := by
  simp [PM.put, PM.age1, mget, mset]
theorem lives_spec (R : Rds) : Spec Try.prog 14 [] R [] fun v H' => v = .bool true ∧ H' = [] := by
  refine Spec.body Try.func14 rfl Try.results14 Try.ntmps14 rfl ?_
  refine .seq ?_
  refine .region ?_
  refine TriOps.q .assign ?_
  refine .nil ?_
  refine seqQ_n ?_
  refine .seq ?_
  refine .region ?_
  refine TriOps.callN ((new_ok 2 _ (by omega)).mono fun v H' ⟨b, T, h1, h2, h3⟩ => (⟨T, h2, b, h1, h3⟩ : ∃ T, H' = [T] ∧ ∃ b, v = .tuple [.pointer (some ⟨b, 0, none⟩), .int .i64 0].toArray ∧ PM.is b ⟨2, [], [], 0⟩ T)) (fun v T hv => ?_)
  obtain ⟨b, rfl, hm⟩ := hv
  refine TriOps.q .move ?_
  refine TriOps.q .extract ?_
  refine TriOps.q .extract ?_
  refine TriOps.q .assign ?_
  refine TriOps.q .assign ?_
  refine .nil ?_
  refine seqQ_n ?_
  refine .seq ?_
  refine .seq ?_
  refine .region ?_
  refine TriOps.q .move ?_
  refine TriOps.q .neI ?_
  refine .nil ?_
  refine seqQ_n ?_
  refine .condF ?_
  refine .skip ?_
  refine seqQ_n ?_
  refine .seq ?_
  refine .region ?_
  refine TriOps.q .move ?_
  refine TriOps.q (show Quiet _ _ _ _ _ _ (.agg q1.enc.toArray) from .bld rfl rfl) ?_
  refine TriOps.callM (put_spec b _ T hm q1 true R (by simp)) (fun v T1 hv => ?_)
  obtain ⟨rfl, hm1⟩ := hv
  refine .nil ?_
  refine seqQ_n ?_
  refine .seq ?_
  refine .region ?_
  refine TriOps.q .move ?_
  refine TriOps.q (show Quiet _ _ _ _ _ _ (.agg q1.enc.toArray) from .bld rfl rfl) ?_
  refine TriOps.callR (get_spec b _ T1 hm1 q1 _ (fun p hp => .inr (by simpa using hp))) (fun v hv => ?_)
  subst hv
  refine TriOps.q .move ?_
  refine TriOps.q .extract ?_
  refine TriOps.q .extract ?_
  refine TriOps.q .assign ?_
  refine TriOps.q .assign ?_
  refine .nil ?_
  refine seqQ_n ?_
  refine .seq ?_
  refine .region ?_
  refine TriOps.q .move ?_
  refine TriOps.q .move ?_
  refine TriOps.split (t := 21) rfl (fun g6_1 => ?_) (fun g6_1 => ?_)
  · skip
    refine TriOps.gT g6_1 ?_
    refine TriOps.q .move ?_
    refine TriOps.q (.pickTh g6_1) ?_
    refine TriOps.q .assign ?_
    refine .nil ?_
    refine seqQ_n ?_
    refine .ret (retQ_r _ (.one (.tmp rfl)) (.none _) ?_)
    exact ⟨by rw [q1_put]; simp [mget], rfl⟩
  · skip
    refine TriOps.gF g6_1 ?_
    refine TriOps.q (.pickFh g6_1) ?_
    refine TriOps.q .assign ?_
    refine .nil ?_
    refine seqQ_n ?_
    refine .ret (retQ_r _ (.one (.tmp rfl)) (.none _) ?_)
    exfalso
    rw [q1_put] at g6_1
    simp [mget] at g6_1
end Go.Proofs.Ythflndnbdgelnaa
