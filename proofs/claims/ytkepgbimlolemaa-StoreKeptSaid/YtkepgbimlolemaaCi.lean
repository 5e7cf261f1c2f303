/- The library's comparison of numbers of other kinds. No condition. -/
import Derived.Test.YtkepgbimlolemaaBase
set_option linter.unusedVariables false
namespace Go.Proofs.Ytkepgbimlolemaa
theorem isNaNI_spec (a : Int) (R : Rds) : Spec Try.prog 169 [.int .i64 a] R [] fun u H' => u = .bool false ∧ H' = [] := by
  refine Spec.body Try.func169 rfl Try.results169 Try.ntmps169 rfl ?_
  refine .seq ?_
  refine .region ?_
  refine TriOps.q .assign ?_
  refine .nil ?_
  refine seqQ_n ?_
  refine .seq ?_
  refine .region ?_
  refine TriOps.q .move ?_
  refine TriOps.q .move ?_
  refine TriOps.q .neI ?_
  refine TriOps.q .assign ?_
  refine .nil ?_
  refine seqQ_n ?_
  refine .ret (retQ_r _ (.one (.tmp rfl)) (.none _) ?_)
  exact ⟨by simp, rfl⟩
theorem compareI_spec (a b : Int) (R : Rds) : Spec Try.prog 158 [.int .i64 a, .int .i64 b] R [] fun u H' => u = .int .i64 (icmp a b) ∧ H' = [] := by
  refine Spec.body Try.func158 rfl Try.results158 Try.ntmps158 rfl ?_
  refine .seq ?_
  refine .region ?_
  refine TriOps.q .assign ?_
  refine .nil ?_
  refine seqQ_n ?_
  refine .seq ?_
  refine .region ?_
  refine TriOps.q .move ?_
  refine TriOps.callR (isNaNI_spec a _) (fun v hv => ?_)
  subst hv
  refine TriOps.q .assign ?_
  refine .nil ?_
  refine seqQ_n ?_
  refine .seq ?_
  refine .region ?_
  refine TriOps.q .move ?_
  refine TriOps.callR (isNaNI_spec b _) (fun v hv => ?_)
  subst hv
  refine TriOps.q .assign ?_
  refine .nil ?_
  refine seqQ_n ?_
  refine .seq ?_
  refine .seq ?_
  refine .region ?_
  refine TriOps.q .move ?_
  refine .nil ?_
  refine seqQ_n ?_
  refine .condF ?_
  refine .skip ?_
  refine seqQ_n ?_
  refine .seq ?_
  refine .seq ?_
  refine .region ?_
  refine TriOps.q .move ?_
  refine .nil ?_
  refine seqQ_n ?_
  refine .condF ?_
  refine .skip ?_
  refine seqQ_n ?_
  refine .seq ?_
  refine .seq ?_
  refine .region ?_
  refine TriOps.q .move ?_
  refine TriOps.q .move ?_
  refine TriOps.q .lss ?_
  refine .nil ?_
  refine seqQ_n ?_
  refine .cond rfl (fun h4 => ?_) (fun h4 => ?_)
  · skip
    refine .seq ?_
    refine .region ?_
    refine TriOps.q .assign ?_
    refine .nil ?_
    refine seqQ_n ?_
    refine .ret (seqQ_r (retQ_r _ (.one (.tmp rfl)) (.none _) ?_))
    refine ⟨?_, rfl⟩
    simp at h4
    try simp at h5
    unfold icmp
    congr 1
    split
    · first | rfl | omega
    · first | rfl | (exfalso; omega) | (split <;> first | rfl | omega)
  · skip
    refine .skip ?_
    refine seqQ_n ?_
    refine .seq ?_
    refine .seq ?_
    refine .region ?_
    refine TriOps.q .move ?_
    refine TriOps.q .move ?_
    refine TriOps.q .gtr ?_
    refine .nil ?_
    refine seqQ_n ?_
    refine .cond rfl (fun h5 => ?_) (fun h5 => ?_)
    · skip
      refine .seq ?_
      refine .region ?_
      refine TriOps.q .assign ?_
      refine .nil ?_
      refine seqQ_n ?_
      refine .ret (seqQ_r (retQ_r _ (.one (.tmp rfl)) (.none _) ?_))
      refine ⟨?_, rfl⟩
      simp at h4
      try simp at h5
      unfold icmp
      congr 1
      split
      · first | rfl | omega
      · first | rfl | (exfalso; omega) | (split <;> first | rfl | omega)
    · skip
      refine .skip ?_
      refine seqQ_n ?_
      refine .seq ?_
      refine .region ?_
      refine TriOps.q .assign ?_
      refine .nil ?_
      refine seqQ_n ?_
      refine .ret (retQ_r _ (.one (.tmp rfl)) (.none _) ?_)
      refine ⟨?_, rfl⟩
      simp at h4
      try simp at h5
      unfold icmp
      congr 1
      split
      · first | rfl | omega
      · first | rfl | (exfalso; omega) | (split <;> first | rfl | omega)
theorem isNaNU_spec (a : Int) (R : Rds) : Spec Try.prog 148 [.int .u64 a] R [] fun u H' => u = .bool false ∧ H' = [] := by
  refine Spec.body Try.func148 rfl Try.results148 Try.ntmps148 rfl ?_
  refine .seq ?_
  refine .region ?_
  refine TriOps.q .assign ?_
  refine .nil ?_
  refine seqQ_n ?_
  refine .seq ?_
  refine .region ?_
  refine TriOps.q .move ?_
  refine TriOps.q .move ?_
  refine TriOps.q .neI ?_
  refine TriOps.q .assign ?_
  refine .nil ?_
  refine seqQ_n ?_
  refine .ret (retQ_r _ (.one (.tmp rfl)) (.none _) ?_)
  exact ⟨by simp, rfl⟩
theorem compareU_spec (a b : Int) (R : Rds) : Spec Try.prog 110 [.int .u64 a, .int .u64 b] R [] fun u H' => u = .int .i64 (icmp a b) ∧ H' = [] := by
  refine Spec.body Try.func110 rfl Try.results110 Try.ntmps110 rfl ?_
  refine .seq ?_
  refine .region ?_
  refine TriOps.q .assign ?_
  refine .nil ?_
  refine seqQ_n ?_
  refine .seq ?_
  refine .region ?_
  refine TriOps.q .move ?_
  refine TriOps.callR (isNaNU_spec a _) (fun v hv => ?_)
  subst hv
  refine TriOps.q .assign ?_
  refine .nil ?_
  refine seqQ_n ?_
  refine .seq ?_
  refine .region ?_
  refine TriOps.q .move ?_
  refine TriOps.callR (isNaNU_spec b _) (fun v hv => ?_)
  subst hv
  refine TriOps.q .assign ?_
  refine .nil ?_
  refine seqQ_n ?_
  refine .seq ?_
  refine .seq ?_
  refine .region ?_
  refine TriOps.q .move ?_
  refine .nil ?_
  refine seqQ_n ?_
  refine .condF ?_
  refine .skip ?_
  refine seqQ_n ?_
  refine .seq ?_
  refine .seq ?_
  refine .region ?_
  refine TriOps.q .move ?_
  refine .nil ?_
  refine seqQ_n ?_
  refine .condF ?_
  refine .skip ?_
  refine seqQ_n ?_
  refine .seq ?_
  refine .seq ?_
  refine .region ?_
  refine TriOps.q .move ?_
  refine TriOps.q .move ?_
  refine TriOps.q .lss ?_
  refine .nil ?_
  refine seqQ_n ?_
  refine .cond rfl (fun h4 => ?_) (fun h4 => ?_)
  · skip
    refine .seq ?_
    refine .region ?_
    refine TriOps.q .assign ?_
    refine .nil ?_
    refine seqQ_n ?_
    refine .ret (seqQ_r (retQ_r _ (.one (.tmp rfl)) (.none _) ?_))
    refine ⟨?_, rfl⟩
    simp at h4
    try simp at h5
    unfold icmp
    congr 1
    split
    · first | rfl | omega
    · first | rfl | (exfalso; omega) | (split <;> first | rfl | omega)
  · skip
    refine .skip ?_
    refine seqQ_n ?_
    refine .seq ?_
    refine .seq ?_
    refine .region ?_
    refine TriOps.q .move ?_
    refine TriOps.q .move ?_
    refine TriOps.q .gtr ?_
    refine .nil ?_
    refine seqQ_n ?_
    refine .cond rfl (fun h5 => ?_) (fun h5 => ?_)
    · skip
      refine .seq ?_
      refine .region ?_
      refine TriOps.q .assign ?_
      refine .nil ?_
      refine seqQ_n ?_
      refine .ret (seqQ_r (retQ_r _ (.one (.tmp rfl)) (.none _) ?_))
      refine ⟨?_, rfl⟩
      simp at h4
      try simp at h5
      unfold icmp
      congr 1
      split
      · first | rfl | omega
      · first | rfl | (exfalso; omega) | (split <;> first | rfl | omega)
    · skip
      refine .skip ?_
      refine seqQ_n ?_
      refine .seq ?_
      refine .region ?_
      refine TriOps.q .assign ?_
      refine .nil ?_
      refine seqQ_n ?_
      refine .ret (retQ_r _ (.one (.tmp rfl)) (.none _) ?_)
      refine ⟨?_, rfl⟩
      simp at h4
      try simp at h5
      unfold icmp
      congr 1
      split
      · first | rfl | omega
      · first | rfl | (exfalso; omega) | (split <;> first | rfl | omega)
end Go.Proofs.Ytkepgbimlolemaa
