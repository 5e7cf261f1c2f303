/- Memo's readers: Len, Get. No condition. -/
import Derived.Test.YthflndnbdgelnaaMemoA
set_option linter.unusedVariables false
namespace Go.Proofs.Ythflndnbdgelnaa

theorem len_spec (b : Nat) (m : PM) (T : Seg) (hm : PM.is b m T) (R : Rds) (hr : ∀ p ∈ T, R p.1 p.2) :
    Spec Try.prog 11 [.pointer (some ⟨b, 0, none⟩)] R [] fun v H' => v = .int .i64 m.kept.length ∧ H' = [] := by
  obtain ⟨vm, va, Tm, Ta, rfl, h1, h2⟩ := hm
  have pc := PC.of (b := b) (hr (b, _) (List.mem_cons_self ..))
  have rm : ∀ H', RM (Rx R H') (fun q : Quest => .agg q.enc.toArray) Value.bool vm m.kept := fun H' => h1.rm fun p hp => .inl (hr p (by simp [hp]))
  have i1 := h1.one
  refine Spec.body Try.func11 rfl Try.results11 Try.ntmps11 rfl ?_
  refine .seq ?_
  refine .region ?_
  refine TriOps.q .assign ?_
  refine .nil ?_
  refine seqQ_n ?_
  refine .seq ?_
  refine .seq ?_
  refine .region ?_
  refine TriOps.q .move ?_
  refine TriOps.callR (ok_spec b true _ _ _) (fun v hv => ?_)
  subst hv
  refine TriOps.q .not ?_
  refine .nil ?_
  refine seqQ_n ?_
  refine .condF ?_
  refine .skip ?_
  refine seqQ_n ?_
  refine .seq ?_
  refine .region ?_
  refine TriOps.q .move ?_
  refine TriOps.q (.nilCheck rfl) ?_
  refine TriOps.q (.fieldAddr rfl) ?_
  refine TriOps.q (.load1 rfl) ?_
  refine TriOps.q (.lenM (rm _) rfl) ?_
  refine TriOps.q .assign ?_
  refine .nil ?_
  refine seqQ_n ?_
  refine .ret (retQ_r _ (.one (.tmp rfl)) (.none _) ?_)
  exact ⟨rfl, rfl⟩
theorem get_spec (b : Nat) (m : PM) (T : Seg) (hm : PM.is b m T) (q : Quest) (R : Rds) (hr : ∀ p ∈ T, R p.1 p.2) :
    Spec Try.prog 12 [.pointer (some ⟨b, 0, none⟩), .agg q.enc.toArray] R [] fun v H' => v = .tuple [.bool ((mget q m.kept).getD false), .bool (mget q m.kept).isSome].toArray ∧ H' = [] := by
  obtain ⟨vm, va, Tm, Ta, rfl, h1, h2⟩ := hm
  have pc := PC.of (b := b) (hr (b, _) (List.mem_cons_self ..))
  have rm : ∀ H', RM (Rx R H') (fun q : Quest => .agg q.enc.toArray) Value.bool vm m.kept := fun H' => h1.rm fun p hp => .inl (hr p (by simp [hp]))
  have i1 := h1.one
  refine Spec.body Try.func12 rfl Try.results12 Try.ntmps12 rfl ?_
  refine .seq ?_
  refine .region ?_
  refine TriOps.boxA rfl (fun b3 => ?_)
  refine TriOps.q .assign ?_
  refine TriOps.q .assign ?_
  refine .nil ?_
  refine seqQ_n ?_
  refine .seq ?_
  refine .seq ?_
  refine .region ?_
  refine TriOps.q .move ?_
  refine TriOps.callR (ok_spec b true _ _ _) (fun v hv => ?_)
  subst hv
  refine TriOps.q .not ?_
  refine .nil ?_
  refine seqQ_n ?_
  refine .condF ?_
  refine .skip ?_
  refine seqQ_n ?_
  refine .seq ?_
  refine .region_still mixed (by kernel_rfl) ?_
  refine TriOps.q .move ?_
  refine TriOps.q (.nilCheck rfl) ?_
  refine TriOps.q (.fieldAddr rfl) ?_
  refine TriOps.q (.load1 rfl) ?_
  refine TriOps.q (.loadA rfl) ?_
  refine TriOps.q (.lookup2 (rm _) rfl (show _ = some (Value.agg q.enc.toArray) from rfl)) ?_
  refine TriOps.q .move ?_
  refine TriOps.q .extract ?_
  refine TriOps.q .extract ?_
  refine TriOps.q .assign ?_
  refine TriOps.q .assign ?_
  refine .nil ?_
  refine seqQ_n ?_
  refine .seq ?_
  refine .region ?_
  refine TriOps.q .move ?_
  refine TriOps.q .move ?_
  refine TriOps.q .assign ?_
  refine TriOps.q .assign ?_
  refine .nil ?_
  refine seqQ_n ?_
  refine .ret (retQ_r _ (.two (.tmp rfl) (.tmp rfl)) (.none _) ?_)
  exact ⟨by cases mget q m.kept <;> rfl, rfl⟩
end Go.Proofs.Ythflndnbdgelnaa
