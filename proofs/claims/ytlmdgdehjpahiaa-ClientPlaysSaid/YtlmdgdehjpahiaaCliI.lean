/- Clients, each beside what it holds: in a row; which comes first. No condition. -/
import Derived.Test.YtlmdgdehjpahiaaCliC
import Derived.Test.YtlmdgdehjpahiaaMot5
set_option linter.unusedVariables false
set_option maxRecDepth 4000
namespace Go.Proofs.Ytlmdgdehjpahiaa
abbrev CP : Type := CR × Cli
def encC (p : CP) : List Value := p.1.cells
def CPok (p : CP) : Prop := ∀ u ∈ encC p, oneCell u = true
def ccmp (p q : CP) : Int := scmp p.1.id q.1.id
theorem ccmp_spec (p q : CP) (R : Rds) (hp : CPok p) (hq : CPok q) : Spec Try.prog 92 [.agg (encC p).toArray, .agg (encC q).toArray] R [] fun v H' => v = .int .i64 (ccmp p q) ∧ H' = [] := by
  have i1 : Ones (encC p) := ⟨hp⟩
  have i2 : Ones (encC q) := ⟨hq⟩
  obtain ⟨⟨a1, a2, a3, a4⟩, c⟩ := p
  obtain ⟨⟨b1, b2, b3, b4⟩, d⟩ := q
  refine Spec.body Try.func92 rfl Try.results92 Try.ntmps92 rfl ?_
  refine .seq ?_
  refine .region ?_
  refine TriOps.boxA rfl (fun b2 => ?_)
  refine TriOps.boxA rfl (fun b3 => ?_)
  refine TriOps.q .assign ?_
  refine .nil ?_
  refine seqQ_n ?_
  refine .seq ?_
  refine .region ?_
  refine TriOps.q (.fieldAddr rfl) ?_
  refine TriOps.q (.load1 rfl) ?_
  refine TriOps.q (.fieldAddr rfl) ?_
  refine TriOps.q (.load1 rfl) ?_
  refine TriOps.callR (compare_spec a1 b1 _) (fun v hv => ?_)
  subst hv
  refine TriOps.q .assign ?_
  refine .nil ?_
  refine seqQ_n ?_
  refine .ret (retQ_r _ (.one (.tmp rfl)) (.none _) ?_)
  exact ⟨rfl, rfl⟩
theorem ccmp_so : SO (ltc ccmp) := by
  have e : ∀ p q : CP, ltc ccmp p q = sLt p.1.id q.1.id := fun p q => by
    unfold ltc ccmp
    rw [Bool.eq_iff_iff, sLt_iff, decide_eq_true_eq]
  exact ⟨fun x => by rw [e]; exact sLt_so.irr _, fun x y z h1 h2 => by rw [e] at *; exact sLt_so.tr _ _ _ h1 h2, fun x y z h1 h2 => by rw [e] at *; exact sLt_so.ntr _ _ _ h1 h2⟩
theorem ltc_ccmp (p q : CP) : ltc ccmp p q = sLt p.1.id q.1.id := by
  unfold ltc ccmp
  rw [Bool.eq_iff_iff, sLt_iff, decide_eq_true_eq]
end Go.Proofs.Ytlmdgdehjpahiaa
