/- Tokens: which comes first. No condition. -/
import Derived.Test.YtkepgbimlolemaaTokD
set_option linter.unusedVariables false
set_option maxRecDepth 4000
namespace Go.Proofs.Ytkepgbimlolemaa
def TPok (p : TP) : Prop := ∀ u ∈ encT p, oneCell u = true
def tcmp (p q : TP) : Int := scmp p.2.text q.2.text
theorem tcmp_spec (p q : TP) (R : Rds) (hp : TPok p) (hq : TPok q) : Spec Try.prog 55 [.agg (encT p).toArray, .agg (encT q).toArray] R [] fun v H' => v = .int .i64 (tcmp p q) ∧ H' = [] := by
  have i1 : Ones (encT p) := ⟨hp⟩
  have i2 : Ones (encT q) := ⟨hq⟩
  refine Spec.body Try.func55 rfl Try.results55 Try.ntmps55 rfl ?_
  refine .seq ?_
  refine .region ?_
  refine TriOps.boxA rfl (fun b2 => ?_)
  refine TriOps.boxA rfl (fun b3 => ?_)
  refine TriOps.q .assign ?_
  refine .nil ?_
  refine seqQ_n ?_
  refine .seq ?_
  refine .region ?_
  refine TriOps.q (.fieldAddr rfl) ?_
  refine TriOps.q (.load1 rfl) ?_
  refine TriOps.q (.fieldAddr rfl) ?_
  refine TriOps.q (.load1 rfl) ?_
  refine TriOps.callR (compare_spec p.2.text q.2.text _) (fun v hv => ?_)
  subst hv
  refine TriOps.q .assign ?_
  refine .nil ?_
  refine seqQ_n ?_
  refine .ret (retQ_r _ (.one (.tmp rfl)) (.none _) ?_)
  exact ⟨rfl, rfl⟩
theorem ltc_tcmp (p q : TP) : ltc tcmp p q = sLt p.2.text q.2.text := by
  unfold ltc tcmp
  rw [Bool.eq_iff_iff, sLt_iff, decide_eq_true_eq]
theorem tcmp_so : SO (ltc tcmp) := ⟨fun x => by rw [ltc_tcmp]; exact sLt_so.irr _, fun x y z h1 h2 => by rw [ltc_tcmp] at *; exact sLt_so.tr _ _ _ h1 h2, fun x y z h1 h2 => by rw [ltc_tcmp] at *; exact sLt_so.ntr _ _ _ h1 h2⟩
end Go.Proofs.Ytkepgbimlolemaa
