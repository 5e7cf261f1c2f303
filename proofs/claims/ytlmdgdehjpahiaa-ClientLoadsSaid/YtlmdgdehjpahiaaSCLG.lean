/- Sorting by a function, at one kind of elements: the whole. No condition. -/
import Derived.Test.YtlmdgdehjpahiaaSCLF
set_option linter.unusedVariables false
set_option maxRecDepth 4000
namespace Go.Proofs.Ytlmdgdehjpahiaa
namespace SCL
section
variable {c : CP → CP → Int} {ok : CP → Prop} {f : FuncId} {caps : List Value} [e : Ent Try.prog f]
theorem sort_spec (v : Value) (xs : List CP) (T : Seg) (R : Rds) (h : OS 35 4 encC v xs T) (hl : xs.length ≤ 1000000000) (hf : FnC Try.prog f caps R (fun p : CP => Value.agg (encC p).toArray) c ok) (hok : ∀ x ∈ xs, ok x) (so : SO (ltc c)) :
    Spec Try.prog 91 [v, .func (.func f) #[] caps.toArray] R [T] fun u H' => ∃ T', H' = [T'] ∧ u = .tuple #[] ∧ ∃ ys, OS 35 4 encC v ys T' ∧ ys.Perm xs ∧ SR (ltc c) ys 0 ys.length := by
  have iv := h.oneCell
  have hbl : Lib.bitLen xs.length ≤ 1000000000 := by
    have h64 := bitLen_le 64 xs.length
    have e64 : Lib.bitLen xs.length = Lib.bitLenAux 64 xs.length := rfl
    omega
  refine Spec.body Try.func91 rfl Try.results91 Try.ntmps91 rfl ?_
  refine .seq ?_
  refine .region ?_
  refine TriOps.q .move ?_
  refine TriOps.q (.lenO h) ?_
  refine TriOps.q .assign ?_
  refine .nil ?_
  refine seqQ_n ?_
  refine .region ?_
  refine TriOps.q .move ?_
  refine TriOps.q .move ?_
  refine TriOps.q .move ?_
  refine TriOps.q (Quiet.cast (v' := .int .u64 ((xs.length : Nat) : Int)) .convI (by rw [wrap_u64_in (by omega) (by omega)])) ?_
  refine TriOps.callR (len_bits xs.length (by omega) _) (fun u hu => ?_)
  subst hu
  refine TriOps.q .move ?_
  refine TriOps.callM (pdq_spec so (xs.length + 1) v xs T 0 xs.length (Lib.bitLen xs.length) _ h (Nat.zero_le _) (Nat.le_refl _) hl hbl hf hok (fun h0 => absurd h0 (by omega)) (by omega)) (fun u T2 hu => ?_)
  obtain ⟨rfl, ys, hO2, hR2, hS2⟩ := hu
  refine .nil ?_
  refine retQ_n _ .none (HLe.refl _) ?_
  exact ⟨_, rfl, rfl, ys, hO2, hR2.perm, hR2.length ▸ hS2⟩
end
end SCL
end Go.Proofs.Ytlmdgdehjpahiaa
