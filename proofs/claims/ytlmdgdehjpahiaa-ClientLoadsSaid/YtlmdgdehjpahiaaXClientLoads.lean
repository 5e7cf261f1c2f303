/-
  THE LAW 'ClientLoads': a list of clients is a registry's just if all are right, in order and not too many, and the registry's own list is then the same: doorwardlaw25.ClientLoads answers true, and what it is given reads as it did. No condition.
-/
import Derived.Test.YtlmdgdehjpahiaaCliM
import Derived.Test.YtlmdgdehjpahiaaCliG
import Derived.Test.YtlmdgdehjpahiaaLaw
import Derived.Test.YtlmdgdehjpahiaaRows
import Derived.WalkKit
import Derived.ProofKit
import Derived.OpenShut
import Derived.Carry
import Derived.ChangeMaps5
set_option linter.unusedVariables false
set_option maxRecDepth 4000
namespace Go.Proofs.Ytlmdgdehjpahiaa
open Go.ChangeShapes Go.WideShapes Go.ChangeAt Go.RowKit Go.ChangeMaps
namespace ClientLoads
theorem contract (H : Type) (enc : TypeId × Value → H) (W : World) (base : Nat) (args : Array Value) (ds gs : List (DataW H)) (before : List MemPlace)
    (hval : ∀ (j : Nat) t v, Try.f10.params[j]? = some t → args[j]? = some v → Value.okWide Try.prog W .any base t v)
    (hW : DataW.Whole enc Try.prog Try.f10.params.toList Rows.clientLoadsSpec.vars false W args.toList ds gs before) :
    Calls Try.prog 10 args W fun e W' => ∃ v, e = .returned v ∧ Rows.clientLoadsSpec.post enc Try.prog Try.f10 false true false false W args v W' := by
  have hW' := hW
  obtain ⟨p, q, hA0, hV, rfl, hfz, hnd⟩ := hW
  have hA : DataW.TrodAll enc Try.prog W 0 (fun _ => true) true Try.f10.params.toList args.toList ds p := hA0
  rw [Try.params10] at hA hval
  obtain ⟨v0, d0, rfl, rfl, h0⟩ := trodAll_one hA
  obtain ⟨f0, h0⟩ := slice_cells Try.underlying85 (hval 0 _ v0 rfl rfl) h0
  obtain ⟨v, ps, e0, hS, hD⟩ := RS.ofCells (sz := 4) (en := encC) (D := fun p : CP => CliR (Rw W) p.1 p.2) Try.underlying85 (by kernel_rfl) (by omega) h0 fun m cs x hx => by
    obtain ⟨r, c, rfl, hc⟩ := cli_of hx
    exact ⟨rfl, hc.ones, (r, c), rfl, hc⟩
  cases e0
  have hs : Spec Try.prog 10 [v0] (Rw W) [] fun v H' => v = .bool true ∧ H' = [] :=
    cloads_spec v0 ps _ hS hD
  refine (hs W ⟨by simp, by simp⟩ (fun b o hb => ⟨hb, by simp⟩)).mono fun e W' ⟨v, H', he, ⟨hv, hH⟩, _, hf⟩ => ?_
  subst he; subst hv; subst hH
  obtain ⟨rfl, rfl⟩ := trodVars_none hV
  exact ⟨_, rfl, post_law kids full (by rw [Try.params10]; decide +kernel) hW' rfl rfl rfl (fun _ _ _ => trodAll_cons_mk (shut_bool Try.underlying4 _) trodAll_mk0) hf⟩
set_option maxRecDepth 100000 in
theorem lifted (os : Os) (started : os.Started) (H : Type) (enc : TypeId × Value → H) :
    ReturnsInHanded {} Try.checked os 10 .any (Rows.clientLoadsSpec.pre6 enc Try.prog Try.f10 Rows.clientLoadsRow.domain false) (Rows.clientLoadsSpec.post enc Try.prog Try.f10 false true false false) := by
  refine returnsInHanded_of_change (C := Try.checked) own started (by kernel_rfl) Try.func10
    (ChangeSpec.witness6 (enc := enc) (C := Try.checked) false ⟨#[], #[  .slice none 0 0], []⟩ 8 (by kernel_rfl) (by kernel_rfl) (by kernel_rfl) (by kernel_rfl)) ?_
  intro W base args ds gs before hval hW _ _
  exact contract H enc W base args ds gs before hval hW
theorem proved : Rows.ClientLoadsSaid :=
  OpenClaim.holds_of_wide 10 Try.f10 rfl rfl rfl rfl rfl rfl rfl ⟨rfl, rfl, rfl, rfl, rfl⟩ rfl rfl rfl rfl rfl (by kernel_rfl) Try.func10 (by kernel_rfl)
    (of_decide_eq_true (by kernel_rfl)) (by unfold Func.isWrapper; first | (rw [if_pos (by decide +kernel)]; kernel_rfl) | (rw [if_neg (by decide +kernel)]; exact ⟨rfl, rfl⟩))
    (fun os started H enc _ => lifted os started H enc)
end ClientLoads
theorem clientLoadsProved : Rows.ClientLoadsSaid := ClientLoads.proved
#print axioms clientLoadsProved
end Go.Proofs.Ytlmdgdehjpahiaa
