/-
  THE LAW 'WatchReplays': which tuples any others in order are behind any events, and that they stay: doorwardlaw13.WatchReplays answers true, and what it is given reads as it did. No condition.
-/
import Derived.Test.YtkepgbimlolemaaGreatKRPL
import Derived.Test.YtkepgbimlolemaaGreatKRPO
import Derived.Test.YtkepgbimlolemaaGreatRows
import Derived.WalkKit
import Derived.ProofKit
import Derived.OpenShut
import Derived.Carry
import Derived.ChangeMaps5
set_option linter.unusedVariables false
set_option maxRecDepth 4000
namespace Go.Proofs.YtkepgbimlolemaaGreat
open Go.ChangeShapes Go.WideShapes Go.ChangeAt Go.RowKit Go.ChangeMaps
namespace WatchReplays
theorem contract (H : Type) (enc : TypeId × Value → H) (W : World) (base : Nat) (args : Array Value) (ds gs : List (DataW H)) (before : List MemPlace)
    (hval : ∀ (j : Nat) t v, Tryz.f7.params[j]? = some t → args[j]? = some v → Value.okWide Tryz.prog W .any base t v)
    (hW : DataW.Whole enc Tryz.prog Tryz.f7.params.toList Rows.watchReplaysSpec.vars false W args.toList ds gs before) :
    Calls Tryz.prog 7 args W fun e W' => ∃ v, e = .returned v ∧ Rows.watchReplaysSpec.post enc Tryz.prog Tryz.f7 false true false false W args v W' := by
  have hW' := hW
  obtain ⟨p, q, hA0, hV, rfl, hfz, hnd⟩ := hW
  have hA : DataW.TrodAll enc Tryz.prog W 0 (fun _ => true) true Tryz.f7.params.toList args.toList ds p := hA0
  rw [Tryz.params7] at hA hval
  obtain ⟨v0, v1, d0, d1, p0, p1, rfl, rfl, rfl, h0, h1⟩ := trodAll_two hA
  obtain ⟨f0, h0⟩ := slice_cells Tryz.underlying24 (hval 0 _ v0 rfl rfl) h0
  obtain ⟨vl, l, e0, hS, hD⟩ := tpls_of h0
  cases e0
  obtain ⟨f1, h1⟩ := slice_cells Tryz.underlying54 (hval 1 _ v1 rfl rfl) h1
  obtain ⟨ve, es, e1, hE, hF⟩ := evs_of h1
  cases e1
  have hs : Spec Tryz.prog 7 [v0, v1] (Rw W) [] fun v H' => v = .bool true ∧ H' = [] :=
    wreplays_spec v0 v1 l es _ hS hD hE hF
  refine (hs W ⟨by simp, by simp⟩ (fun b o hb => ⟨hb, by simp⟩)).mono fun e W' ⟨v, H', he, ⟨hv, hH⟩, _, hf⟩ => ?_
  subst he; subst hv; subst hH
  obtain ⟨rfl, rfl⟩ := trodVars_none hV
  exact ⟨_, rfl, post_law kids full (by rw [Tryz.params7]; decide +kernel) hW' rfl rfl rfl (fun _ _ _ => trodAll_cons_mk (shut_bool Tryz.underlying4 _) trodAll_mk0) hf⟩
set_option maxRecDepth 100000 in
theorem lifted (os : Os) (started : os.Started) (H : Type) (enc : TypeId × Value → H) :
    ReturnsInHanded {} Tryz.checked os 7 .any (Rows.watchReplaysSpec.pre6 enc Tryz.prog Tryz.f7 Rows.watchReplaysRow.domain false) (Rows.watchReplaysSpec.post enc Tryz.prog Tryz.f7 false true false false) := by
  refine returnsInHanded_of_change (C := Tryz.checked) own started (by kernel_rfl) Tryz.func7
    (ChangeSpec.witness6 (enc := enc) (C := Tryz.checked) false ⟨#[], #[  .slice none 0 0,   .slice none 0 0], []⟩ 8 (by kernel_rfl) (by kernel_rfl) (by kernel_rfl) (by kernel_rfl)) ?_
  intro W base args ds gs before hval hW _ _
  exact contract H enc W base args ds gs before hval hW
theorem proved : Rows.WatchReplaysSaid :=
  OpenClaim.holds_of_wide 7 Tryz.f7 rfl rfl rfl rfl rfl rfl rfl ⟨rfl, rfl, rfl, rfl, rfl⟩ rfl rfl rfl rfl rfl (by kernel_rfl) Tryz.func7 (by kernel_rfl)
    (of_decide_eq_true (by kernel_rfl)) (by unfold Func.isWrapper; first | (rw [if_pos (by decide +kernel)]; kernel_rfl) | (rw [if_neg (by decide +kernel)]; exact ⟨rfl, rfl⟩))
    (fun os started H enc _ => lifted os started H enc)
end WatchReplays
theorem watchReplaysProved : Rows.WatchReplaysSaid := WatchReplays.proved
#print axioms watchReplaysProved
end Go.Proofs.YtkepgbimlolemaaGreat
