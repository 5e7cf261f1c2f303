/-
  THE LAW 'WatchMakes': what was there at a revision, and the events since, make what is there at the last of them: doorwardlaw13.WatchMakes answers true, and what it is given reads as it did. No condition.
-/
import Derived.Test.YtconfddhmnipjaaGreatKWML
import Derived.Test.YtconfddhmnipjaaGreatKWMO
import Derived.Test.YtconfddhmnipjaaGreatRows
import Derived.WalkKit
import Derived.ProofKit
import Derived.OpenShut
import Derived.Carry
import Derived.ChangeMaps5
set_option linter.unusedVariables false
set_option maxRecDepth 4000
namespace Go.Proofs.YtconfddhmnipjaaGreat
open Go.ChangeShapes Go.WideShapes Go.ChangeAt Go.RowKit Go.ChangeMaps
namespace WatchMakes
theorem contract (H : Type) (enc : TypeId × Value → H) (W : World) (base : Nat) (args : Array Value) (ds gs : List (DataW H)) (before : List MemPlace)
    (hval : ∀ (j : Nat) t v, Tryz.f3.params[j]? = some t → args[j]? = some v → Value.okWide Tryz.prog W .any base t v)
    (hW : DataW.Whole enc Tryz.prog Tryz.f3.params.toList Rows.watchMakesSpec.vars false W args.toList ds gs before) :
    Calls Tryz.prog 3 args W fun e W' => ∃ v, e = .returned v ∧ Rows.watchMakesSpec.post enc Tryz.prog Tryz.f3 false true false false W args v W' := by
  have hW' := hW
  obtain ⟨p, q, hA0, hV, rfl, hfz, hnd⟩ := hW
  have hA : DataW.TrodAll enc Tryz.prog W 0 (fun _ => true) true Tryz.f3.params.toList args.toList ds p := hA0
  rw [Tryz.params3] at hA hval
  obtain ⟨v0, v1, v2, d0, d1, d2, p0, p1, p2, rfl, rfl, rfl, h0, h1, h2⟩ := trodAll_three hA
  obtain ⟨f0, h0⟩ := slice_cells Tryz.underlying22 (hval 0 _ v0 rfl rfl) h0
  obtain ⟨vl, cs, e0, hS, hD⟩ := scalls_of h0
  cases e0
  obtain ⟨z1, rfl, m1, M1, w1⟩ := open_int Tryz.underlying23 (hval 1 _ v1 rfl rfl) h1
  obtain ⟨z2, rfl, m2, M2, w2⟩ := open_int Tryz.underlying3 (hval 2 _ v2 rfl rfl) h2
  have hz : z2 ≤ 9223372036854775807 := wf_i64 w2
  have hs : Spec Tryz.prog 3 [v0, .int .u64 z1, .int .i64 z2] (Rw W) [] fun v H' => v = .bool true ∧ H' = [] :=
    wmakes_spec v0 cs z1 z2 hz _ hS hD
  refine (hs W ⟨by simp, by simp⟩ (fun b o hb => ⟨hb, by simp⟩)).mono fun e W' ⟨v, H', he, ⟨hv, hH⟩, _, hf⟩ => ?_
  subst he; subst hv; subst hH
  obtain ⟨rfl, rfl⟩ := trodVars_none hV
  exact ⟨_, rfl, post_law kids full (by rw [Tryz.params3]; decide +kernel) hW' rfl rfl rfl (fun _ _ _ => trodAll_cons_mk (shut_bool Tryz.underlying4 _) trodAll_mk0) hf⟩
set_option maxRecDepth 100000 in
theorem lifted (os : Os) (started : os.Started) (H : Type) (enc : TypeId × Value → H) :
    ReturnsInHanded {} Tryz.checked os 3 .any (Rows.watchMakesSpec.pre6 enc Tryz.prog Tryz.f3 Rows.watchMakesRow.domain false) (Rows.watchMakesSpec.post enc Tryz.prog Tryz.f3 false true false false) := by
  refine returnsInHanded_of_change (C := Tryz.checked) own started (by kernel_rfl) Tryz.func3
    (ChangeSpec.witness6 (enc := enc) (C := Tryz.checked) false ⟨#[], #[  .slice none 0 0,   .int .u64 0,   .int .i64 0], []⟩ 8 (by kernel_rfl) (by kernel_rfl) (by kernel_rfl) (by kernel_rfl)) ?_
  intro W base args ds gs before hval hW _ _
  exact contract H enc W base args ds gs before hval hW
theorem proved : Rows.WatchMakesSaid :=
  OpenClaim.holds_of_wide 3 Tryz.f3 rfl rfl rfl rfl rfl rfl rfl ⟨rfl, rfl, rfl, rfl, rfl⟩ rfl rfl rfl rfl rfl (by kernel_rfl) Tryz.func3 (by kernel_rfl)
    (of_decide_eq_true (by kernel_rfl)) (by unfold Func.isWrapper; first | (rw [if_pos (by decide +kernel)]; kernel_rfl) | (rw [if_neg (by decide +kernel)]; exact ⟨rfl, rfl⟩))
    (fun os started H enc _ => lifted os started H enc)
end WatchMakes
theorem watchMakesProved : Rows.WatchMakesSaid := WatchMakes.proved
#print axioms watchMakesProved
end Go.Proofs.YtconfddhmnipjaaGreat
