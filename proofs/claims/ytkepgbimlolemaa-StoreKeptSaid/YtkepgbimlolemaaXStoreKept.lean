/-
  THE LAW 'StoreKept': what was read is read again behind whatever calls, as long as it can be, and a store that is loaded of its rows is the same: doorwardlaw12.StoreKept answers true, and what it is given reads as it did. No condition.
-/
import Derived.Test.YtkepgbimlolemaaSkA
import Derived.Test.YtkepgbimlolemaaLaw
import Derived.Test.YtkepgbimlolemaaRows
import Derived.WalkKit
import Derived.ProofKit
import Derived.OpenShut
import Derived.Carry
import Derived.ChangeMaps5
set_option linter.unusedVariables false
set_option maxRecDepth 4000
namespace Go.Proofs.Ytkepgbimlolemaa
open Go.ChangeShapes Go.WideShapes Go.ChangeAt Go.RowKit Go.ChangeMaps
namespace StoreKept
theorem contract (H : Type) (enc : TypeId × Value → H) (W : World) (base : Nat) (args : Array Value) (ds gs : List (DataW H)) (before : List MemPlace)
    (hval : ∀ (j : Nat) t v, Try.f9.params[j]? = some t → args[j]? = some v → Value.okWide Try.prog W .any base t v)
    (hW : DataW.Whole enc Try.prog Try.f9.params.toList Rows.storeKeptSpec.vars false W args.toList ds gs before) :
    Calls Try.prog 9 args W fun e W' => ∃ v, e = .returned v ∧ Rows.storeKeptSpec.post enc Try.prog Try.f9 false true false false W args v W' := by
  have hW' := hW
  obtain ⟨p, q, hA0, hV, rfl, hfz, hnd⟩ := hW
  have hA : DataW.TrodAll enc Try.prog W 0 (fun _ => true) true Try.f9.params.toList args.toList ds p := hA0
  rw [Try.params9] at hA hval
  obtain ⟨v0, v1, v2, v3, d0, d1, d2, d3, p0, p1, p2, p3, rfl, rfl, rfl, h0, h1, h2, h3⟩ := trodAll_four hA
  obtain ⟨f0, h0⟩ := slice_cells Try.underlying67 (hval 0 _ v0 rfl rfl) h0
  obtain ⟨vl, cs, e0, hS, hD⟩ := scalls_of h0
  cases e0
  obtain ⟨f1, h1⟩ := slice_cells Try.underlying67 (hval 1 _ v1 rfl rfl) h1
  obtain ⟨vm, ms, e1, hM, hE⟩ := scalls_of h1
  cases e1
  obtain ⟨cs2, rfl, f2, h2⟩ := cells_of_struct Try.underlying73 (hval 2 _ v2 rfl rfl) h2
  obtain ⟨f, rfl⟩ := filter_of h2
  obtain ⟨z3, rfl, m3, M3, w3⟩ := open_int Try.underlying24 (hval 3 _ v3 rfl rfl) h3
  have hs : Spec Try.prog 9 [v0, v1, .agg f.enc.toArray, .int .u64 z3] (Rw W) [] fun v H' => v = .bool true ∧ H' = [] :=
    skept_spec v0 v1 cs ms f z3 _ hS hD hM hE
  refine (hs W ⟨by simp, by simp⟩ (fun b o hb => ⟨hb, by simp⟩)).mono fun e W' ⟨v, H', he, ⟨hv, hH⟩, _, hf⟩ => ?_
  subst he; subst hv; subst hH
  obtain ⟨rfl, rfl⟩ := trodVars_none hV
  exact ⟨_, rfl, post_law kids full (by rw [Try.params9]; decide +kernel) hW' rfl rfl rfl (fun _ _ _ => trodAll_cons_mk (shut_bool Try.underlying4 _) trodAll_mk0) hf⟩
set_option maxRecDepth 100000 in
theorem lifted (os : Os) (started : os.Started) (H : Type) (enc : TypeId × Value → H) :
    ReturnsInHanded {} Try.checked os 9 .any (Rows.storeKeptSpec.pre6 enc Try.prog Try.f9 Rows.storeKeptRow.domain false) (Rows.storeKeptSpec.post enc Try.prog Try.f9 false true false false) := by
  refine returnsInHanded_of_change (C := Try.checked) own started (by kernel_rfl) Try.func9
    (ChangeSpec.witness6 (enc := enc) (C := Try.checked) false ⟨#[], #[  .slice none 0 0,   .slice none 0 0,   .agg #[.string ⟨#[]⟩, .string ⟨#[]⟩, .string ⟨#[]⟩, .string ⟨#[]⟩, .string ⟨#[]⟩, .string ⟨#[]⟩, .string ⟨#[]⟩],   .int .u64 0], []⟩ 8 (by kernel_rfl) (by kernel_rfl) (by kernel_rfl) (by kernel_rfl)) ?_
  intro W base args ds gs before hval hW _ _
  exact contract H enc W base args ds gs before hval hW
theorem proved : Rows.StoreKeptSaid :=
  OpenClaim.holds_of_wide 9 Try.f9 rfl rfl rfl rfl rfl rfl rfl ⟨rfl, rfl, rfl, rfl, rfl⟩ rfl rfl rfl rfl rfl (by kernel_rfl) Try.func9 (by kernel_rfl)
    (of_decide_eq_true (by kernel_rfl)) (by unfold Func.isWrapper; first | (rw [if_pos (by decide +kernel)]; kernel_rfl) | (rw [if_neg (by decide +kernel)]; exact ⟨rfl, rfl⟩))
    (fun os started H enc _ => lifted os started H enc)
end StoreKept
theorem storeKeptProved : Rows.StoreKeptSaid := StoreKept.proved
#print axioms storeKeptProved
end Go.Proofs.Ytkepgbimlolemaa
