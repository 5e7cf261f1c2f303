/-
  THE LAW 'TokenGone': what was revoked, cut, dropped or is over is found no more, and no other token is touched: doorwardlaw29.TokenGone answers true, and what it is given reads as it did. No condition.
-/
import Derived.Test.YtkepgbimlolemaaTokV
import Derived.Test.YtkepgbimlolemaaTokQ
import Derived.Test.YtkepgbimlolemaaLaw
import Derived.Test.YtkepgbimlolemaaRows
import Derived.WalkKit
import Derived.ProofKit
import Derived.OpenShut
import Derived.Carry
import Derived.ChangeMaps5
set_option linter.unusedVariables false
set_option maxRecDepth 4000
namespace Go.Proofs.Ytkepgbimlolemaa
open Go.ChangeShapes Go.WideShapes Go.ChangeAt Go.RowKit Go.ChangeMaps
namespace TokenGone
theorem contract (H : Type) (enc : TypeId × Value → H) (W : World) (base : Nat) (args : Array Value) (ds gs : List (DataW H)) (before : List MemPlace)
    (hval : ∀ (j : Nat) t v, Try.f3.params[j]? = some t → args[j]? = some v → Value.okWide Try.prog W .any base t v)
    (hW : DataW.Whole enc Try.prog Try.f3.params.toList Rows.tokenGoneSpec.vars false W args.toList ds gs before) :
    Calls Try.prog 3 args W fun e W' => ∃ v, e = .returned v ∧ Rows.tokenGoneSpec.post enc Try.prog Try.f3 false true false false W args v W' := by
  have hW' := hW
  obtain ⟨p, q, hA0, hV, rfl, hfz, hnd⟩ := hW
  have hA : DataW.TrodAll enc Try.prog W 0 (fun _ => true) true Try.f3.params.toList args.toList ds p := hA0
  rw [Try.params3] at hA hval
  obtain ⟨v0, v1, d0, d1, p0, p1, rfl, rfl, rfl, h0, h1⟩ := trodAll_two hA
  obtain ⟨f0, h0⟩ := slice_cells Try.underlying22 (hval 0 _ v0 rfl rfl) h0
  obtain ⟨v, ps, e0, hS, hD⟩ := RS.ofCells (sz := 9) (en := encT) (D := fun p : TP => TokR (Rw W) p) Try.underlying22 (by kernel_rfl) (by omega) h0 fun m cs x hx => by
    obtain ⟨p, rfl, hp⟩ := tok_of hx
    exact ⟨rfl, hp.ones, p, rfl, hp⟩
  cases e0
  obtain ⟨cs, rfl, f1, h1⟩ := cells_of_struct Try.underlying28 (hval 1 _ v1 rfl rfl) h1
  obtain ⟨d, rfl, hd, ho⟩ := tdo_of h1
  have hs : Spec Try.prog 3 [v0, .agg d.enc.toArray] (Rw W) [] fun v H' => v = .bool true ∧ H' = [] :=
    tgone_spec v0 ps d _ hS hD hd.oneCell
  refine (hs W ⟨by simp, by simp⟩ (fun b o hb => ⟨hb, by simp⟩)).mono fun e W' ⟨v, H', he, ⟨hv, hH⟩, _, hf⟩ => ?_
  subst he; subst hv; subst hH
  obtain ⟨rfl, rfl⟩ := trodVars_none hV
  exact ⟨_, rfl, post_law kids full (by rw [Try.params3]; decide +kernel) hW' rfl rfl rfl (fun _ _ _ => trodAll_cons_mk (shut_bool Try.underlying4 _) trodAll_mk0) hf⟩
set_option maxRecDepth 100000 in
theorem lifted (os : Os) (started : os.Started) (H : Type) (enc : TypeId × Value → H) :
    ReturnsInHanded {} Try.checked os 3 .any (Rows.tokenGoneSpec.pre6 enc Try.prog Try.f3 Rows.tokenGoneRow.domain false) (Rows.tokenGoneSpec.post enc Try.prog Try.f3 false true false false) := by
  refine returnsInHanded_of_change (C := Try.checked) own started (by kernel_rfl) Try.func3
    (ChangeSpec.witness6 (enc := enc) (C := Try.checked) false ⟨#[], #[  .slice none 0 0,   .agg #[.int .i64 0, .string ⟨#[]⟩, .int .i64 0, .string ⟨#[]⟩, .string ⟨#[]⟩, .slice none 0 0, .int .i64 0, .int .i64 0, .int .u64 0, .bool false, .string ⟨#[]⟩, .string ⟨#[]⟩, .string ⟨#[]⟩, .int .i64 0, .int .i64 0]], []⟩ 8 (by kernel_rfl) (by kernel_rfl) (by kernel_rfl) (by kernel_rfl)) ?_
  intro W base args ds gs before hval hW _ _
  exact contract H enc W base args ds gs before hval hW
theorem proved : Rows.TokenGoneSaid :=
  OpenClaim.holds_of_wide 3 Try.f3 rfl rfl rfl rfl rfl rfl rfl ⟨rfl, rfl, rfl, rfl, rfl⟩ rfl rfl rfl rfl rfl (by kernel_rfl) Try.func3 (by kernel_rfl)
    (of_decide_eq_true (by kernel_rfl)) (by unfold Func.isWrapper; first | (rw [if_pos (by decide +kernel)]; kernel_rfl) | (rw [if_neg (by decide +kernel)]; exact ⟨rfl, rfl⟩))
    (fun os started H enc _ => lifted os started H enc)
end TokenGone
theorem tokenGoneProved : Rows.TokenGoneSaid := TokenGone.proved
#print axioms tokenGoneProved
end Go.Proofs.Ytkepgbimlolemaa
