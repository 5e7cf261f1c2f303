/-
  THE LAW 'TokenOnce': a refresh token is rotated once at most, whoever tries, and a second try by its client leaves none of its family: doorwardlaw29.TokenOnce answers true, and what it is given reads as it did. No condition.
-/
import Derived.Test.YtlmdgdehjpahiaaTokK
import Derived.Test.YtlmdgdehjpahiaaTokQ
import Derived.Test.YtlmdgdehjpahiaaLaw
import Derived.Test.YtlmdgdehjpahiaaRows
import Derived.WalkKit
import Derived.ProofKit
import Derived.OpenShut
import Derived.Carry
import Derived.ChangeMaps5
set_option linter.unusedVariables false
set_option maxRecDepth 4000
namespace Go.Proofs.Ytlmdgdehjpahiaa
open Go.ChangeShapes Go.WideShapes Go.ChangeAt Go.RowKit Go.ChangeMaps
namespace TokenOnce
theorem contract (H : Type) (enc : TypeId × Value → H) (W : World) (base : Nat) (args : Array Value) (ds gs : List (DataW H)) (before : List MemPlace)
    (hval : ∀ (j : Nat) t v, Try.f13.params[j]? = some t → args[j]? = some v → Value.okWide Try.prog W .any base t v)
    (hW : DataW.Whole enc Try.prog Try.f13.params.toList Rows.tokenOnceSpec.vars false W args.toList ds gs before) :
    Calls Try.prog 13 args W fun e W' => ∃ v, e = .returned v ∧ Rows.tokenOnceSpec.post enc Try.prog Try.f13 false true false false W args v W' := by
  have hW' := hW
  obtain ⟨p, q, hA0, hV, rfl, hfz, hnd⟩ := hW
  have hA : DataW.TrodAll enc Try.prog W 0 (fun _ => true) true Try.f13.params.toList args.toList ds p := hA0
  rw [Try.params13] at hA hval
  obtain ⟨v0, v1, v2, d0, d1, d2, p0, p1, p2, rfl, rfl, rfl, h0, h1, h2⟩ := trodAll_three hA
  obtain ⟨f0, h0⟩ := slice_cells Try.underlying69 (hval 0 _ v0 rfl rfl) h0
  obtain ⟨v, ps, e0, hS, hD⟩ := RS.ofCells (sz := 9) (en := encT) (D := fun p : TP => TokR (Rw W) p) Try.underlying69 (by kernel_rfl) (by omega) h0 fun m cs x hx => by
    obtain ⟨p, rfl, hp⟩ := tok_of hx
    exact ⟨rfl, hp.ones, p, rfl, hp⟩
  cases e0
  obtain ⟨n, rfl, _, _, w1⟩ := open_int Try.underlying3 (hval 1 _ v1 rfl rfl) h1
  obtain ⟨f2, h2⟩ := slice_cells Try.underlying109 (hval 2 _ v2 rfl rfl) h2
  obtain ⟨vd, ds, e2, hS2, hD2⟩ := RS.ofCells (sz := 15) (en := TDo.enc) (D := fun d : TDo => d.is (Rw W)) Try.underlying109 (by kernel_rfl) (by omega) h2 fun m cs x hx => by
    obtain ⟨d, rfl, hd, ho⟩ := tdo_of hx
    exact ⟨rfl, ho, d, rfl, hd⟩
  cases e2
  have hs : Spec Try.prog 13 [v0, .int .i64 n, v2] (Rw W) [] fun v H' => v = .bool true ∧ H' = [] :=
    tonce_spec v0 ps n v2 ds _ hS hD hS2
  refine (hs W ⟨by simp, by simp⟩ (fun b o hb => ⟨hb, by simp⟩)).mono fun e W' ⟨v, H', he, ⟨hv, hH⟩, _, hf⟩ => ?_
  subst he; subst hv; subst hH
  obtain ⟨rfl, rfl⟩ := trodVars_none hV
  exact ⟨_, rfl, post_law kids full (by rw [Try.params13]; decide +kernel) hW' rfl rfl rfl (fun _ _ _ => trodAll_cons_mk (shut_bool Try.underlying4 _) trodAll_mk0) hf⟩
set_option maxRecDepth 100000 in
theorem lifted (os : Os) (started : os.Started) (H : Type) (enc : TypeId × Value → H) :
    ReturnsInHanded {} Try.checked os 13 .any (Rows.tokenOnceSpec.pre6 enc Try.prog Try.f13 Rows.tokenOnceRow.domain false) (Rows.tokenOnceSpec.post enc Try.prog Try.f13 false true false false) := by
  refine returnsInHanded_of_change (C := Try.checked) own started (by kernel_rfl) Try.func13
    (ChangeSpec.witness6 (enc := enc) (C := Try.checked) false ⟨#[], #[  .slice none 0 0,   .int .i64 0,   .slice none 0 0], []⟩ 8 (by kernel_rfl) (by kernel_rfl) (by kernel_rfl) (by kernel_rfl)) ?_
  intro W base args ds gs before hval hW _ _
  exact contract H enc W base args ds gs before hval hW
theorem proved : Rows.TokenOnceSaid :=
  OpenClaim.holds_of_wide 13 Try.f13 rfl rfl rfl rfl rfl rfl rfl ⟨rfl, rfl, rfl, rfl, rfl⟩ rfl rfl rfl rfl rfl (by kernel_rfl) Try.func13 (by kernel_rfl)
    (of_decide_eq_true (by kernel_rfl)) (by unfold Func.isWrapper; first | (rw [if_pos (by decide +kernel)]; kernel_rfl) | (rw [if_neg (by decide +kernel)]; exact ⟨rfl, rfl⟩))
    (fun os started H enc _ => lifted os started H enc)
end TokenOnce
theorem tokenOnceProved : Rows.TokenOnceSaid := TokenOnce.proved
#print axioms tokenOnceProved
end Go.Proofs.Ytlmdgdehjpahiaa
