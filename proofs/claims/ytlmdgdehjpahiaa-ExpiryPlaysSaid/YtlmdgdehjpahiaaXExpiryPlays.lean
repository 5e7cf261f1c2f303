/-
  THE LAW 'ExpiryPlays': whatever row of calls is played, a queue answers as the reference's, a list in order, and holds the same keys and times: doorwardlaw27.ExpiryPlays answers true, and what it is given reads as it did. No condition.
-/
import Derived.Test.YtlmdgdehjpahiaaExpS
import Derived.Test.YtlmdgdehjpahiaaLaw
import Derived.Test.YtlmdgdehjpahiaaRows
import Derived.WalkKit
import Derived.ProofKit
import Derived.OpenShut
import Derived.Carry
import Derived.ChangeMaps5
set_option linter.unusedVariables false
set_option maxRecDepth 4000
namespace Go.Proofs.Ytlmdgdehjpahiaa
open Go.ChangeShapes Go.WideShapes Go.ChangeAt Go.RowKit Go.ChangeMaps
namespace ExpiryPlays
theorem xdo_of {cs : List Value} (h : HasK [.i .i64, .s, .i .i64] cs) : ∃ z : XDo, z.enc = cs := by
  match cs, h with
  | [a, b, c], h =>
    obtain ⟨h1, h2, h3, _⟩ := h
    obtain ⟨a, rfl⟩ := ck_i h1
    obtain ⟨b, rfl⟩ := ck_s h2
    obtain ⟨c, rfl⟩ := ck_i h3
    exact ⟨⟨a, b, c⟩, rfl⟩
theorem contract (H : Type) (enc : TypeId × Value → H) (W : World) (base : Nat) (args : Array Value) (ds gs : List (DataW H)) (before : List MemPlace)
    (hval : ∀ (j : Nat) t v, Try.f6.params[j]? = some t → args[j]? = some v → Value.okWide Try.prog W .any base t v)
    (hW : DataW.Whole enc Try.prog Try.f6.params.toList Rows.expiryPlaysSpec.vars false W args.toList ds gs before) :
    Calls Try.prog 6 args W fun e W' => ∃ v, e = .returned v ∧ Rows.expiryPlaysSpec.post enc Try.prog Try.f6 false true false false W args v W' := by
  have hW' := hW
  obtain ⟨p, q, hA0, hV, rfl, hfz, hnd⟩ := hW
  have hA : DataW.TrodAll enc Try.prog W 0 (fun _ => true) true Try.f6.params.toList args.toList ds p := hA0
  rw [Try.params6] at hA hval
  obtain ⟨v0, d0, rfl, rfl, h0⟩ := trodAll_one hA
  obtain ⟨ds1, hS⟩ := RS.ofTrod (sz := 3) (en := XDo.enc) Try.underlying22 fT27.n (by omega) (hval 0 _ v0 rfl rfl) h0 fun m cs x hx => by
    have hk := fT27.h enc W 0 _ true m cs x hx
    exact ⟨hk.length, hk.ones, xdo_of hk⟩
  have hs : Spec Try.prog 6 [v0] (Rw W) [] fun v H' => v = .bool true ∧ H' = [] :=
    plays_spec v0 ds1 _ hS
  refine (hs W ⟨by simp, by simp⟩ (fun b o hb => ⟨hb, by simp⟩)).mono fun e W' ⟨v, H', he, ⟨hv, hH⟩, _, hf⟩ => ?_
  subst he; subst hv; subst hH
  obtain ⟨rfl, rfl⟩ := trodVars_none hV
  exact ⟨_, rfl, post_law kids full (by rw [Try.params6]; decide +kernel) hW' rfl rfl rfl (fun _ _ _ => trodAll_cons_mk (shut_bool Try.underlying4 _) trodAll_mk0) hf⟩
set_option maxRecDepth 100000 in
theorem lifted (os : Os) (started : os.Started) (H : Type) (enc : TypeId × Value → H) :
    ReturnsInHanded {} Try.checked os 6 .any (Rows.expiryPlaysSpec.pre6 enc Try.prog Try.f6 Rows.expiryPlaysRow.domain false) (Rows.expiryPlaysSpec.post enc Try.prog Try.f6 false true false false) := by
  refine returnsInHanded_of_change (C := Try.checked) own started (by kernel_rfl) Try.func6
    (ChangeSpec.witness6 (enc := enc) (C := Try.checked) false ⟨#[], #[  .slice none 0 0], []⟩ 8 (by kernel_rfl) (by kernel_rfl) (by kernel_rfl) (by kernel_rfl)) ?_
  intro W base args ds gs before hval hW _ _
  exact contract H enc W base args ds gs before hval hW
theorem proved : Rows.ExpiryPlaysSaid :=
  OpenClaim.holds_of_wide 6 Try.f6 rfl rfl rfl rfl rfl rfl rfl ⟨rfl, rfl, rfl, rfl, rfl⟩ rfl rfl rfl rfl rfl (by kernel_rfl) Try.func6 (by kernel_rfl)
    (of_decide_eq_true (by kernel_rfl)) (by unfold Func.isWrapper; first | (rw [if_pos (by decide +kernel)]; kernel_rfl) | (rw [if_neg (by decide +kernel)]; exact ⟨rfl, rfl⟩))
    (fun os started H enc _ => lifted os started H enc)
end ExpiryPlays
theorem expiryPlaysProved : Rows.ExpiryPlaysSaid := ExpiryPlays.proved
#print axioms expiryPlaysProved
end Go.Proofs.Ytlmdgdehjpahiaa
