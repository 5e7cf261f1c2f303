/-
  THE LAW 'ExpiryDue': behind Due all times are above now, what was told was not, in order, and two steps of it are one: doorwardlaw27.ExpiryDue answers true, and what it is given reads as it did. No condition.
-/
import Derived.Test.YtlmdgdehjpahiaaExpT
import Derived.Test.YtlmdgdehjpahiaaLaw
import Derived.Test.YtlmdgdehjpahiaaRows
import Derived.WalkKit
import Derived.ProofKit
import Derived.OpenShut
import Derived.Carry
import Derived.ChangeMaps5
set_option linter.unusedVariables false
set_option maxRecDepth 4000
namespace Go.Proofs.Ytlmdgdehjpahiaa
open Go.ChangeShapes Go.WideShapes Go.ChangeAt Go.RowKit Go.ChangeMaps
namespace ExpiryDue
theorem xdo_of {cs : List Value} (h : HasK [.i .i64, .s, .i .i64] cs) : ∃ z : XDo, z.enc = cs := by
  match cs, h with
  | [a, b, c], h =>
    obtain ⟨h1, h2, h3, _⟩ := h
    obtain ⟨a, rfl⟩ := ck_i h1
    obtain ⟨b, rfl⟩ := ck_s h2
    obtain ⟨c, rfl⟩ := ck_i h3
    exact ⟨⟨a, b, c⟩, rfl⟩
theorem contract (H : Type) (enc : TypeId × Value → H) (W : World) (base : Nat) (args : Array Value) (ds gs : List (DataW H)) (before : List MemPlace)
    (hval : ∀ (j : Nat) t v, Try.f7.params[j]? = some t → args[j]? = some v → Value.okWide Try.prog W .any base t v)
    (hW : DataW.Whole enc Try.prog Try.f7.params.toList Rows.expiryDueSpec.vars false W args.toList ds gs before) :
    Calls Try.prog 7 args W fun e W' => ∃ v, e = .returned v ∧ Rows.expiryDueSpec.post enc Try.prog Try.f7 false true false false W args v W' := by
  have hW' := hW
  obtain ⟨p, q, hA0, hV, rfl, hfz, hnd⟩ := hW
  have hA : DataW.TrodAll enc Try.prog W 0 (fun _ => true) true Try.f7.params.toList args.toList ds p := hA0
  rw [Try.params7] at hA hval
  obtain ⟨v0, v1, v2, d0, d1, d2, p0, p1, p2, rfl, rfl, rfl, h0, h1, h2⟩ := trodAll_three hA
  obtain ⟨ds1, hS⟩ := RS.ofTrod (sz := 3) (en := XDo.enc) Try.underlying22 fT27.n (by omega) (hval 0 _ v0 rfl rfl) h0 fun m cs x hx => by
    have hk := fT27.h enc W 0 _ true m cs x hx
    exact ⟨hk.length, hk.ones, xdo_of hk⟩
  obtain ⟨n1, rfl, _, _, w1⟩ := open_int Try.underlying2 (hval 1 _ v1 rfl rfl) h1
  obtain ⟨n2, rfl, _, _, w2⟩ := open_int Try.underlying2 (hval 2 _ v2 rfl rfl) h2
  have hs : Spec Try.prog 7 [v0, .int .i64 n1, .int .i64 n2] (Rw W) [] fun v H' => v = .bool true ∧ H' = [] :=
    due_spec v0 ds1 n1 n2 _ hS
  refine (hs W ⟨by simp, by simp⟩ (fun b o hb => ⟨hb, by simp⟩)).mono fun e W' ⟨v, H', he, ⟨hv, hH⟩, _, hf⟩ => ?_
  subst he; subst hv; subst hH
  obtain ⟨rfl, rfl⟩ := trodVars_none hV
  exact ⟨_, rfl, post_law kids full (by rw [Try.params7]; decide +kernel) hW' rfl rfl rfl (fun _ _ _ => trodAll_cons_mk (shut_bool Try.underlying4 _) trodAll_mk0) hf⟩
set_option maxRecDepth 100000 in
theorem lifted (os : Os) (started : os.Started) (H : Type) (enc : TypeId × Value → H) :
    ReturnsInHanded {} Try.checked os 7 .any (Rows.expiryDueSpec.pre6 enc Try.prog Try.f7 Rows.expiryDueRow.domain false) (Rows.expiryDueSpec.post enc Try.prog Try.f7 false true false false) := by
  refine returnsInHanded_of_change (C := Try.checked) own started (by kernel_rfl) Try.func7
    (ChangeSpec.witness6 (enc := enc) (C := Try.checked) false ⟨#[], #[  .slice none 0 0,   .int .i64 0,   .int .i64 0], []⟩ 8 (by kernel_rfl) (by kernel_rfl) (by kernel_rfl) (by kernel_rfl)) ?_
  intro W base args ds gs before hval hW _ _
  exact contract H enc W base args ds gs before hval hW
theorem proved : Rows.ExpiryDueSaid :=
  OpenClaim.holds_of_wide 7 Try.f7 rfl rfl rfl rfl rfl rfl rfl ⟨rfl, rfl, rfl, rfl, rfl⟩ rfl rfl rfl rfl rfl (by kernel_rfl) Try.func7 (by kernel_rfl)
    (of_decide_eq_true (by kernel_rfl)) (by unfold Func.isWrapper; first | (rw [if_pos (by decide +kernel)]; kernel_rfl) | (rw [if_neg (by decide +kernel)]; exact ⟨rfl, rfl⟩))
    (fun os started H enc _ => lifted os started H enc)
end ExpiryDue
theorem expiryDueProved : Rows.ExpiryDueSaid := ExpiryDue.proved
#print axioms expiryDueProved
end Go.Proofs.Ytlmdgdehjpahiaa
