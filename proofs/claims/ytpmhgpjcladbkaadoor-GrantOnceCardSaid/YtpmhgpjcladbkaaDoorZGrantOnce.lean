/-
  THE LAW 'GrantOnce': a code is redeemed once at most, by its own client, for its own address, with a verifier that matches, ahead of its end, and then it is redeemed: doorwardlaw28.GrantOnce answers true, and what it is given reads as it did. No condition.
-/
import Derived.Test.YtpmhgpjcladbkaaDoorKGrantOnceK
import Derived.Test.YtpmhgpjcladbkaaDoorKGrantOnceM
import Derived.Test.YtpmhgpjcladbkaaDoorKGrantOnceN
import Derived.Test.YtpmhgpjcladbkaaDoorRows
import Derived.Test.YtpmhgpjcladbkaaDoorTie
import Derived.Test.YtpmhgpjcladbkaaDoorCards
import Derived.SevenTiedAt
import Derived.LaidMore
import Derived.Stop.Joined
import Derived.WalkKit
import Derived.ProofKit
import Derived.OpenShut
import Derived.Carry
import Derived.ChangeMaps5
set_option linter.unusedVariables false
set_option maxRecDepth 4000
namespace Go.Proofs.YtpmhgpjcladbkaaDoor
open Go.ChangeShapes Go.WideShapes Go.ChangeAt Go.RowKit Go.ChangeMaps
namespace GrantOnce
theorem contract (H : Type) (enc : TypeId × Value → H) (W : World) (base : Nat) (args : Array Value) (ds gs : List (DataW H)) (before : List MemPlace) (hL : laidMetH Tryd.prog doorL W)
    (hval : ∀ (j : Nat) t v, Tryd.f3.params[j]? = some t → args[j]? = some v → Value.okWide Tryd.prog W .any base t v)
    (hW : DataW.Whole enc Tryd.prog Tryd.f3.params.toList Rows.grantOnceSpec.vars false W args.toList ds gs before) :
    Calls Tryd.prog 3 args W fun e W' => ∃ v, e = .returned v ∧ Rows.grantOnceSpec.post enc Tryd.prog Tryd.f3 false true false false W args v W' := by
  have hW' := hW
  obtain ⟨p, q, hA0, hV, rfl, hfz, hnd⟩ := hW
  have hA : DataW.TrodAll enc Tryd.prog W 0 (fun _ => true) true Tryd.f3.params.toList args.toList ds p := hA0
  rw [Tryd.params3] at hA hval
  obtain ⟨v0, v1, d0, d1, p0, p1, rfl, rfl, rfl, h0, h1⟩ := trodAll_two hA
  obtain ⟨cs, rfl, f0, h0⟩ := cells_of_struct Tryd.underlying24 (hval 0 _ v0 rfl rfl) h0
  obtain ⟨⟨wc, tc⟩, rfl, hc⟩ := gcod_of h0
  obtain ⟨f1, h1⟩ := slice_cells Tryd.underlying25 (hval 1 _ v1 rfl rfl) h1
  obtain ⟨vd, ds, e1, hS, hD⟩ := RS.ofCells (sz := 17) (en := GDo.enc) (D := fun d : GDo => d.is (Rw W)) Tryd.underlying25 (by kernel_rfl) (by omega) h1 fun m cs x hx => by
    obtain ⟨d, rfl, hd⟩ := gdo_of hx
    exact ⟨rfl, GDo.ones hd, d, rfl, hd⟩
  cases e1
  have hg := words_of hL
  have hs : Spec Tryd.prog 3 [.agg (encG (wc, tc)).toArray, v1] (Rw W) [] fun v H' => v = .bool true ∧ H' = [] :=
    gonce_spec wc tc v1 ds _ hc hS hD hg
  refine (hs W ⟨by simp, by simp⟩ (fun b o hb => ⟨hb, by simp⟩)).mono fun e W' ⟨v, H', he, ⟨hv, hH⟩, _, hf⟩ => ?_
  subst he; subst hv; subst hH
  obtain ⟨rfl, rfl⟩ := trodVars_none hV
  exact ⟨_, rfl, post_law kids full (by rw [Tryd.params3]; decide +kernel) hW' rfl rfl rfl (fun _ _ _ => trodAll_cons_mk (shut_bool Tryd.underlying4 _) trodAll_mk0) hf⟩
set_option maxRecDepth 100000 in
theorem lifted (os : Os) (started : os.Started) (H : Type) (enc : TypeId × Value → H) :
    ReturnsInHanded {} Tryd.checked os 3 .any (fun w args => (Rows.grantOnceSpec.pre enc Tryd.prog Tryd.f3 [] false w args ∧ laidMetH Tryd.prog doorL w) ∧ sizedMet enc Tryd.prog Tryd.f3 (OpenSpec.ofChange Rows.grantOnceSpec) false w args)
      (Rows.grantOnceSpec.post enc Tryd.prog Tryd.f3 false true false false) := by
  refine returnsInHanded_of_change_and (C := Tryd.checked) (X := fun w _ => laidMetH Tryd.prog doorL w) (fun _ _ _ hh h => h.of_heap hh) own started (by kernel_rfl) Tryd.func3
    (ChangeSpec.witness_shaped (enc := enc) (C := Tryd.checked) (os := os) (X := fun w _ => laidMetH Tryd.prog doorL w) false (World.doorLaid Tryd.prog 400 os) #[  .agg #[.string ⟨#[]⟩, .string ⟨#[]⟩, .string ⟨#[]⟩, .string ⟨#[]⟩, .slice none 0 0, .string ⟨#[]⟩, .int .i64 0, .int .i64 0, .bool false],   .slice none 0 0] 8 rfl (World.shaped_of_RefB (by kernel_rfl) (by kernel_rfl)) (by kernel_rfl) (by kernel_rfl) (by kernel_rfl) (door_met os _)) ?_
  intro W base args ds gs before hval hW _ _ hL _
  exact contract H enc W base args ds gs before hL hval hW
theorem proved : Rows.GrantOnceSaid :=
  OpenClaim.holds_of_wide 3 Tryd.f3 rfl rfl rfl rfl rfl rfl rfl ⟨rfl, rfl, rfl, rfl, rfl⟩ rfl rfl rfl rfl rfl (by kernel_rfl) Tryd.func3 (by kernel_rfl)
    (of_decide_eq_true (by kernel_rfl)) (by unfold Func.isWrapper; first | (rw [if_pos (by decide +kernel)]; kernel_rfl) | (rw [if_neg (by decide +kernel)]; exact ⟨rfl, rfl⟩))
    (fun os started H enc _ => lifted os started H enc)
theorem carded : Rows.GrantOnceCardSaid :=
  Claim7.holds_tied_plain_at .later [] [.data] true (true, "a73507d9e64ddeb40cd0b6f5e95b8fcf7eb3827ad66ffe9c318ddb86c6075fac") true
    proved (fun _ h => by cases h) (by kernel_rfl) (fun _ h => by cases h) grantOnce_row_tie rfl ⟨rfl, rfl⟩ (by kernel_rfl) rfl
    (fun f fn hf hfn => by
      obtain rfl : f = 3 := Option.some.inj ((show Program.funcNamed Tryd.prog "doorward/doorwardlaw28.GrantOnce" = some 3 by kernel_rfl).symm.trans hf) |>.symm
      obtain rfl : fn = Tryd.f3 := (Option.some.inj (Tryd.func3.symm.trans hfn)).symm
      exact ⟨by kernel_rfl, fun j t ht => by
        rw [Tryd.params3] at ht
        have hm : t ∈ [24, 25] := by simpa using Array.mem_of_getElem? ht
        have hall : ([24, 25].all fun u => !Program.wantsStandIn Tryd.prog u) = true := by kernel_rfl
        exact (show Program.wantsStandIn Tryd.prog t = false by simpa using List.all_eq_true.1 hall t hm)⟩)
    (by kernel_rfl)
end GrantOnce
theorem grantOnceProved : Rows.GrantOnceCardSaid := GrantOnce.carded
#print axioms grantOnceProved
end Go.Proofs.YtpmhgpjcladbkaaDoor
