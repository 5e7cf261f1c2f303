/-
  THE LAW 'GrantLoads': which consents and codes are a book's, and that it has just these: doorwardlaw28.GrantLoads answers true, and what it is given reads as it did. No condition.
-/
import Derived.Test.YtpmhgpjcladbkaaGreatDoorKGrantLoadsQ
import Derived.Test.YtpmhgpjcladbkaaGreatDoorKGrantLoadsT
import Derived.Test.YtpmhgpjcladbkaaGreatDoorKGrantLoadsU
import Derived.Test.YtpmhgpjcladbkaaGreatDoorRows
import Derived.Test.YtpmhgpjcladbkaaGreatDoorTie
import Derived.Test.YtpmhgpjcladbkaaGreatDoorCards
import Derived.SevenTiedAt
import Derived.LaidMore
import Derived.Stop.Joined
import Derived.WalkKit
import Derived.ProofKit
import Derived.OpenShut
import Derived.Carry
import Derived.ChangeMaps5
set_option linter.unusedVariables false
set_option maxRecDepth 4000
namespace Go.Proofs.YtpmhgpjcladbkaaGreatDoor
open Go.ChangeShapes Go.WideShapes Go.ChangeAt Go.RowKit Go.ChangeMaps
namespace GrantLoads
theorem contract (H : Type) (enc : TypeId × Value → H) (W : World) (base : Nat) (args : Array Value) (ds gs : List (DataW H)) (before : List MemPlace) (hL : laidMetH Tryz.prog doorL W)
    (hval : ∀ (j : Nat) t v, Tryz.f3.params[j]? = some t → args[j]? = some v → Value.okWide Tryz.prog W .any base t v)
    (hW : DataW.Whole enc Tryz.prog Tryz.f3.params.toList Rows.grantLoadsSpec.vars false W args.toList ds gs before) :
    Calls Tryz.prog 3 args W fun e W' => ∃ v, e = .returned v ∧ Rows.grantLoadsSpec.post enc Tryz.prog Tryz.f3 false true false false W args v W' := by
  have hW' := hW
  obtain ⟨p, q, hA0, hV, rfl, hfz, hnd⟩ := hW
  have hA : DataW.TrodAll enc Tryz.prog W 0 (fun _ => true) true Tryz.f3.params.toList args.toList ds p := hA0
  rw [Tryz.params3] at hA hval
  obtain ⟨v0, v1, d0, d1, p0, p1, rfl, rfl, rfl, h0, h1⟩ := trodAll_two hA
  obtain ⟨f0, h0⟩ := slice_cells Tryz.underlying22 (hval 0 _ v0 rfl rfl) h0
  obtain ⟨va, la, e0, hS, hD⟩ := RS.ofCells (sz := 3) (en := encN) (D := fun p : NP => NpR (Rw W) p) Tryz.underlying22 (by kernel_rfl) (by omega) h0 fun m cs x hx => by
    obtain ⟨p, rfl, hp⟩ := gcon_of hx
    exact ⟨rfl, hp.ones, p, rfl, hp⟩
  cases e0
  obtain ⟨f1, h1⟩ := slice_cells Tryz.underlying23 (hval 1 _ v1 rfl rfl) h1
  obtain ⟨vb, lb, e1, hS2, hD2⟩ := RS.ofCells (sz := 9) (en := encG) (D := fun p : GP => CodR (Rw W) p) Tryz.underlying23 (by kernel_rfl) (by omega) h1 fun m cs x hx => by
    obtain ⟨p, rfl, hp⟩ := gcod_of hx
    exact ⟨rfl, hp.ones, p, rfl, hp⟩
  cases e1
  have hg := words_of hL
  have hs : Spec Tryz.prog 3 [v0, v1] (Rw W) [] fun v H' => v = .bool true ∧ H' = [] :=
    gloads_spec v0 la v1 lb _ hS hD hS2 hD2 hg
  refine (hs W ⟨by simp, by simp⟩ (fun b o hb => ⟨hb, by simp⟩)).mono fun e W' ⟨v, H', he, ⟨hv, hH⟩, _, hf⟩ => ?_
  subst he; subst hv; subst hH
  obtain ⟨rfl, rfl⟩ := trodVars_none hV
  exact ⟨_, rfl, post_law kids full (by rw [Tryz.params3]; decide +kernel) hW' rfl rfl rfl (fun _ _ _ => trodAll_cons_mk (shut_bool Tryz.underlying4 _) trodAll_mk0) hf⟩
set_option maxRecDepth 100000 in
theorem lifted (os : Os) (started : os.Started) (H : Type) (enc : TypeId × Value → H) :
    ReturnsInHanded {} Tryz.checked os 3 .any (fun w args => (Rows.grantLoadsSpec.pre enc Tryz.prog Tryz.f3 [] false w args ∧ laidMetH Tryz.prog doorL w) ∧ sizedMet enc Tryz.prog Tryz.f3 (OpenSpec.ofChange Rows.grantLoadsSpec) false w args)
      (Rows.grantLoadsSpec.post enc Tryz.prog Tryz.f3 false true false false) := by
  refine returnsInHanded_of_change_and (C := Tryz.checked) (X := fun w _ => laidMetH Tryz.prog doorL w) (fun _ _ _ hh h => h.of_heap hh) own started (by kernel_rfl) Tryz.func3
    (ChangeSpec.witness_shaped (enc := enc) (C := Tryz.checked) (os := os) (X := fun w _ => laidMetH Tryz.prog doorL w) false (World.doorLaid Tryz.prog 400 os) #[  .slice none 0 0,   .slice none 0 0] 8 rfl (World.shaped_of_RefB (by kernel_rfl) (by kernel_rfl)) (by kernel_rfl) (by kernel_rfl) (by kernel_rfl) (door_met os _)) ?_
  intro W base args ds gs before hval hW _ _ hL _
  exact contract H enc W base args ds gs before hL hval hW
theorem fact1 : (Rows.grantLoadsRow.inPlace == Program.inPlace Tryz.pinned.checked.prog 3) = true := by kernel_rfl
theorem fact2 : (Rows.grantLoadsRow.unfollowed == Program.unfollowed Tryz.pinned.checked.prog 3) = true := by kernel_rfl
theorem fact3 : (Rows.grantLoadsRow.recurses == Program.recurses Tryz.pinned.checked.prog 3) = true := by kernel_rfl
theorem fact4 : (Rows.grantLoadsRow.named == Program.varsNamed Tryz.pinned.checked.prog 3) = true := by kernel_rfl
theorem fact5 : Program.funcNamed Tryz.pinned.checked.prog Rows.grantLoadsRow.func = some 3 := by kernel_rfl
theorem facts : joinedFacts Tryz.pinned.checked.prog 3 Tryz.f3 Rows.grantLoadsSpec Rows.grantLoadsRow = true := by
  unfold joinedFacts
  rw [fact1, fact2, fact3, fact4]
  kernel_rfl
theorem proved : Rows.GrantLoadsSaid :=
  OpenClaim.holds_of_wide 3 Tryz.f3 rfl rfl rfl rfl rfl rfl rfl ⟨rfl, rfl, rfl, rfl, rfl⟩ rfl rfl rfl rfl rfl fact5 Tryz.func3 facts
    (of_decide_eq_true (by kernel_rfl)) (by unfold Func.isWrapper; first | (rw [if_pos (by decide +kernel)]; kernel_rfl) | (rw [if_neg (by decide +kernel)]; exact ⟨rfl, rfl⟩))
    (fun os started H enc _ => lifted os started H enc)
theorem carded : Rows.GrantLoadsCardSaid :=
  Claim7.holds_tied_plain_at .later [] [.data] true (true, "d4facdf08609448b93698569153634b856768bd8a6bd2e6f5117d8c1c247d3f3") true
    proved (fun _ h => by cases h) (by kernel_rfl) (fun _ h => by cases h) grantLoads_row_tie rfl ⟨rfl, rfl⟩ (by kernel_rfl) rfl
    (fun f fn hf hfn => by
      obtain rfl : f = 3 := Option.some.inj ((show Program.funcNamed Tryz.prog "doorward/doorwardlaw28.GrantLoads" = some 3 by kernel_rfl).symm.trans hf) |>.symm
      obtain rfl : fn = Tryz.f3 := (Option.some.inj (Tryz.func3.symm.trans hfn)).symm
      exact ⟨by kernel_rfl, fun j t ht => by
        rw [Tryz.params3] at ht
        have hm : t ∈ [22, 23] := by simpa using Array.mem_of_getElem? ht
        have hall : ([22, 23].all fun u => !Program.wantsStandIn Tryz.prog u) = true := by kernel_rfl
        exact (show Program.wantsStandIn Tryz.prog t = false by simpa using List.all_eq_true.1 hall t hm)⟩)
    (by kernel_rfl)
end GrantLoads
theorem grantLoadsProved : Rows.GrantLoadsCardSaid := GrantLoads.carded
#print axioms grantLoadsProved
end Go.Proofs.YtpmhgpjcladbkaaGreatDoor
