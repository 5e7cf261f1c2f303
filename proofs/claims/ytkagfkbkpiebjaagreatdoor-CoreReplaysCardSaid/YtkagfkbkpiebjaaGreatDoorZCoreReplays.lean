/-
  THE LAW 'CoreReplays': who shows again what is used gets nothing, and what came of it is gone: doorwardlaw30.CoreReplays answers true for any calls, and what it is given reads as it did. No condition.
-/
import Derived.Test.YtkagfkbkpiebjaaGreatDoorKCoreReplaysS
import Derived.Test.YtkagfkbkpiebjaaGreatDoorKCoreReplaysV
import Derived.Test.YtkagfkbkpiebjaaGreatDoorKCoreReplaysW
import Derived.Test.YtkagfkbkpiebjaaGreatDoorRows
import Derived.Test.YtkagfkbkpiebjaaGreatDoorTie
import Derived.Test.YtkagfkbkpiebjaaGreatDoorCards
import Derived.SevenTiedAt
import Derived.LaidMore
import Derived.Stop.Joined
import Derived.WalkKit
import Derived.ProofKit
import Derived.OpenShut
import Derived.Carry
import Derived.ChangeMaps5
set_option linter.unusedVariables false
set_option maxRecDepth 4000
namespace Go.Proofs.YtkagfkbkpiebjaaGreatDoor
open Go.ChangeShapes Go.WideShapes Go.ChangeAt Go.RowKit Go.ChangeMaps
namespace CoreReplays
theorem contract (H : Type) (enc : TypeId × Value → H) (W : World) (base : Nat) (args : Array Value) (ds gs : List (DataW H)) (before : List MemPlace) (hL : laidMetH Tryz.prog doorL W)
    (hval : ∀ (j : Nat) t v, Tryz.f4.params[j]? = some t → args[j]? = some v → Value.okWide Tryz.prog W .any base t v)
    (hW : DataW.Whole enc Tryz.prog Tryz.f4.params.toList Rows.coreReplaysSpec.vars false W args.toList ds gs before) :
    Calls Tryz.prog 4 args W fun e W' => ∃ v, e = .returned v ∧ Rows.coreReplaysSpec.post enc Tryz.prog Tryz.f4 false true false false W args v W' := by
  have hW' := hW
  obtain ⟨p, q, hA0, hV, rfl, hfz, hnd⟩ := hW
  have hA : DataW.TrodAll enc Tryz.prog W 0 (fun _ => true) true Tryz.f4.params.toList args.toList ds p := hA0
  rw [Tryz.params4] at hA hval
  obtain ⟨v0, v1, v2, d0, d1, d2, p0, p1, p2, rfl, rfl, rfl, h0, h1, h2⟩ := trodAll_three hA
  obtain ⟨f0, h0⟩ := slice_cells Tryz.underlying22 (hval 0 _ v0 rfl rfl) h0
  obtain ⟨vd, ds, e0, hS, hD⟩ := RS.ofCells (sz := 16) (en := encD) (D := fun d : OD => OR (Rw W) d.1 d.2) Tryz.underlying22 (by kernel_rfl) (by omega) h0 fun m cs x hx => by
    obtain ⟨w, c, rfl, hd⟩ := ocall_of hx
    exact ⟨rfl, hd.ones, (w, c), rfl, hd⟩
  cases e0
  obtain ⟨f1, h1⟩ := slice_cells Tryz.underlying31 (hval 1 _ v1 rfl rfl) h1
  obtain ⟨f2, h2⟩ := slice_cells Tryz.underlying31 (hval 2 _ v2 rfl rfl) h2
  obtain ⟨va, la, e1, hA⟩ := bytes_of h1
  obtain ⟨vr, lr, e2, hR⟩ := bytes_of h2
  cases e1
  cases e2
  have hg := words_of hL
  have hs : Spec Tryz.prog 4 [v0, v1, v2] (Rw W) [] fun v H' => v = .bool true ∧ H' = [] :=
    oreplays_spec v0 v1 v2 ds la lr _ hS hD hA hR hg
  refine (hs W ⟨by simp, by simp⟩ (fun b o hb => ⟨hb, by simp⟩)).mono fun e W' ⟨v, H', he, ⟨hv, hH⟩, _, hf⟩ => ?_
  subst he; subst hv; subst hH
  obtain ⟨rfl, rfl⟩ := trodVars_none hV
  exact ⟨_, rfl, post_law kids full (by rw [Tryz.params4]; decide +kernel) hW' rfl rfl rfl (fun _ _ _ => trodAll_cons_mk (shut_bool Tryz.underlying4 _) trodAll_mk0) hf⟩
set_option maxRecDepth 100000 in
theorem lifted (os : Os) (started : os.Started) (H : Type) (enc : TypeId × Value → H) :
    ReturnsInHanded {} Tryz.checked os 4 .any (fun w args => (Rows.coreReplaysSpec.pre enc Tryz.prog Tryz.f4 [] false w args ∧ laidMetH Tryz.prog doorL w) ∧ sizedMet enc Tryz.prog Tryz.f4 (OpenSpec.ofChange Rows.coreReplaysSpec) false w args)
      (Rows.coreReplaysSpec.post enc Tryz.prog Tryz.f4 false true false false) := by
  refine returnsInHanded_of_change_and (C := Tryz.checked) (X := fun w _ => laidMetH Tryz.prog doorL w) (fun _ _ _ hh h => h.of_heap hh) own started (by kernel_rfl) Tryz.func4
    (ChangeSpec.witness_shaped (enc := enc) (C := Tryz.checked) (os := os) (X := fun w _ => laidMetH Tryz.prog doorL w) false (World.doorLaid Tryz.prog 400 os) #[  .slice none 0 0,   .slice none 0 0,   .slice none 0 0] 8 rfl (World.shaped_of_RefB (by kernel_rfl) (by kernel_rfl)) (by kernel_rfl) (by kernel_rfl) (by kernel_rfl) (door_met os _)) ?_
  intro W base args ds gs before hval hW _ _ hL _
  exact contract H enc W base args ds gs before hL hval hW
theorem fact1 : (Rows.coreReplaysRow.inPlace == Program.inPlace Tryz.pinned.checked.prog 4) = true := by kernel_rfl
theorem fact2 : (Rows.coreReplaysRow.unfollowed == Program.unfollowed Tryz.pinned.checked.prog 4) = true := by kernel_rfl
theorem fact3 : (Rows.coreReplaysRow.recurses == Program.recurses Tryz.pinned.checked.prog 4) = true := by kernel_rfl
theorem fact4 : (Rows.coreReplaysRow.named == Program.varsNamed Tryz.pinned.checked.prog 4) = true := by kernel_rfl
theorem fact5 : Program.funcNamed Tryz.pinned.checked.prog Rows.coreReplaysRow.func = some 4 := by kernel_rfl
theorem facts : joinedFacts Tryz.pinned.checked.prog 4 Tryz.f4 Rows.coreReplaysSpec Rows.coreReplaysRow = true := by
  unfold joinedFacts
  rw [fact1, fact2, fact3, fact4]
  kernel_rfl
theorem proved : Rows.CoreReplaysSaid :=
  OpenClaim.holds_of_wide 4 Tryz.f4 rfl rfl rfl rfl rfl rfl rfl ⟨rfl, rfl, rfl, rfl, rfl⟩ rfl rfl rfl rfl rfl fact5 Tryz.func4 facts
    (of_decide_eq_true (by kernel_rfl)) (by unfold Func.isWrapper; first | (rw [if_pos (by decide +kernel)]; kernel_rfl) | (rw [if_neg (by decide +kernel)]; exact ⟨rfl, rfl⟩))
    (fun os started H enc _ => lifted os started H enc)
theorem carded : Rows.CoreReplaysCardSaid :=
  Claim7.holds_tied_plain_at .later [] [.data] true (true, "adffadc04a793681b84e5d387d97fabeb72c835b5d35ff536d37093812ca0722") true
    proved (fun _ h => by cases h) (by kernel_rfl) (fun _ h => by cases h) coreReplays_row_tie rfl ⟨rfl, rfl⟩ (by kernel_rfl) rfl
    (fun f fn hf hfn => by
      obtain rfl : f = 4 := Option.some.inj ((show Program.funcNamed Tryz.prog "doorward/doorwardlaw30.CoreReplays" = some 4 by kernel_rfl).symm.trans hf) |>.symm
      obtain rfl : fn = Tryz.f4 := (Option.some.inj (Tryz.func4.symm.trans hfn)).symm
      exact ⟨by kernel_rfl, fun j t ht => by
        rw [Tryz.params4] at ht
        have hm : t ∈ [22, 31, 31] := by simpa using Array.mem_of_getElem? ht
        have hall : ([22, 31, 31].all fun u => !Program.wantsStandIn Tryz.prog u) = true := by kernel_rfl
        exact (show Program.wantsStandIn Tryz.prog t = false by simpa using List.all_eq_true.1 hall t hm)⟩)
    (by kernel_rfl)
end CoreReplays
theorem coreReplaysProved : Rows.CoreReplaysCardSaid := CoreReplays.carded
#print axioms coreReplaysProved
end Go.Proofs.YtkagfkbkpiebjaaGreatDoor
