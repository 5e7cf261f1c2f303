/-
  THE LAW 'ReachOnce': no place is reached twice, each but the first is led to, and numbers never rise along what is led to: doorwardlaw20.ReachOnce answers true, and what it is given reads as it did. No condition.
-/
import Derived.Test.YtenilfmlfldogaaGreatKReachBM
import Derived.Test.YtenilfmlfldogaaGreatKReachBR
import Derived.Test.YtenilfmlfldogaaGreatRows
import Derived.WalkKit
import Derived.ProofKit
import Derived.OpenShut
import Derived.Carry
import Derived.ChangeMaps5
set_option linter.unusedVariables false
set_option maxRecDepth 4000
namespace Go.Proofs.YtenilfmlfldogaaGreat
open Go.ChangeShapes Go.WideShapes Go.ChangeAt Go.RowKit Go.ChangeMaps
namespace ReachOnce
theorem contract (H : Type) (enc : TypeId × Value → H) (W : World) (base : Nat) (args : Array Value) (ds gs : List (DataW H)) (before : List MemPlace)
    (hval : ∀ (j : Nat) t v, Tryz.f8.params[j]? = some t → args[j]? = some v → Value.okWide Tryz.prog W .any base t v)
    (hW : DataW.Whole enc Tryz.prog Tryz.f8.params.toList Rows.reachOnceSpec.vars false W args.toList ds gs before) :
    Calls Tryz.prog 8 args W fun e W' => ∃ v, e = .returned v ∧ Rows.reachOnceSpec.post enc Tryz.prog Tryz.f8 false true false false W args v W' := by
  have hW' := hW
  obtain ⟨p, q, hA0, hV, rfl, hfz, hnd⟩ := hW
  have hA : DataW.TrodAll enc Tryz.prog W 0 (fun _ => true) true Tryz.f8.params.toList args.toList ds p := hA0
  rw [Tryz.params8] at hA hval
  obtain ⟨v0, v1, v2, d0, d1, d2, p0, p1, p2, rfl, rfl, rfl, h0, h1, h2⟩ := trodAll_three hA
  obtain ⟨cs0, rfl, f0, h0⟩ := cells_of_struct Tryz.underlying28 (hval 0 _ v0 rfl rfl) h0
  obtain ⟨w, rfl, hw⟩ := world_of h0
  obtain ⟨cs1, rfl, f1, h1⟩ := cells_of_struct Tryz.underlying30 (hval 1 _ v1 rfl rfl) h1
  obtain ⟨o1, o2, rfl, _, _⟩ := ref_of h1
  obtain ⟨rl, rfl, rfl, rfl, _⟩ := open_string Tryz.underlying9 (hval 2 _ v2 rfl rfl) h2
  have hs : Spec Tryz.prog 8 [.agg w.enc.toArray, .agg [.string o1, .string o2].toArray, .string rl] (Rw W) [] fun v H' => v = .bool true ∧ H' = [] :=
    reachOnce_spec w _ hw ⟨o1, o2, rl⟩
  refine (hs W ⟨by simp, by simp⟩ (fun b o hb => ⟨hb, by simp⟩)).mono fun e W' ⟨v, H', he, ⟨hv, hH⟩, _, hf⟩ => ?_
  subst he; subst hv; subst hH
  obtain ⟨rfl, rfl⟩ := trodVars_none hV
  exact ⟨_, rfl, post_law kids full (by rw [Tryz.params8]; decide +kernel) hW' rfl rfl rfl (fun _ _ _ => trodAll_cons_mk (shut_bool Tryz.underlying4 _) trodAll_mk0) hf⟩
set_option maxRecDepth 100000 in
theorem lifted (os : Os) (started : os.Started) (H : Type) (enc : TypeId × Value → H) :
    ReturnsInHanded {} Tryz.checked os 8 .any (Rows.reachOnceSpec.pre6 enc Tryz.prog Tryz.f8 Rows.reachOnceRow.domain false) (Rows.reachOnceSpec.post enc Tryz.prog Tryz.f8 false true false false) := by
  refine returnsInHanded_of_change (C := Tryz.checked) own started (by kernel_rfl) Tryz.func8
    (ChangeSpec.witness6 (enc := enc) (C := Tryz.checked) false ⟨#[], #[  .agg #[.slice none 0 0, .slice none 0 0, .slice none 0 0],   .agg #[.string ⟨#[]⟩, .string ⟨#[]⟩],   .string ⟨#[]⟩], []⟩ 8 (by kernel_rfl) (by kernel_rfl) (by kernel_rfl) (by kernel_rfl)) ?_
  intro W base args ds gs before hval hW _ _
  exact contract H enc W base args ds gs before hval hW
theorem fact1 : (Rows.reachOnceRow.inPlace == Program.inPlace Tryz.pinned.checked.prog 8) = true := by kernel_rfl
theorem fact2 : (Rows.reachOnceRow.unfollowed == Program.unfollowed Tryz.pinned.checked.prog 8) = true := by kernel_rfl
theorem fact3 : (Rows.reachOnceRow.recurses == Program.recurses Tryz.pinned.checked.prog 8) = true := by kernel_rfl
theorem fact4 : (Rows.reachOnceRow.named == Program.varsNamed Tryz.pinned.checked.prog 8) = true := by kernel_rfl
theorem fact5 : Program.funcNamed Tryz.pinned.checked.prog Rows.reachOnceRow.func = some 8 := by kernel_rfl
theorem factA : laidOutB Tryz.pinned.checked.prog = true := by kernel_rfl
theorem factB : mapsRowed Tryz.pinned.checked.prog = true := by kernel_rfl
theorem factC : Program.stopsHeard Tryz.pinned.checked.prog = true := by kernel_rfl
theorem factD : Program.mayEnter Tryz.pinned.checked.prog = true := by kernel_rfl
theorem factE : (Rows.reachOnceRow.lifted == Program.liftsFinal Tryz.pinned.checked.prog) = true := by kernel_rfl
theorem factF : (Program.make Tryz.pinned.checked.prog == some Rows.reachOnceRow.make) = true := by kernel_rfl
theorem facts : joinedFacts Tryz.pinned.checked.prog 8 Tryz.f8 Rows.reachOnceSpec Rows.reachOnceRow = true := by
  unfold joinedFacts
  rw [fact1, fact2, fact3, fact4, factA, factB, factC, factD, factE, factF]
  kernel_rfl
theorem proved : Rows.ReachOnceSaid :=
  OpenClaim.holds_of_wide 8 Tryz.f8 rfl rfl rfl rfl rfl rfl rfl ⟨rfl, rfl, rfl, rfl, rfl⟩ rfl rfl rfl rfl rfl fact5 Tryz.func8 facts
    (of_decide_eq_true (by kernel_rfl)) (by unfold Func.isWrapper; first | (rw [if_pos (by decide +kernel)]; kernel_rfl) | (rw [if_neg (by decide +kernel)]; exact ⟨rfl, rfl⟩))
    (fun os started H enc _ => lifted os started H enc)
end ReachOnce
theorem reachOnceProved : Rows.ReachOnceSaid := ReachOnce.proved
#print axioms reachOnceProved
end Go.Proofs.YtenilfmlfldogaaGreat
