/-
  THE LAW 'ReachBudget': a budget is enough just from places and edges together on, and a greater one changes nothing: doorwardlaw20.ReachBudget answers true, and what it is given reads as it did. No condition.
-/
import Derived.Test.YtenilfmlfldogaaGreatKReachBM
import Derived.Test.YtenilfmlfldogaaGreatKReachBR
import Derived.Test.YtenilfmlfldogaaGreatRows
import Derived.WalkKit
import Derived.ProofKit
import Derived.OpenShut
import Derived.Carry
import Derived.ChangeMaps5
set_option linter.unusedVariables false
set_option maxRecDepth 4000
namespace Go.Proofs.YtenilfmlfldogaaGreat
open Go.ChangeShapes Go.WideShapes Go.ChangeAt Go.RowKit Go.ChangeMaps
namespace ReachBudget
theorem contract (H : Type) (enc : TypeId × Value → H) (W : World) (base : Nat) (args : Array Value) (ds gs : List (DataW H)) (before : List MemPlace)
    (hval : ∀ (j : Nat) t v, Tryz.f9.params[j]? = some t → args[j]? = some v → Value.okWide Tryz.prog W .any base t v)
    (hW : DataW.Whole enc Tryz.prog Tryz.f9.params.toList Rows.reachBudgetSpec.vars false W args.toList ds gs before) :
    Calls Tryz.prog 9 args W fun e W' => ∃ v, e = .returned v ∧ Rows.reachBudgetSpec.post enc Tryz.prog Tryz.f9 false true false false W args v W' := by
  have hW' := hW
  obtain ⟨p, q, hA0, hV, rfl, hfz, hnd⟩ := hW
  have hA : DataW.TrodAll enc Tryz.prog W 0 (fun _ => true) true Tryz.f9.params.toList args.toList ds p := hA0
  rw [Tryz.params9] at hA hval
  obtain ⟨v0, v1, v2, v3, d0, d1, d2, d3, p0, p1, p2, p3, rfl, rfl, rfl, h0, h1, h2, h3⟩ := trodAll_four hA
  obtain ⟨cs0, rfl, f0, h0⟩ := cells_of_struct Tryz.underlying28 (hval 0 _ v0 rfl rfl) h0
  obtain ⟨w, rfl, hw⟩ := world_of h0
  obtain ⟨cs1, rfl, f1, h1⟩ := cells_of_struct Tryz.underlying30 (hval 1 _ v1 rfl rfl) h1
  obtain ⟨o1, o2, rfl, _, _⟩ := ref_of h1
  obtain ⟨rl, rfl, rfl, rfl, _⟩ := open_string Tryz.underlying9 (hval 2 _ v2 rfl rfl) h2
  obtain ⟨z3, rfl, m3, M3, w3⟩ := open_int Tryz.underlying3 (hval 3 _ v3 rfl rfl) h3
  have hs : Spec Tryz.prog 9 [.agg w.enc.toArray, .agg [.string o1, .string o2].toArray, .string rl, .int .i64 z3] (Rw W) [] fun v H' => v = .bool true ∧ H' = [] :=
    reachBudget_spec w _ hw ⟨o1, o2, rl⟩ z3
  refine (hs W ⟨by simp, by simp⟩ (fun b o hb => ⟨hb, by simp⟩)).mono fun e W' ⟨v, H', he, ⟨hv, hH⟩, _, hf⟩ => ?_
  subst he; subst hv; subst hH
  obtain ⟨rfl, rfl⟩ := trodVars_none hV
  exact ⟨_, rfl, post_law kids full (by rw [Tryz.params9]; decide +kernel) hW' rfl rfl rfl (fun _ _ _ => trodAll_cons_mk (shut_bool Tryz.underlying4 _) trodAll_mk0) hf⟩
set_option maxRecDepth 100000 in
theorem lifted (os : Os) (started : os.Started) (H : Type) (enc : TypeId × Value → H) :
    ReturnsInHanded {} Tryz.checked os 9 .any (Rows.reachBudgetSpec.pre6 enc Tryz.prog Tryz.f9 Rows.reachBudgetRow.domain false) (Rows.reachBudgetSpec.post enc Tryz.prog Tryz.f9 false true false false) := by
  refine returnsInHanded_of_change (C := Tryz.checked) own started (by kernel_rfl) Tryz.func9
    (ChangeSpec.witness6 (enc := enc) (C := Tryz.checked) false ⟨#[], #[  .agg #[.slice none 0 0, .slice none 0 0, .slice none 0 0],   .agg #[.string ⟨#[]⟩, .string ⟨#[]⟩],   .string ⟨#[]⟩,   .int .i64 0], []⟩ 8 (by kernel_rfl) (by kernel_rfl) (by kernel_rfl) (by kernel_rfl)) ?_
  intro W base args ds gs before hval hW _ _
  exact contract H enc W base args ds gs before hval hW
theorem fact1 : (Rows.reachBudgetRow.inPlace == Program.inPlace Tryz.pinned.checked.prog 9) = true := by kernel_rfl
theorem fact2 : (Rows.reachBudgetRow.unfollowed == Program.unfollowed Tryz.pinned.checked.prog 9) = true := by kernel_rfl
theorem fact3 : (Rows.reachBudgetRow.recurses == Program.recurses Tryz.pinned.checked.prog 9) = true := by kernel_rfl
theorem fact4 : (Rows.reachBudgetRow.named == Program.varsNamed Tryz.pinned.checked.prog 9) = true := by kernel_rfl
theorem fact5 : Program.funcNamed Tryz.pinned.checked.prog Rows.reachBudgetRow.func = some 9 := by kernel_rfl
theorem factA : laidOutB Tryz.pinned.checked.prog = true := by kernel_rfl
theorem factB : mapsRowed Tryz.pinned.checked.prog = true := by kernel_rfl
theorem factC : Program.stopsHeard Tryz.pinned.checked.prog = true := by kernel_rfl
theorem factD : Program.mayEnter Tryz.pinned.checked.prog = true := by kernel_rfl
theorem factE : (Rows.reachBudgetRow.lifted == Program.liftsFinal Tryz.pinned.checked.prog) = true := by kernel_rfl
theorem factF : (Program.make Tryz.pinned.checked.prog == some Rows.reachBudgetRow.make) = true := by kernel_rfl
theorem facts : joinedFacts Tryz.pinned.checked.prog 9 Tryz.f9 Rows.reachBudgetSpec Rows.reachBudgetRow = true := by
  unfold joinedFacts
  rw [fact1, fact2, fact3, fact4, factA, factB, factC, factD, factE, factF]
  kernel_rfl
theorem proved : Rows.ReachBudgetSaid :=
  OpenClaim.holds_of_wide 9 Tryz.f9 rfl rfl rfl rfl rfl rfl rfl ⟨rfl, rfl, rfl, rfl, rfl⟩ rfl rfl rfl rfl rfl fact5 Tryz.func9 facts
    (of_decide_eq_true (by kernel_rfl)) (by unfold Func.isWrapper; first | (rw [if_pos (by decide +kernel)]; kernel_rfl) | (rw [if_neg (by decide +kernel)]; exact ⟨rfl, rfl⟩))
    (fun os started H enc _ => lifted os started H enc)
end ReachBudget
theorem reachBudgetProved : Rows.ReachBudgetSaid := ReachBudget.proved
#print axioms reachBudgetProved
end Go.Proofs.YtenilfmlfldogaaGreat
