/-
  THE LAW 'ExpandTells': what any object's relation in any world is made of, as text, is what the document tells, or why that is not told: doorwardlaw22.ExpandTells answers true, and what it is given reads as it did. No condition.
-/
import Derived.Test.YtenilfmlfldogaaGreatKExpandTellsL
import Derived.Test.YtenilfmlfldogaaGreatKExpandTellsP
import Derived.Test.YtenilfmlfldogaaGreatKExpandTellsQ
import Derived.Test.YtenilfmlfldogaaGreatRows
import Derived.WalkKit
import Derived.ProofKit
import Derived.OpenShut
import Derived.Carry
import Derived.ChangeMaps5
import Derived.SizedLaws
set_option linter.unusedVariables false
set_option maxRecDepth 4000
namespace Go.Proofs.YtenilfmlfldogaaGreat
open Go.ChangeShapes Go.WideShapes Go.ChangeAt Go.RowKit Go.ChangeMaps
namespace ExpandTells
theorem contract (H : Type) (enc : TypeId × Value → H) (W : World) (base : Nat) (args : Array Value) (ds gs : List (DataW H)) (before : List MemPlace) (hz : (DataW.weightsEach Tryz.prog (Tryz.f3.params.toList ++ Rows.expandTellsSpec.plain.varTypes Tryz.prog) (ds ++ gs)).all (· ≤ reachBytes) = true)
    (hval : ∀ (j : Nat) t v, Tryz.f3.params[j]? = some t → args[j]? = some v → Value.okWide Tryz.prog W .any base t v)
    (hW : DataW.Whole enc Tryz.prog Tryz.f3.params.toList Rows.expandTellsSpec.vars false W args.toList ds gs before) :
    Calls Tryz.prog 3 args W fun e W' => ∃ v, e = .returned v ∧ Rows.expandTellsSpec.post enc Tryz.prog Tryz.f3 false true false false W args v W' := by
  have hW' := hW
  obtain ⟨p, q, hA0, hV, rfl, hfz, hnd⟩ := hW
  have hA : DataW.TrodAll enc Tryz.prog W 0 (fun _ => true) true Tryz.f3.params.toList args.toList ds p := hA0
  rw [Tryz.params3] at hA hval hz
  obtain ⟨v0, v1, v2, v3, v4, d0, d1, d2, d3, d4, p0, p1, p2, p3, p4, rfl, rfl, rfl, h0, h1, h2, h3, h4⟩ := trodAll_five hA
  have hzj := fun (j : Nat) (t : TypeId) (d : DataW H) ht hd n hn => (by simpa using List.all_eq_true.1 hz n (DataW.weights_mem_each (j := j) (t := t) (d := d) ht hd n hn) : n ≤ reachBytes)
  obtain ⟨cs0, rfl, f0, h0⟩ := cells_of_struct Tryz.underlying28 (hval 0 _ v0 rfl rfl) h0
  obtain ⟨w, rfl, hw⟩ := world_of h0
  obtain ⟨cs1, rfl, f1, h1⟩ := cells_of_struct Tryz.underlying30 (hval 1 _ v1 rfl rfl) h1
  obtain ⟨o1, o2, rfl, q1, q2⟩ := ref_sized h1 (hzj 1 _ d1 rfl rfl)
  obtain ⟨rl, rfl, rfl, rfl, _⟩ := open_string Tryz.underlying9 (hval 2 _ v2 rfl rfl) h2
  have q3 := str_sized (hzj 2 _ _ rfl rfl)
  obtain ⟨z3, rfl, m3, M3, w3⟩ := open_int Tryz.underlying31 (hval 3 _ v3 rfl rfl) h3
  obtain ⟨z4, rfl, m4, M4, w4⟩ := open_int Tryz.underlying3 (hval 4 _ v4 rfl rfl) h4
  have hs : Spec Tryz.prog 3 [.agg w.enc.toArray, .agg [.string o1, .string o2].toArray, .string rl, .int .u64 z3, .int .i64 z4] (Rw W) [] fun v H' => v = .bool true ∧ H' = [] :=
    expandTells_spec w _ hw ⟨o1, o2, rl⟩ ⟨q1, q2, q3⟩ z3 (wf_u64 w3) z4 (wf_i64 w4)
  refine (hs W ⟨by simp, by simp⟩ (fun b o hb => ⟨hb, by simp⟩)).mono fun e W' ⟨v, H', he, ⟨hv, hH⟩, _, hf⟩ => ?_
  subst he; subst hv; subst hH
  obtain ⟨rfl, rfl⟩ := trodVars_none hV
  exact ⟨_, rfl, post_law kids full (by rw [Tryz.params3]; decide +kernel) hW' rfl rfl rfl (fun _ _ _ => trodAll_cons_mk (shut_bool Tryz.underlying4 _) trodAll_mk0) hf⟩
set_option maxRecDepth 100000 in
theorem lifted (os : Os) (started : os.Started) (H : Type) (enc : TypeId × Value → H) :
    ReturnsInHanded {} Tryz.checked os 3 .any (Rows.expandTellsSpec.pre6 enc Tryz.prog Tryz.f3 Rows.expandTellsRow.domain false) (Rows.expandTellsSpec.post enc Tryz.prog Tryz.f3 false true false false) := by
  refine returnsInHanded_of_change_sized (C := Tryz.checked) own started (by kernel_rfl) Tryz.func3
    (ChangeSpec.witness6 (enc := enc) (C := Tryz.checked) false ⟨#[], #[  .agg #[.slice none 0 0, .slice none 0 0, .slice none 0 0],   .agg #[.string ⟨#[]⟩, .string ⟨#[]⟩],   .string ⟨#[]⟩,   .int .u64 0,   .int .i64 0], []⟩ 8 (by kernel_rfl) (by kernel_rfl) (by kernel_rfl) (by kernel_rfl)) ?_
  intro W base args ds gs before hval hW _ hz _
  exact contract H enc W base args ds gs before hz hval hW
theorem fact1 : (Rows.expandTellsRow.inPlace == Program.inPlace Tryz.pinned.checked.prog 3) = true := by kernel_rfl
theorem fact2 : (Rows.expandTellsRow.unfollowed == Program.unfollowed Tryz.pinned.checked.prog 3) = true := by kernel_rfl
theorem fact3 : (Rows.expandTellsRow.recurses == Program.recurses Tryz.pinned.checked.prog 3) = true := by kernel_rfl
theorem fact4 : (Rows.expandTellsRow.named == Program.varsNamed Tryz.pinned.checked.prog 3) = true := by kernel_rfl
theorem fact5 : Program.funcNamed Tryz.pinned.checked.prog Rows.expandTellsRow.func = some 3 := by kernel_rfl
theorem factA : laidOutB Tryz.pinned.checked.prog = true := by kernel_rfl
theorem factB : mapsRowed Tryz.pinned.checked.prog = true := by kernel_rfl
theorem factC : Program.stopsHeard Tryz.pinned.checked.prog = true := by kernel_rfl
theorem factD : Program.mayEnter Tryz.pinned.checked.prog = true := by kernel_rfl
theorem factE : (Rows.expandTellsRow.lifted == Program.liftsFinal Tryz.pinned.checked.prog) = true := by kernel_rfl
theorem factF : (Program.make Tryz.pinned.checked.prog == some Rows.expandTellsRow.make) = true := by kernel_rfl
theorem facts : joinedFacts Tryz.pinned.checked.prog 3 Tryz.f3 Rows.expandTellsSpec Rows.expandTellsRow = true := by
  unfold joinedFacts
  rw [fact1, fact2, fact3, fact4, factA, factB, factC, factD, factE, factF]
  kernel_rfl
theorem proved : Rows.ExpandTellsSaid :=
  OpenClaim.holds_of_wide 3 Tryz.f3 rfl rfl rfl rfl rfl rfl rfl ⟨rfl, rfl, rfl, rfl, rfl⟩ rfl rfl rfl rfl rfl fact5 Tryz.func3 facts
    (of_decide_eq_true (by kernel_rfl)) (by unfold Func.isWrapper; first | (rw [if_pos (by decide +kernel)]; kernel_rfl) | (rw [if_neg (by decide +kernel)]; exact ⟨rfl, rfl⟩))
    (fun os started H enc _ => lifted os started H enc)
end ExpandTells
theorem expandTellsProved : Rows.ExpandTellsSaid := ExpandTells.proved
#print axioms expandTellsProved
end Go.Proofs.YtenilfmlfldogaaGreat
