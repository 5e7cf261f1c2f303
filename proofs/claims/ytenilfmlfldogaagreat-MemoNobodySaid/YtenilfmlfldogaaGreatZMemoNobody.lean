/-
  THE LAW 'MemoNobody': without a memo Check is solve.Check, and a memo that no call made answers nothing: doorwardlaw24.MemoNobody answers true, and what it is given reads as it did. No condition.
-/
import Derived.Test.YtenilfmlfldogaaGreatKMemoNobodyL
import Derived.Test.YtenilfmlfldogaaGreatKMemoNobodyQ
import Derived.Test.YtenilfmlfldogaaGreatRows
import Derived.WalkKit
import Derived.ProofKit
import Derived.OpenShut
import Derived.Carry
import Derived.ChangeMaps5
set_option linter.unusedVariables false
set_option maxRecDepth 4000
namespace Go.Proofs.YtenilfmlfldogaaGreat
open Go.ChangeShapes Go.WideShapes Go.ChangeAt Go.RowKit Go.ChangeMaps
namespace MemoNobody
theorem contract (H : Type) (enc : TypeId × Value → H) (W : World) (base : Nat) (args : Array Value) (ds gs : List (DataW H)) (before : List MemPlace)
    (hval : ∀ (j : Nat) t v, Tryz.f4.params[j]? = some t → args[j]? = some v → Value.okWide Tryz.prog W .any base t v)
    (hW : DataW.Whole enc Tryz.prog Tryz.f4.params.toList Rows.memoNobodySpec.vars false W args.toList ds gs before) :
    Calls Tryz.prog 4 args W fun e W' => ∃ v, e = .returned v ∧ Rows.memoNobodySpec.post enc Tryz.prog Tryz.f4 false true false false W args v W' := by
  have hW' := hW
  obtain ⟨p, q, hA0, hV, rfl, hfz, hnd⟩ := hW
  have hA : DataW.TrodAll enc Tryz.prog W 0 (fun _ => true) true Tryz.f4.params.toList args.toList ds p := hA0
  rw [Tryz.params4] at hA hval
  obtain ⟨v0, v1, d0, d1, p0, p1, rfl, rfl, rfl, h0, h1⟩ := trodAll_two hA
  obtain ⟨cs0, rfl, f0, h0⟩ := cells_of_struct Tryz.underlying28 (hval 0 _ v0 rfl rfl) h0
  obtain ⟨w, rfl, hw⟩ := world_of h0
  obtain ⟨cs1, rfl, f1, h1⟩ := cells_of_struct Tryz.underlying64 (hval 1 _ v1 rfl rfl) h1
  obtain ⟨a, rfl, ha⟩ := ask_of h1
  have hs : Spec Tryz.prog 4 [.agg w.enc.toArray, .agg a.enc.toArray] (Rw W) [] fun v H' => v = .bool true ∧ H' = [] :=
    memoNobody_spec w a _ hw ha
  refine (hs W ⟨by simp, by simp⟩ (fun b o hb => ⟨hb, by simp⟩)).mono fun e W' ⟨v, H', he, ⟨hv, hH⟩, _, hf⟩ => ?_
  subst he; subst hv; subst hH
  obtain ⟨rfl, rfl⟩ := trodVars_none hV
  exact ⟨_, rfl, post_law kids full (by rw [Tryz.params4]; decide +kernel) hW' rfl rfl rfl (fun _ _ _ => trodAll_cons_mk (shut_bool Tryz.underlying4 _) trodAll_mk0) hf⟩
set_option maxRecDepth 100000 in
theorem lifted (os : Os) (started : os.Started) (H : Type) (enc : TypeId × Value → H) :
    ReturnsInHanded {} Tryz.checked os 4 .any (Rows.memoNobodySpec.pre6 enc Tryz.prog Tryz.f4 Rows.memoNobodyRow.domain false) (Rows.memoNobodySpec.post enc Tryz.prog Tryz.f4 false true false false) := by
  refine returnsInHanded_of_change (C := Tryz.checked) own started (by kernel_rfl) Tryz.func4
    (ChangeSpec.witness6 (enc := enc) (C := Tryz.checked) false ⟨#[], #[  .agg #[.slice none 0 0, .slice none 0 0, .slice none 0 0],   .agg #[.string ⟨#[]⟩, .string ⟨#[]⟩, .string ⟨#[]⟩, .string ⟨#[]⟩, .int .u64 0, .int .i64 0, .bool false, .int .i64 0, .slice none 0 0, .slice none 0 0, .slice none 0 0, .string ⟨#[]⟩, .string ⟨#[]⟩, .string ⟨#[]⟩, .string ⟨#[]⟩, .string ⟨#[]⟩, .string ⟨#[]⟩, .string ⟨#[]⟩, .int .u64 0, .bool false, .slice none 0 0, .slice none 0 0, .bool false]], []⟩ 8 (by kernel_rfl) (by kernel_rfl) (by kernel_rfl) (by kernel_rfl)) ?_
  intro W base args ds gs before hval hW _ _
  exact contract H enc W base args ds gs before hval hW
theorem fact1 : (Rows.memoNobodyRow.inPlace == Program.inPlace Tryz.pinned.checked.prog 4) = true := by kernel_rfl
theorem fact2 : (Rows.memoNobodyRow.unfollowed == Program.unfollowed Tryz.pinned.checked.prog 4) = true := by kernel_rfl
theorem fact3 : (Rows.memoNobodyRow.recurses == Program.recurses Tryz.pinned.checked.prog 4) = true := by kernel_rfl
theorem fact4 : (Rows.memoNobodyRow.named == Program.varsNamed Tryz.pinned.checked.prog 4) = true := by kernel_rfl
theorem fact5 : Program.funcNamed Tryz.pinned.checked.prog Rows.memoNobodyRow.func = some 4 := by kernel_rfl
theorem factA : laidOutB Tryz.pinned.checked.prog = true := by kernel_rfl
theorem factB : mapsRowed Tryz.pinned.checked.prog = true := by kernel_rfl
theorem factC : Program.stopsHeard Tryz.pinned.checked.prog = true := by kernel_rfl
theorem factD : Program.mayEnter Tryz.pinned.checked.prog = true := by kernel_rfl
theorem factE : (Rows.memoNobodyRow.lifted == Program.liftsFinal Tryz.pinned.checked.prog) = true := by kernel_rfl
theorem factF : (Program.make Tryz.pinned.checked.prog == some Rows.memoNobodyRow.make) = true := by kernel_rfl
theorem facts : joinedFacts Tryz.pinned.checked.prog 4 Tryz.f4 Rows.memoNobodySpec Rows.memoNobodyRow = true := by
  unfold joinedFacts
  rw [fact1, fact2, fact3, fact4, factA, factB, factC, factD, factE, factF]
  kernel_rfl
theorem proved : Rows.MemoNobodySaid :=
  OpenClaim.holds_of_wide 4 Tryz.f4 rfl rfl rfl rfl rfl rfl rfl ⟨rfl, rfl, rfl, rfl, rfl⟩ rfl rfl rfl rfl rfl fact5 Tryz.func4 facts
    (of_decide_eq_true (by kernel_rfl)) (by unfold Func.isWrapper; first | (rw [if_pos (by decide +kernel)]; kernel_rfl) | (rw [if_neg (by decide +kernel)]; exact ⟨rfl, rfl⟩))
    (fun os started H enc _ => lifted os started H enc)
end MemoNobody
theorem memoNobodyProved : Rows.MemoNobodySaid := MemoNobody.proved
#print axioms memoNobodyProved
end Go.Proofs.YtenilfmlfldogaaGreat
