/-
  THE LAW 'MemoPlays': whatever the size and the steps, doorwardlaw24.MemoPlays answers true, and what it is given reads as it did. No condition.
-/
import Derived.Test.YthflndnbdgelnaaMemoJ
import Derived.Test.YthflndnbdgelnaaEngE
import Derived.Test.YthflndnbdgelnaaRows
import Derived.WalkKit
import Derived.ProofKit
import Derived.OpenShut
set_option linter.unusedVariables false
namespace Go.Proofs.Ythflndnbdgelnaa
open Go.ChangeShapes Go.WideShapes Go.ChangeAt Go.RowKit

theorem own : ownKnob Try.prog.godebug = none := by kernel_rfl
theorem kids : Kids Try.prog (· < Try.prog.types.size) := kids_rows (by kernel_rfl) (by kernel_rfl)
theorem full : ∀ t e, t < Try.prog.types.size → Try.prog.underlying t = some (.slice e) → 0 < Try.prog.cellsOf e := slices_full_of Try.prog (by kernel_rfl)
theorem sh30 : ShT Try.prog 30 [.i .u64] := ShT.int fU30 (by kernel_rfl)
theorem sh3 : ShT Try.prog 3 [.i .i64] := ShT.int fU3 (by kernel_rfl)
theorem sh4 : ShT Try.prog 4 [.b] := ShT.bool fU4 (by kernel_rfl)
theorem sh9 : ShT Try.prog 9 [.s] := ShT.str fU9 (by kernel_rfl)
theorem sh32 : ShT Try.prog 32 [.s, .s] := ShT.struct Try.underlying32 (by kernel_rfl) (ShFs.cons sh9 (ShFs.cons sh9 ShFs.nil))
theorem sh34 : ShT Try.prog 34 [.i .u64, .i .i64, .s, .s, .s, .s] := ShT.struct Try.underlying34 (by kernel_rfl) (ShFs.cons sh30 (ShFs.cons sh3 (ShFs.cons sh32 (ShFs.cons sh9 (ShFs.cons sh9 ShFs.nil)))))
theorem sh36 : ShT Try.prog 36 [.i .i64, .i .u64, .i .i64, .s, .s, .s, .s, .b, .i .u64] := ShT.struct Try.underlying36 (by kernel_rfl) (ShFs.cons sh3 (ShFs.cons sh34 (ShFs.cons sh4 (ShFs.cons sh30 ShFs.nil))))

theorem ck_i {k : IntKind} {v : Value} (h : ckOf (.i k) v) : ∃ n, v = .int k n := by
  cases v <;> simp_all [ckOf]
theorem ck_s {v : Value} (h : ckOf .s v) : ∃ n, v = .string n := by
  cases v <;> simp_all [ckOf]
theorem ck_b {v : Value} (h : ckOf .b v) : ∃ n, v = .bool n := by
  cases v <;> simp_all [ckOf]
theorem stp_of {cs : List Value} (h : HasK [.i .i64, .i .u64, .i .i64, .s, .s, .s, .s, .b, .i .u64] cs) : ∃ z : Stp, z.enc = cs := by
  match cs, h with
  | [a, b, c, d, e, f, g, i, j], h =>
    obtain ⟨h1, h2, h3, h4, h5, h6, h7, h8, h9, _⟩ := h
    obtain ⟨a, rfl⟩ := ck_i h1
    obtain ⟨b, rfl⟩ := ck_i h2
    obtain ⟨c, rfl⟩ := ck_i h3
    obtain ⟨d, rfl⟩ := ck_s h4
    obtain ⟨e, rfl⟩ := ck_s h5
    obtain ⟨f, rfl⟩ := ck_s h6
    obtain ⟨g, rfl⟩ := ck_s h7
    obtain ⟨i, rfl⟩ := ck_b h8
    obtain ⟨j, rfl⟩ := ck_i h9
    exact ⟨⟨a, ⟨b, c, d, e, f, g⟩, i, j⟩, rfl⟩

theorem contract (H : Type) (enc : TypeId × Value → H) (W : World) (base : Nat) (args : Array Value) (ds gs : List (DataW H)) (before : List MemPlace)
    (hval : ∀ (j : Nat) t v, Try.f3.params[j]? = some t → args[j]? = some v → Value.okWide Try.prog W .any base t v)
    (hW : DataW.Whole enc Try.prog Try.f3.params.toList Rows.memoPlaysSpec.vars false W args.toList ds gs before) :
    Calls Try.prog 3 args W fun e W' => ∃ v, e = .returned v ∧ Rows.memoPlaysSpec.post enc Try.prog Try.f3 false true false false W args v W' := by
  have hW' := hW
  obtain ⟨p, q, hA0, hV, rfl, hfz, hnd⟩ := hW
  have hA : DataW.TrodAll enc Try.prog W 0 (fun _ => true) true Try.f3.params.toList args.toList ds p := hA0
  rw [Try.params3] at hA hval
  obtain ⟨v0, v1, d0, d1, p0, p1, rfl, rfl, rfl, h0, h1⟩ := trodAll_two hA
  obtain ⟨n, rfl, _, _, w0⟩ := open_int Try.underlying3 (hval 0 3 v0 rfl rfl) h0
  obtain ⟨ss, hS⟩ := RS.ofTrod (sz := 9) (en := Stp.enc) Try.underlying22 sh36.n (by omega) (hval 1 22 v1 rfl rfl) h1 fun m cs x hx => by
    have hk := sh36.h enc W 0 _ true m cs x hx
    exact ⟨hk.length, hk.ones, stp_of hk⟩
  have hs : Spec Try.prog 3 [.int .i64 n, v1] (Rw W) [] fun v H' => v = .bool true ∧ H' = [] := by
    rcases Int.lt_or_le n 0 with h | h
    · exact plays_bad n v1 ss _ hS (.inl h)
    · rcases Int.lt_or_le 65536 n with h' | h'
      · exact plays_bad n v1 ss _ hS (.inr h')
      · obtain ⟨m, rfl⟩ := Int.eq_ofNat_of_zero_le h
        exact plays_ok m v1 ss _ hS (by omega)
  refine (hs W ⟨by simp, by simp⟩ (fun b o hb => ⟨hb, by simp⟩)).mono fun e W' ⟨v, H', he, ⟨hv, hH⟩, _, hf⟩ => ?_
  subst he; subst hv; subst hH
  obtain ⟨rfl, rfl⟩ := trodVars_none hV
  exact ⟨_, rfl, post_law kids full (by rw [Try.params3]; decide +kernel) hW' rfl rfl rfl (fun _ _ _ => trodAll_cons_mk (shut_bool Try.underlying4 _) trodAll_mk0) hf⟩

set_option maxRecDepth 100000 in
theorem lifted (os : Os) (started : os.Started) (H : Type) (enc : TypeId × Value → H) :
    ReturnsInHanded {} Try.checked os 3 .any (Rows.memoPlaysSpec.pre6 enc Try.prog Try.f3 Rows.memoPlaysRow.domain false) (Rows.memoPlaysSpec.post enc Try.prog Try.f3 false true false false) := by
  refine returnsInHanded_of_change (C := Try.checked) own started (by kernel_rfl) Try.func3
    (ChangeSpec.witness6 (enc := enc) (C := Try.checked) false ⟨#[], #[.int .i64 0, .slice none 0 0], []⟩ 8 (by kernel_rfl) (by kernel_rfl) (by kernel_rfl) (by kernel_rfl)) ?_
  intro W base args ds gs before hval hW _ _
  exact contract H enc W base args ds gs before hval hW

theorem proved : Rows.MemoPlaysSaid :=
  OpenClaim.holds_of_wide 3 Try.f3 rfl rfl rfl rfl rfl rfl rfl ⟨rfl, rfl, rfl, rfl, rfl⟩ rfl rfl rfl rfl rfl (by kernel_rfl) Try.func3 (by kernel_rfl)
    (of_decide_eq_true (by kernel_rfl)) (by unfold Func.isWrapper; first | (rw [if_pos (by decide +kernel)]; kernel_rfl) | (rw [if_neg (by decide +kernel)]; exact ⟨rfl, rfl⟩))
    (fun os started H enc _ => lifted os started H enc)
#print axioms proved
end Go.Proofs.Ythflndnbdgelnaa
