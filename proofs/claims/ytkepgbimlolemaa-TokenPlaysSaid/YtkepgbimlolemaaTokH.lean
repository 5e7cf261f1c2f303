/- Tokens: which are a vault's: Load, the document's Right. No condition. -/
import Derived.Test.YtkepgbimlolemaaTokG
import Derived.Test.YtkepgbimlolemaaTokF
import Derived.Test.YtkepgbimlolemaaAsc
set_option linter.unusedVariables false
set_option maxRecDepth 4000
namespace Go.Proofs.Ytkepgbimlolemaa
def stepQ (ts : List Tok) (last : Int) (i : Nat) : Bool := match ts[i]? with
  | none => false
  | some t => (rightB t last && !(t.used && t.kind == 1)) && (i == 0 || match ts[i - 1]? with
    | none => false
    | some u => sLt u.text t.text)
def rightL (ts : List Tok) (last : Int) : Bool := decide (ts.length ≤ 4096) && decide (0 ≤ last) && decide (last ≤ 1099511627776) && okN (stepQ ts last) ts.length
theorem stepQ_some {ts : List Tok} {last : Int} {i : Nat} {t : Tok} (ht : ts[i]? = some t) (h : stepQ ts last i = true) : rightB t last = true ∧ (t.used = true → t.kind ≠ 1) ∧ (i = 0 ∨ ∃ u, ts[i - 1]? = some u ∧ sLt u.text t.text = true) := by
  unfold stepQ at h
  rw [ht] at h
  simp only [Bool.and_eq_true, Bool.or_eq_true, beq_iff_eq] at h
  obtain ⟨⟨h1, h2⟩, h3⟩ := h
  refine ⟨h1, fun hu hk => by simp [hu, hk] at h2, h3.imp id fun h4 => ?_⟩
  cases hu : ts[i - 1]? with
  | none => rw [hu] at h4; cases h4
  | some u => rw [hu] at h4; exact ⟨u, rfl, h4⟩
theorem stepQ_of {ts : List Tok} {last : Int} {i : Nat} {t : Tok} (ht : ts[i]? = some t) (h1 : rightB t last = true) (h2 : t.used = true → t.kind ≠ 1) (h3 : i = 0 ∨ ∃ u, ts[i - 1]? = some u ∧ sLt u.text t.text = true) : stepQ ts last i = true := by
  unfold stepQ
  rw [ht]
  simp only [Bool.and_eq_true, Bool.or_eq_true, beq_iff_eq]
  refine ⟨⟨h1, ?_⟩, h3.imp id fun ⟨u, h4, h5⟩ => by rw [h4]; exact h5⟩
  cases hu : t.used with
  | false => rfl
  | true => have := h2 hu; simpa using this
theorem rightL_not {ts : List Tok} {last : Int} {i : Nat} {t : Tok} (ht : ts[i]? = some t) (h : ¬ (rightB t last = true ∧ (t.used = true → t.kind ≠ 1) ∧ (i = 0 ∨ ∃ u, ts[i - 1]? = some u ∧ sLt u.text t.text = true))) : rightL ts last = false := by
  have hst : stepQ ts last i = false := Bool.eq_false_iff.2 fun hh => h (stepQ_some ht hh)
  have hi := (List.getElem?_eq_some_iff.1 ht).1
  unfold rightL
  rw [okN_not hst hi, Bool.and_false]
theorem rightL_asc {ts : List Tok} {last : Int} (h : okN (stepQ ts last) ts.length = true) : ts.Pairwise fun c d => sLt c.text d.text = true := by
  refine rise_pw (r := fun c d : Tok => sLt c.text d.text = true) (fun x y z h1 h2 => sLt_trans h1 h2) fun i x y hx hy => ?_
  have hi := (List.getElem?_eq_some_iff.1 hy).1
  obtain ⟨_, _, h3⟩ := stepQ_some hy (okN_get h hi)
  rcases h3 with h3 | ⟨u, h4, h5⟩
  · omega
  · rw [Nat.add_sub_cancel, hx] at h4
    cases h4; exact h5
theorem okQ_take {ts : List Tok} {last : Int} {i : Nat} (h : okN (stepQ ts last) i = true) (hi : i ≤ ts.length) : (ts.take i).Pairwise fun c d => sLt c.text d.text = true := by
  refine rise_pw (r := fun c d : Tok => sLt c.text d.text = true) (fun x y z h1 h2 => sLt_trans h1 h2) fun k x y hx hy => ?_
  have hk := (List.getElem?_eq_some_iff.1 hy).1
  rw [List.length_take] at hk
  rw [List.getElem?_take_of_lt (by omega)] at hx hy
  obtain ⟨_, _, h3⟩ := stepQ_some hy (okN_get h (by omega))
  rcases h3 with h3 | ⟨u, h4, h5⟩
  · omega
  · rw [Nat.add_sub_cancel, hx] at h4
    cases h4; exact h5
theorem VI.ps {g : Nat} {A : List (ByteArray × Tok)} {last : Int} {T : Seg} (h : VI g A last T) : ∃ bm q, PS T (.pointer (some ⟨g, 0, none⟩)) [.map (some bm), .pointer (some ⟨q, 0, none⟩), .int .i64 last] := by
  obtain ⟨Td, _, rfl, vm, M, q, Tm, Tq, rfl, hM, hI, hA, hQ⟩ := h
  obtain ⟨bm, rfl⟩ : ∃ b, vm = .map (some b) := by obtain ⟨b, es, clock, h1, _⟩ := hM; exact ⟨b, h1⟩
  exact ⟨bm, q, PS.of (E := 65) (fr := (0, 0)) (by simp)⟩
end Go.Proofs.Ytkepgbimlolemaa
