/- The engine, part 19: what a law is given, lists in structs and lists of such; over any program, no condition. -/
import Derived.Test.YtlmdgdehjpahiaaEngE
import Derived.Test.YtlmdgdehjpahiaaEngL
set_option linter.unusedVariables false
namespace Go.Proofs.Ytlmdgdehjpahiaa
open Go.ChangeShapes Go.WideShapes Go.Deep
section
variable {H : Type} {enc : TypeId × Value → H} {P : Program} {W W' : World}
theorem RS.ofCells {α : Type} {t e sz f : Nat} {en : α → List Value} {D : α → Prop} {cs : List Value} {x : DataW H × List MemPlace} (ht : P.underlying t = some (.slice e)) (hc : P.cellsOf e = sz) (hsz : 0 < sz)
    (hf : DataW.trod enc P W 0 (fun _ => true) true f t cs = some x) (hd : ∀ n cs x, DataW.trod enc P W 0 (fun _ => true) true n e cs = some x → cs.length = sz ∧ (∀ u ∈ cs, Go.Proofs.Ytlmdgdehjpahiaa.oneCell u = true) ∧ ∃ z, en z = cs ∧ D z) :
    ∃ v xs, cs = [v] ∧ RS (Rw W) sz en v xs ∧ ∀ x ∈ xs, D x := by
  rcases open_slice ht hf with ⟨h1, _⟩ | ⟨a, len, cap, m, n, Dd, Pl, h1, _, h3, h4, h5, _, hx⟩
  · exact ⟨_, [], h1, ⟨by simp, by simp, none, 0, rfl, by simp, by simp [maxLen], .inl rfl⟩, by simp⟩
  · simp only [if_true] at h5
    subst h5
    rw [hc] at hx
    have hz : ∀ i, i < len → ∃ z, w_at W a sz i z en ∧ D z := fun i hi => by
      obtain ⟨cs', h6, h7⟩ := hx i (by omega)
      obtain ⟨g1, g2, z, g3, g4⟩ := hd n cs' _ h7
      obtain ⟨_, _, h8⟩ := World.cells?_some h6
      exact ⟨z, ⟨by rw [g3]; exact g1, by rw [g3]; exact g2, fun j hj => by rw [g3, ← h8 j hj, add_add]⟩, g4⟩
    obtain ⟨xs, hxs1, hxs2⟩ := list_of (fun i z => w_at W a sz i z en ∧ D z) len hz
    subst hxs1
    have hw : ∀ (i : Nat) (x : α), xs[i]? = some x → w_at W a sz i x en := fun i x h => (hxs2 i x h).1
    have hD : ∀ x ∈ xs, D x := fun x hx => by
      obtain ⟨i, hi⟩ := List.mem_iff_getElem?.1 hx
      exact (hxs2 i x hi).2
    have hmem : ∀ x ∈ xs, ∃ i, w_at W a sz i x en := fun x hx => by
      obtain ⟨i, hi⟩ := List.mem_iff_getElem?.1 hx
      exact ⟨i, hw i x hi⟩
    refine ⟨_, xs, h1, ⟨fun x hx => (hmem x hx).elim fun _ h => h.1, fun x hx => (hmem x hx).elim fun _ h => h.2.1, some a, _, rfl, h3, h4, ?_⟩, hD⟩
    cases xs with
    | nil => exact .inl rfl
    | cons x0 xs =>
      right
      have h0 := (hw 0 x0 rfl).2.2 0 hsz
      have hlen0 := (hw 0 x0 rfl).1
      simp only [Nat.zero_mul, Nat.zero_add] at h0
      have hadd0 : a.add 0 = a := by simp [Addr.add]
      rw [hadd0] at h0
      unfold World.cell? at h0
      cases hb : W.heap[a.block]? with
      | none => rw [hb] at h0; simp at h0; rw [h0] at hlen0; simp at hlen0; omega
      | some o =>
        rw [hb] at h0
        cases o with
        | cells c E fr =>
          simp only at h0
          have hsp : a.spot = none := by
            cases hs : a.spot with
            | none => rfl
            | some q => rw [hs] at h0; simp at h0; rw [h0] at hlen0; simp at hlen0; omega
          have ha : a = ⟨a.block, a.off, none⟩ := by cases a; simp at hsp ⊢; exact hsp
          refine ⟨a.block, a.off, c, E, fr, by rw [← ha], hb, fun k hk => ?_⟩
          have hl : ((x0 :: xs).flatMap en).length = (x0 :: xs).length * sz := flatMap_length fun x hx => (hmem x hx).elim fun _ h => h.1
          rw [hl] at hk
          have hi : k / sz < (x0 :: xs).length := Nat.div_lt_of_lt_mul (by rw [Nat.mul_comm]; exact hk)
          obtain ⟨x, hxk⟩ : ∃ x, (x0 :: xs)[k / sz]? = some x := ⟨_, List.getElem?_eq_getElem hi⟩
          have hj : k % sz < sz := Nat.mod_lt _ hsz
          have h9 := (hw _ x hxk).2.2 (k % sz) hj
          have hk' : k / sz * sz + k % sz = k := Nat.div_add_mod' k sz
          rw [hk'] at h9
          have h10 := flatMap_get (enc := en) (fun x hx => (hmem x hx).elim fun _ h => h.1) hxk (k % sz) hj
          rw [hk'] at h10
          rw [h10, ← h9]
          have hak : a.add k = ⟨a.block, a.off + k, none⟩ := by rw [ha]; exact add_mk _ _ _
          rw [hak]
          simp [World.cell?, hb]
        | _ => simp at h0; rw [h0] at hlen0; simp at hlen0; omega
/-- A struct's value, as its cells. -/
theorem cells_of_struct {fs : Array Field} {t : TypeId} {v : Value} {d : DataW H} {ps : List MemPlace} {r : Reach} {b0 : Nat} (ht : P.underlying t = some (.struct fs)) (hval : Value.okWide P W r b0 t v) (h : DataW.Trod enc P W 0 (fun _ => true) true t v d ps) :
    ∃ cs : List Value, v = .agg cs.toArray ∧ ∃ f, DataW.trod enc P W 0 (fun _ => true) true f t cs = some (d, ps) := by
  obtain ⟨cs, rfl, hs⟩ := okWide_struct ht hval
  obtain ⟨f, hf⟩ := h
  exact ⟨cs.toList, by simp, f, hf⟩
/-- The parts of a struct's cells. -/
theorem parts_of {fs : Array Field} {t f : Nat} {cs : List Value} {x : DataW H × List MemPlace} (ht : P.underlying t = some (.struct fs)) (h : DataW.trod enc P W 0 (fun _ => true) true f t cs = some x) :
    cs.length = P.cellsOf t ∧ ∀ (i : Nat) (g : Field), fs[i]? = some g → ∃ n y, DataW.trod enc P W 0 (fun _ => true) true n g.type ((cs.drop g.offset).take (P.cellsOf g.type)) = some y := by
  obtain ⟨xs, n, _, _, hl, hlen, hf⟩ := DataW.trod_struct ht h
  refine ⟨hl, fun i g hg => ?_⟩
  have h1 := hf i g hg
  have hi : i < fs.size := by
    obtain ⟨h, _⟩ := Array.getElem?_eq_some_iff.1 hg
    exact h
  rw [List.getElem?_eq_getElem (by omega)] at h1
  exact ⟨n, _, h1⟩
theorem slice_cells {t : TypeId} {v : Value} {d : DataW H} {ps : List MemPlace} {e : TypeId} {r : Reach} {b0 : Nat} (ht : P.underlying t = some (.slice e)) (hval : Value.okWide P W r b0 t v) (h : DataW.Trod enc P W 0 (fun _ => true) true t v d ps) :
    ∃ f, DataW.trod enc P W 0 (fun _ => true) true f t [v] = some (d, ps) := by
  obtain ⟨p, len, cap, rfl⟩ := okWide_slice ht hval
  obtain ⟨f, hf⟩ := h
  exact ⟨f, hf⟩
end
end Go.Proofs.Ytlmdgdehjpahiaa
