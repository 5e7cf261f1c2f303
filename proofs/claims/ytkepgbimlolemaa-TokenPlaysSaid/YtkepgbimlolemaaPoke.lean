/- A text written into a slice deep in memory that is owned: what else leads there stays as long. No condition. -/
import Derived.Test.YtkepgbimlolemaaBase
import Derived.Test.YtkepgbimlolemaaMot5
import Derived.Test.YtkepgbimlolemaaMot3
set_option linter.unusedVariables false
namespace Go.Proofs.Ytkepgbimlolemaa
/-- What is owned, as cells that may be written. -/
def sg0 (T : Seg) : Rds := fun b o => (b, o) ∈ T ∧ ∃ c E, o = .cells c E (0, 0)
theorem OS.sg0 {α : Type} {E sz : Nat} {enc : α → List Value} {v : Value} {xs : List α} {T : Seg} (h : OS E sz enc v xs T) : RS (Go.Proofs.Ytkepgbimlolemaa.sg0 T) sz enc v xs :=
  ⟨h.len, h.one, by
    rcases h.h with ⟨rfl, rfl, rfl⟩ | ⟨b, off, c, cap, rfl, rfl, h3, h4, h5, h6⟩
    · exact ⟨none, 0, rfl, Nat.le_refl _, Nat.zero_le _, .inl rfl⟩
    · exact ⟨some ⟨b, off, none⟩, cap, rfl, h3, h4, .inr ⟨b, off, c, E, (0, 0), rfl, ⟨by simp, c, E, rfl⟩, h6⟩⟩⟩
theorem sg0_left {A B : Seg} {b : Nat} {o : Obj} (h : sg0 A b o) : sg0 (A ++ B) b o := ⟨List.mem_append_left B h.1, h.2⟩
theorem sg0_right {A B : Seg} {b : Nat} {o : Obj} (h : sg0 B b o) : sg0 (A ++ B) b o := ⟨List.mem_append_right A h.1, h.2⟩
theorem flat_encS : ∀ (ys : List ByteArray), ys.flatMap encS = ys.map fun s => Value.string s
  | [] => rfl
  | y :: ys => by simp [encS, flat_encS ys]
theorem nodup_same {T : Seg} {b : Nat} {o o' : Obj} (hn : (T.map (·.1)).Nodup) (h : (b, o) ∈ T) (h' : (b, o') ∈ T) : o = o' := by
  obtain ⟨i, hi, hie⟩ := List.mem_iff_getElem.1 h
  obtain ⟨j, hj, hje⟩ := List.mem_iff_getElem.1 h'
  have : i = j := (List.getElem_inj (xs := T.map (·.1)) (i := i) (j := j) (h₀ := by simpa using hi) (h₁ := by simpa using hj) hn).1 (by simp [hie, hje])
  subst this
  rw [hie] at hje
  exact (Prod.mk.inj hje).2
theorem RS.poke {T : Seg} {b off E : Nat} {c : Array Value} {s : ByteArray} {v : Value} {ys : List ByteArray} (hn : (T.map (·.1)).Nodup) (h : RS (sg0 T) 1 encS v ys) (hm : (b, .cells c E (0, 0)) ∈ T) (hl : off + 1 ≤ c.size) :
    ∃ ys', RS (sg0 (upB T b (.cells (setL c.toList off [.string s]).toArray E (0, 0)))) 1 encS v ys' ∧ ys'.length = ys.length := by
  obtain ⟨p, cap, hv, hc1, hc2, hcase⟩ := h.h
  rcases hcase with rfl | ⟨b2, off2, c2, E2, fr, rfl, ⟨hm2, c3, E3, he⟩, hrow⟩
  · exact ⟨[], ⟨by simp, by simp, p, cap, hv, hc1, hc2, .inl rfl⟩, rfl⟩
  · injection he with he1 he2 he3
    subst he1 he2 he3
    by_cases hb : b2 = b
    · subst hb
      have := nodup_same hn hm hm2
      injection this with h1 h2 h3
      subst h1 h2
      refine ⟨ys.zipIdx.map fun q => if off2 + q.2 = off then s else q.1, ⟨fun x _ => rfl, fun x _ u hu => by simp only [encS, List.mem_singleton] at hu; subst hu; rfl, _, cap, by rw [hv]; simp, by simpa using hc1, hc2, .inr ⟨b2, off2, _, E, (0, 0), rfl, ⟨upB_self hm, _, _, rfl⟩, ?_⟩⟩, by simp⟩
      rw [flat_encS] at hrow ⊢
      intro j hj
      simp only [List.length_map, List.length_zipIdx] at hj
      have h1 := hrow j (by simpa using hj)
      have h2 := setL_get (vs := c.toList) (cs := [Value.string s]) (off := off) (by simpa using hl) (off2 + j)
      simp only [List.getElem?_toArray]
      rw [h2]
      simp only [List.getElem?_map, List.getElem?_zipIdx, List.getElem?_eq_getElem hj, Option.map_some, Nat.zero_add, List.length_singleton] at h1 ⊢
      by_cases hj2 : off2 + j = off
      · rw [if_neg (by omega), if_pos (by omega), if_pos hj2]
        have : off2 + j - off = 0 := by omega
        rw [this]; rfl
      · rw [if_neg hj2]
        by_cases hj3 : off2 + j < off
        · rw [if_pos hj3]; simpa using h1
        · rw [if_neg hj3, if_neg (by omega)]; simpa using h1
    · exact ⟨ys, ⟨h.len, h.one, _, cap, hv, hc1, hc2, .inr ⟨b2, off2, c2, E2, (0, 0), rfl, ⟨upB_mem hm2 hb, _, _, rfl⟩, hrow⟩⟩, rfl⟩
section
variable {P : Program} {N : Nat} {R : Rds} {ops : Array Oper} {l : List Oper} {env : Env} {H : Segs} {K : Env → Segs → Prop} {ty : TypeId} {pos : String} {af : Array Edge} {T : Seg} {upd : Seg → Segs}
theorem TriOps.pokeS {t : TypeId} {x y : Operand} {v : Value} {xs : List ByteArray} {s z : ByteArray} (k : Nat) (h : RS (sg0 T) 1 encS v xs) (hz : xs[k]? = some z) [sa : SegAt H T upd] [sz : Sz P t 1] (hx : ev env x = some (baseP v (k * 1))) (hy : ev env y = some (.string s))
    (hn : ∀ T', (∀ w ys, RS (sg0 T) 1 encS w ys → ∃ ys', RS (sg0 T') 1 encS w ys' ∧ ys'.length = ys.length) → TriOps false P N R ops l env (upd T') K) :
    TriOps false P N R ops (⟨none, .store t x y, ty, pos, af, none⟩ :: l) env H K := by
  refine TriOps.nodup fun hnd => ?_
  have hlt := (List.getElem?_eq_some_iff.1 hz).1
  obtain ⟨p, cap, hv, hc1, hc2, hcase⟩ := h.h
  rcases hcase with rfl | ⟨b, off, c, E, fr, rfl, ⟨hm, c3, E3, he⟩, hrow⟩
  · simp at hlt
  · injection he with he1 he2 he3
    subst he1 he2 he3
    have hndT : (T.map (·.1)).Nodup := by
      obtain ⟨H1, H2, rfl, hu⟩ := sa.h
      simp only [List.flatten_append, List.flatten_cons, List.map_append, List.nodup_append] at hnd
      exact hnd.2.1.1
    have hsz : off + k + 1 ≤ c.size := by
      rw [flat_encS] at hrow
      have h1 := hrow k (by simpa using hlt)
      rw [List.getElem?_map, hz, Option.map_some] at h1
      have := (Array.getElem?_eq_some_iff.1 h1).1
      omega
    have hx' : ev env x = some (.pointer (some ⟨b, off + k, none⟩)) := by
      rw [hx, hv]
      simp only [baseP, Nat.mul_one, Addr.add]
      try (split <;> simp_all)
    exact TriOps.storeB (vs := c.toList) (off := off + k) (v := .string s) (E := E) (by simpa using hm) (hn _ fun w ys hw => RS.poke hndT hw hm (by omega)) (by simpa using hsz) hx' hy rfl
end
end Go.Proofs.Ytkepgbimlolemaa
