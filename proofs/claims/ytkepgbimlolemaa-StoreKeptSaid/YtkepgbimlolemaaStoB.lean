/- A store in memory: rows, each its own block; maps of slices of pointers to them. No condition. -/
import Derived.Test.YtkepgbimlolemaaStoA
import Derived.Test.YtkepgbimlolemaaKw
import Derived.Test.YtkepgbimlolemaaTxs
import Derived.Test.YtkepgbimlolemaaMot6
set_option linter.unusedVariables false
set_option maxRecDepth 4000
namespace Go.Proofs.Ytkepgbimlolemaa
abbrev RB : Type := Nat × SRow
def encRB (p : RB) : List Value := encPt p.1
theorem RS.of_map {α β : Type} {R : Rds} {sz : Nat} {enc : α → List Value} {f : β → α} {v : Value} {xs : List β} (h : RS R sz enc v (xs.map f)) : RS R sz (fun x => enc (f x)) v xs := by
  refine ⟨fun x hx => h.len _ (List.mem_map.2 ⟨x, hx, rfl⟩), fun x hx => h.one _ (List.mem_map.2 ⟨x, hx, rfl⟩), ?_⟩
  obtain ⟨p, cap, h1, h2, h3, h4⟩ := h.h
  rw [List.length_map] at h1 h2
  refine ⟨p, cap, h1, h2, h3, ?_⟩
  rcases h4 with h4 | ⟨b, off, c, E, fr, h5, h6, h7⟩
  · exact .inl (List.map_eq_nil_iff.1 h4)
  · exact .inr ⟨b, off, c, E, fr, h5, h6, by rwa [List.flatMap_map] at h7⟩
theorem OS.to_map {α β : Type} {E : TypeId} {sz : Nat} {enc : α → List Value} {f : β → α} {v : Value} {xs : List β} {T : Seg} (h : OS E sz (fun x => enc (f x)) v xs T) : OS E sz enc v (xs.map f) T := by
  refine ⟨fun x hx => ?_, fun x hx => ?_, ?_⟩
  · obtain ⟨y, hy, rfl⟩ := List.mem_map.1 hx
    exact h.len y hy
  · obtain ⟨y, hy, rfl⟩ := List.mem_map.1 hx
    exact h.one y hy
  · rcases h.h with ⟨h1, h2, h3⟩ | ⟨b, off, c, cap, h1, h2, h3, h4, h5, h6⟩
    · exact .inl ⟨h1, by rw [h2]; rfl, h3⟩
    · exact .inr ⟨b, off, c, cap, by rw [List.length_map]; exact h1, h2, by rw [List.length_map]; exact h3, h4, h5, by rw [List.flatMap_map]; exact h6⟩
def rowObj (x : SRow) : Obj := .cells x.enc.toArray 132 (0, 0)
def rowSeg (ps : List RB) : Seg := ps.map fun p => (p.1, rowObj p.2)
def ids {κ : Type} [DecidableEq κ] (key : SRow → κ) (k : κ) (ps : List RB) : List Nat := (ps.filter fun x => decide (key x.2 = k)).map (·.1)
section
variable {κ : Type} [DecidableEq κ] {encK : κ → Value} {key : SRow → κ}
/-- A map of slices: at each key the rows of that key; keys are there just if they have rows. -/
structure MFx (encK : κ → Value) (key : SRow → κ) (ps : List RB) (vm : Value) (M : List (κ × (Value × Seg))) (Tm Ts : Seg) : Prop where
  ms : MS encK (fun p : Value × Seg => p.1) vm M Tm
  pm : Ts.Perm (M.flatMap fun p => p.2.2)
  os : ∀ p ∈ M, OS 133 1 encPt p.2.1 (ids key p.1 ps) p.2.2
  ne : ∀ p ∈ M, ids key p.1 ps ≠ []
  al : ∀ x ∈ ps, key x.2 ∈ M.map (·.1)
def MF (encK : κ → Value) (key : SRow → κ) (ps : List RB) (vm : Value) (Tm Ts : Seg) : Prop := ∃ M, MFx encK key ps vm M Tm Ts
theorem ids_nil {k : κ} {ps : List RB} (h : ∀ x ∈ ps, key x.2 ≠ k) : ids key k ps = [] := by
  unfold ids
  rw [List.filter_eq_nil_iff.2 fun x hx => by simpa using h x hx]; rfl
theorem ids_add {k : κ} {ps : List RB} {b : Nat} {x : SRow} : ids key k (ps ++ [(b, x)]) = ids key k ps ++ if key x = k then [b] else [] := by
  unfold ids
  rw [List.filter_append, List.map_append, List.filter_cons]
  by_cases h : key x = k
  · rw [if_pos (by simpa using h), if_pos h]; rfl
  · rw [if_neg (by simpa using h), if_neg h]; rfl
theorem ids_mem {k : κ} {ps : List RB} {b : Nat} : b ∈ ids key k ps ↔ ∃ x, (b, x) ∈ ps ∧ key x = k := by
  unfold ids
  rw [List.mem_map]
  constructor
  · rintro ⟨p, hp, rfl⟩
    have := List.mem_filter.1 hp
    exact ⟨p.2, this.1, by simpa using this.2⟩
  · rintro ⟨x, hx, hk⟩
    exact ⟨(b, x), List.mem_filter.2 ⟨hx, by simpa using hk⟩, rfl⟩
theorem MFx.nil {b : Nat} : MFx encK key [] (.map (some b)) [] [(b, .map #[] 0)] [] := ⟨MS.nil, by simp, by simp, by simp, by simp⟩
theorem MFx.get {ps : List RB} {vm : Value} {M : List (κ × (Value × Seg))} {Tm Ts : Seg} (h : MFx encK key ps vm M Tm Ts) (k : κ) : ∃ v Tk Tr, ((mget k M).map fun p : Value × Seg => p.1).getD (.slice none 0 0) = v ∧ OS 133 1 encPt v (ids key k ps) Tk ∧ Ts.Perm (Tk ++ Tr) ∧ (∀ v' Tk', ((mset k (v', Tk') M).flatMap fun p => p.2.2).Perm (Tk' ++ Tr)) := by
  cases hm : mget k M with
  | none =>
    have hk := mget_none.1 hm
    have hid : ids key k ps = [] := ids_nil fun x hx he => hk (he ▸ h.al x hx)
    refine ⟨.slice none 0 0, [], Ts, rfl, by rw [hid]; exact OS.nil, .refl _, fun v' Tk' => ?_⟩
    rw [mset_new hk, List.flatMap_append]
    exact (List.perm_append_comm).trans (by simpa using h.pm.symm.append_left Tk')
  | some p =>
    obtain ⟨v, Tk⟩ := p
    have hmem := mget_some hm
    obtain ⟨X, Y, hXY⟩ := List.append_of_mem hmem
    have hn := h.ms.nd
    refine ⟨v, Tk, (X.flatMap fun p => p.2.2) ++ (Y.flatMap fun p => p.2.2), rfl, h.os _ hmem, ?_, fun v' Tk' => ?_⟩
    · refine h.pm.trans ?_
      rw [hXY, List.flatMap_append, List.flatMap_cons]
      exact List.perm_append_comm_assoc _ _ _
    · refine ((mset_perm hn).flatMap_right _).trans ?_
      unfold kset
      rw [hXY] at hn ⊢
      rw [kdel_mid hn, List.flatMap_append, List.flatMap_append]
      simp only [List.flatMap_cons, List.flatMap_nil, List.append_nil]
      exact List.perm_append_comm
theorem MFx.add {ps : List RB} {vm : Value} {M : List (κ × (Value × Seg))} {Tm Ts : Seg} (h : MFx encK key ps vm M Tm Ts) {b : Nat} {x : SRow} {v' : Value} {Tk' Tm' Ts' : Seg} (hms : MS encK (fun p : Value × Seg => p.1) vm (mset (key x) (v', Tk') M) Tm') (hos : OS 133 1 encPt v' (ids key (key x) ps ++ [b]) Tk') (hp : Ts'.Perm ((mset (key x) (v', Tk') M).flatMap fun p => p.2.2)) : MFx encK key (ps ++ [(b, x)]) vm (mset (key x) (v', Tk') M) Tm' Ts' := by
  have hn := h.ms.nd
  refine ⟨hms, hp, fun p hp => ?_, fun p hp => ?_, fun y hy => ?_⟩
  · by_cases he : p.1 = key x
    · have h1 : mget p.1 (mset (key x) (v', Tk') M) = some p.2 := mget_of_mem hms.nd (by exact hp)
      rw [mget_mset, if_pos he] at h1
      have h2 := Option.some.inj h1
      rw [ids_add, he, if_pos rfl, ← h2]; exact hos
    · rcases mset_mem hn hp with hp | hp
      · rw [ids_add, if_neg (fun e => he e.symm), List.append_nil]; exact h.os p hp
      · exact absurd (by rw [hp]) he
  · by_cases he : p.1 = key x
    · rw [ids_add, he, if_pos rfl]; simp
    · rcases mset_mem hn hp with hp | hp
      · rw [ids_add, if_neg (fun e => he e.symm), List.append_nil]; exact h.ne p hp
      · exact absurd (by rw [hp]) he
  · rw [mset_keys]
    rcases List.mem_append.1 hy with hy | hy
    · have := h.al y hy
      split <;> simp [this]
    · simp only [List.mem_singleton] at hy
      subst hy
      split
      · assumption
      · simp
theorem MFx.rows {ps qs : List RB} {vm : Value} {M : List (κ × (Value × Seg))} {Tm Ts : Seg} (h : MFx encK key ps vm M Tm Ts) (hq : qs.map (fun p => (p.1, key p.2)) = ps.map (fun p => (p.1, key p.2))) : MFx encK key qs vm M Tm Ts := by
  have hid : ∀ k, ids key k qs = ids key k ps := fun k => by
    have e : ∀ L : List RB, ids key k L = ((L.map fun p => (p.1, key p.2)).filter fun p => decide (p.2 = k)).map (·.1) := fun L => by
      unfold ids
      rw [List.filter_map, List.map_map]; rfl
    rw [e, e, hq]
  refine ⟨h.ms, h.pm, fun p hp => by rw [hid]; exact h.os p hp, fun p hp => by rw [hid]; exact h.ne p hp, fun x hx => ?_⟩
  have : (x.1, key x.2) ∈ ps.map (fun p => (p.1, key p.2)) := hq ▸ List.mem_map.2 ⟨x, hx, rfl⟩
  obtain ⟨y, hy, hyx⟩ := List.mem_map.1 this
  have hk : key y.2 = key x.2 := congrArg Prod.snd hyx
  rw [← hk]
  exact h.al y hy
end
/-- A store. -/
def SI (g : Nat) (S : Sto) (T : Seg) : Prop := ∃ ps vf vr Mf Mr Tf Tr Sf Sr, T = (g, .cells [.bool true, .int .u64 S.head, .int .u64 S.hor, .int .i64 (ps.length : Nat), vf, vr].toArray 98 (0, 0)) :: (Tf ++ (Sf ++ (Tr ++ (Sr ++ rowSeg ps)))) ∧
  MFx (fun k : Obr => .agg k.enc.toArray) (fun x => x.t.obr) ps vf Mf Tf Sf ∧ MFx (fun k : Sub => .agg k.enc.toArray) (fun x => x.t.sub) ps vr Mr Tr Sr ∧ ps.map (·.2) = S.rows
end Go.Proofs.Ytkepgbimlolemaa
