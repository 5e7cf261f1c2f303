/- The engine, part 9: maps; over any program, no condition. -/
import Derived.Test.YtlmdgdehjpahiaaEngK
set_option linter.unusedVariables false
namespace Go.Proofs.Ytlmdgdehjpahiaa
variable {κ β : Type} [DecidableEq κ]

def mget (k : κ) : List (κ × β) → Option β
  | [] => none
  | (k', x) :: r => if k = k' then some x else mget k r
def mset (k : κ) (x : β) : List (κ × β) → List (κ × β)
  | [] => [(k, x)]
  | (k', y) :: r => if k = k' then (k', x) :: r else (k', y) :: mset k x r
def mdel (k : κ) : List (κ × β) → List (κ × β)
  | [] => []
  | (k', y) :: r => if k = k' then r else (k', y) :: mdel k r

theorem mget_some {k : κ} {x : β} : ∀ {M : List (κ × β)}, mget k M = some x → (k, x) ∈ M
  | [], h => by cases h
  | (k', y) :: r, h => by
    simp only [mget] at h
    split at h
    · rename_i he; subst he; simp only [Option.some.injEq] at h; subst h; simp
    · exact List.mem_cons_of_mem _ (mget_some h)
theorem mget_none {k : κ} : ∀ {M : List (κ × β)}, mget k M = none ↔ k ∉ M.map (·.1)
  | [] => by simp [mget]
  | (k', y) :: r => by
    simp only [mget, List.map_cons, List.mem_cons, not_or]
    split
    · rename_i he; simp [he]
    · rename_i he; simp [he, mget_none]
theorem mget_of_mem {k : κ} {x : β} : ∀ {M : List (κ × β)}, (M.map (·.1)).Nodup → (k, x) ∈ M → mget k M = some x
  | [], _, h => by simp at h
  | (k', y) :: r, hn, h => by
    simp only [List.map_cons, List.nodup_cons] at hn
    simp only [mget]
    rcases List.mem_cons.1 h with h0 | h0
    · injection h0 with h1 h2; subst h1; subst h2; simp
    · split
      · rename_i he; subst he; exact absurd (List.mem_map.2 ⟨_, h0, rfl⟩) hn.1
      · exact mget_of_mem hn.2 h0
theorem mset_keys {k : κ} {x : β} : ∀ {M : List (κ × β)}, (mset k x M).map (·.1) = if k ∈ M.map (·.1) then M.map (·.1) else M.map (·.1) ++ [k]
  | [] => by simp [mset]
  | (k', y) :: r => by
    simp only [mset]
    split
    · rename_i he; subst he; simp
    · rename_i he
      simp only [List.map_cons, mset_keys, List.mem_cons]
      by_cases h : k ∈ r.map (·.1)
      · simp [h]
      · simp [h, he]
theorem mset_nodup {k : κ} {x : β} {M : List (κ × β)} (h : (M.map (·.1)).Nodup) : ((mset k x M).map (·.1)).Nodup := by
  rw [mset_keys]
  split
  · exact h
  · rename_i hk
    exact List.nodup_append.2 ⟨h, by simp, fun a ha b hb e => by simp only [List.mem_singleton] at hb; subst hb; subst e; exact hk ha⟩
theorem mget_mset {k k' : κ} {x : β} : ∀ {M : List (κ × β)}, mget k' (mset k x M) = if k' = k then some x else mget k' M
  | [] => by simp [mset, mget]
  | (k1, y) :: r => by
    simp only [mset]
    split
    · rename_i he; subst he
      simp only [mget]
      split <;> simp_all
    · rename_i he
      simp only [mget, mget_mset]
      split
      · rename_i h1; subst h1; rw [if_neg (fun e => he e.symm)]
      · rfl
theorem mdel_sub {k : κ} : ∀ {M : List (κ × β)}, ∀ p ∈ mdel k M, p ∈ M
  | [], p, h => by simp [mdel] at h
  | (k', y) :: r, p, h => by
    simp only [mdel] at h
    split at h
    · exact List.mem_cons_of_mem _ h
    · rcases List.mem_cons.1 h with h | h
      · rw [h]; simp
      · exact List.mem_cons_of_mem _ (mdel_sub p h)
theorem mdel_sublist {k : κ} : ∀ {M : List (κ × β)}, (mdel k M).Sublist M
  | [] => by simp [mdel]
  | (k', y) :: r => by
    simp only [mdel]
    split
    · exact List.sublist_cons_self _ _
    · exact (mdel_sublist).cons_cons _
theorem mdel_nodup {k : κ} {M : List (κ × β)} (h : (M.map (·.1)).Nodup) : ((mdel k M).map (·.1)).Nodup := h.sublist (mdel_sublist.map _)
theorem mget_mdel {k k' : κ} : ∀ {M : List (κ × β)}, (M.map (·.1)).Nodup → mget k' (mdel k M) = if k' = k then none else mget k' M
  | [], _ => by simp [mdel, mget]
  | (k1, y) :: r, hn => by
    simp only [List.map_cons, List.nodup_cons] at hn
    simp only [mdel]
    split
    · rename_i he; subst he
      simp only [mget]
      split
      · rename_i h1; subst h1; exact mget_none.2 hn.1
      · rfl
    · rename_i he
      simp only [mget, mget_mdel hn.2]
      split
      · rename_i h1; subst h1; rw [if_neg (fun e => he e.symm)]
      · rfl
theorem mset_length {k : κ} {x : β} : ∀ {M : List (κ × β)}, (mset k x M).length = if (mget k M).isSome then M.length else M.length + 1
  | [] => by simp [mset, mget]
  | (k', y) :: r => by
    simp only [mset, mget]
    split
    · simp
    · simp only [List.length_cons, mset_length]; split <;> rfl
theorem mdel_length {k : κ} : ∀ {M : List (κ × β)}, (mdel k M).length = if (mget k M).isSome then M.length - 1 else M.length
  | [] => by simp [mdel, mget]
  | (k', y) :: r => by
    simp only [mdel, mget]
    split
    · simp
    · simp only [List.length_cons, mdel_length]
      split
      · rename_i h
        have : r ≠ [] := fun e => by subst e; simp [mget] at h
        have := List.length_pos_iff.2 this
        omega
      · rfl

/-- How a key is found. -/
def lookE (k : κ) : List κ → List MapEntry → Nat → Option (Nat × Value)
  | k' :: ks, e :: es, i => if k = k' then some (i, e.val) else lookE k ks es (i + 1)
  | _, _, _ => none

class KeyT (P : Program) (kt : TypeId) (encK : κ → Value) : Prop where
  find : ∀ (k : κ) (es : List MapEntry) (ks : List κ) w, es.map (·.key) = ks.map encK → (Instr.findKey kt (encK k) es).run P w = .ok (lookE k ks es 0) w
  ck : ∀ e k w, (Instr.checkKey e 10000 kt (encK k)).run P w = .ok () w
  same : ∀ k, Instr.sameBits 10000 (encK k) (encK k) = true

theorem run_findAsking {P : Program} {kt : TypeId} {encK : κ → Value} (heq : ∀ k k' w, (Op.equal kt (encK k) (encK k')).run P w = .ok (decide (k = k')) w) (k : κ) :
    ∀ (es : List MapEntry) (ks : List κ) (i : Nat) w, es.map (·.key) = ks.map encK → (Instr.findAsking kt (encK k) es i).run P w = .ok (lookE k ks es i) w
  | [], ks, i, w, h => by
    cases ks with
    | nil => rfl
    | cons _ _ => simp at h
  | e :: es, [], i, w, h => by simp at h
  | e :: es, k' :: ks, i, w, h => by
    simp only [List.map_cons, List.cons.injEq] at h
    simp only [Instr.findAsking, Sem.run_bind, h.1, heq, Result.andThen_ok, lookE]
    by_cases hk : k = k'
    · simp [hk]
    · simp only [hk, decide_false, Bool.false_eq_true, if_false]
      exact run_findAsking heq k es ks (i + 1) w h.2
theorem findNow_scalar {d : TypeDesc} {encK : κ → Value} (hs : ∀ k k', Instr.sameNow d (encK k) (encK k') = some (decide (k = k'))) (k : κ) :
    ∀ (es : List MapEntry) (ks : List κ) (i : Nat), es.map (·.key) = ks.map encK → Instr.findNow d (encK k) es i = some (lookE k ks es i)
  | [], ks, i, h => by
    cases ks with
    | nil => rfl
    | cons _ _ => simp at h
  | e :: es, [], i, h => by simp at h
  | e :: es, k' :: ks, i, h => by
    simp only [List.map_cons, List.cons.injEq] at h
    simp only [Instr.findNow, h.1, hs, lookE]
    by_cases hk : k = k'
    · simp [hk]
    · simp only [hk, decide_false, if_false]
      exact findNow_scalar hs k es ks (i + 1) h.2

theorem sameBits_cells {ks : List CK} : ∀ {xs : List Value}, HasK ks xs → ∀ x ∈ xs, Instr.sameBits 9999 x x = true := by
  induction ks with
  | nil => intro xs h x hx; cases xs <;> simp_all [HasK]
  | cons k ks ih =>
    intro xs h x hx
    cases xs with
    | nil => simp at hx
    | cons y ys =>
      rcases List.mem_cons.1 hx with rfl | hx
      · have := h.1
        cases k <;> cases x <;> first | exact this.elim | simp [Instr.sameBits, beq_str']
      · exact ih h.2 x hx

theorem KeyT.agg {P : Program} {kt n : Nat} {ks : List CK} {encL : κ → List Value} (e : EqT P kt n ks true) {fs : Array Field} (u : P.underlying kt = some (.struct fs)) (hn : Nat.ble n 10000 = true) (hk : ∀ k, HasK ks (encL k)) (hd : ∀ k k', cellsEq (encL k) (encL k') = decide (k = k')) : KeyT P kt (fun k : κ => .agg (encL k).toArray) where
  find k es ks' w h := by
    have heq : ∀ (k k' : κ) w, (Op.equal kt (.agg (encL k).toArray) (.agg (encL k').toArray)).run P w = .ok (decide (k = k')) w := fun k k' w => by
      rw [← hd]; exact e.eq 10000 (Nat.le_of_ble_eq_true hn) w _ _ (hk k) (hk k')
    have h1 := run_findAsking heq k es ks' 0 w h
    simp only [Instr.findKey, Sem.run_bind, run_underlying u, Result.andThen_ok]
    cases es with
    | nil =>
      cases ks' with
      | nil => rfl
      | cons _ _ => simp at h
    | cons e es =>
      have : Instr.findNow (.struct fs) (.agg (encL k).toArray) (e :: es) 0 = none := rfl
      rw [this]
      exact h1
  ck em k w := e.ck 10000 (Nat.le_of_ble_eq_true hn) em w _ (hk k)
  same k := by
    have h := sameBits_cells (hk k)
    show ((encL k).toArray.size == (encL k).toArray.size && ((encL k).toArray.toList.zip (encL k).toArray.toList).all fun (x, y) => Instr.sameBits 9999 x y) = true
    simp only [beq_self_eq_true, Bool.true_and]
    rw [List.all_eq_true]
    intro p hp
    have : p.1 = p.2 ∧ p.1 ∈ encL k := by
      have h2 := List.of_mem_zip hp
      have h3 : p.1 = p.2 := by
        obtain ⟨i, hi, rfl⟩ := List.mem_iff_getElem.1 hp
        simp
      exact ⟨h3, by simpa using h2.1⟩
    obtain ⟨x, y⟩ := p
    simp only at this ⊢
    obtain ⟨rfl, hx⟩ := this
    exact h x hx
theorem KeyT.str {P : Program} {kt : Nat} (u : Und P kt .string) (ag : Agg P kt false) : KeyT P kt (fun s : ByteArray => .string s) where
  find k es ks w h := by
    have := findNow_scalar (d := .string) (encK := fun s : ByteArray => Value.string s) (fun k k' => by simp [Instr.sameNow, beq_str']) k es ks 0 h
    simp only [Instr.findKey, Sem.run_bind, run_underlying u.h, Result.andThen_ok, this]
    rfl
  ck em k w := (EqT.str u ag).ck 10000 (by decide) em w [.string k] ⟨trivial, trivial⟩
  same k := by simp [Instr.sameBits, beq_str']
theorem KeyT.int {P : Program} {kt : Nat} {q : IntKind} (u : Und P kt (.int q)) (ag : Agg P kt false) : KeyT P kt (fun s : Int => .int q s) where
  find k es ks w h := by
    have := findNow_scalar (d := .int q) (encK := fun s : Int => Value.int q s) (fun k k' => by simp [Instr.sameNow]; rfl) k es ks 0 h
    simp only [Instr.findKey, Sem.run_bind, run_underlying u.h, Result.andThen_ok, this]
    rfl
  ck em k w := (EqT.int u ag).ck 10000 (by decide) em w [.int q k] ⟨rfl, trivial⟩
  same k := by simp [Instr.sameBits]

/-- The entries tell just the pairs. -/
def Ents (encK : κ → Value) (encV : β → Value) (es : List MapEntry) (M : List (κ × β)) : Prop := es.map (fun e => (e.key, e.val)) = M.map fun p => (encK p.1, encV p.2)
omit [DecidableEq κ] in
theorem Ents.keys {encK : κ → Value} {encV : β → Value} {es : List MapEntry} {M : List (κ × β)} (h : Ents encK encV es M) : es.map (·.key) = (M.map (·.1)).map encK := by
  have := congrArg (List.map Prod.fst) h
  simpa [Function.comp_def] using this
omit [DecidableEq κ] in
theorem Ents.length {encK : κ → Value} {encV : β → Value} {es : List MapEntry} {M : List (κ × β)} (h : Ents encK encV es M) : es.length = M.length := by
  have := congrArg List.length h
  simpa using this
theorem look_get {encK : κ → Value} {encV : β → Value} (k : κ) : ∀ {es : List MapEntry} {M : List (κ × β)} (i : Nat), Ents encK encV es M →
    (lookE k (M.map (·.1)) es i).map (·.2) = (mget k M).map encV
  | [], [], _, _ => rfl
  | [], _ :: _, _, h => by simp [Ents] at h
  | _ :: _, [], _, h => by simp [Ents] at h
  | e :: es, (k', x) :: M, i, h => by
    simp only [Ents, List.map_cons, List.cons.injEq, Prod.mk.injEq] at h
    simp only [List.map_cons, lookE, mget]
    split
    · simp [h.1.2]
    · exact look_get k (i + 1) h.2

structure MapOK (encK : κ → Value) (encV : β → Value) (es : Array MapEntry) (clock : Nat) (M : List (κ × β)) : Prop where
  ents : Ents encK encV es.toList M
  nd : (M.map (·.1)).Nodup
  born : ∀ e ∈ es.toList, e.born < clock
  bnd : (es.toList.map (·.born)).Nodup

/-- A map that is read. -/
def RM (R : Rds) (encK : κ → Value) (encV : β → Value) (m : Value) (M : List (κ × β)) : Prop := ∃ b es clock, m = .map (some b) ∧ R b (.map es clock) ∧ MapOK encK encV es clock M
/-- A map that is owned. -/
def MS (encK : κ → Value) (encV : β → Value) (m : Value) (M : List (κ × β)) (T : Seg) : Prop := ∃ b es clock, m = .map (some b) ∧ T = [(b, .map es clock)] ∧ MapOK encK encV es clock M
omit [DecidableEq κ] in
theorem MS.rm {R : Rds} {encK : κ → Value} {encV : β → Value} {m : Value} {M : List (κ × β)} {T : Seg} (h : MS encK encV m M T) (hr : ∀ p ∈ T, R p.1 p.2) : RM R encK encV m M := by
  obtain ⟨b, es, clock, h1, rfl, h3⟩ := h
  exact ⟨b, es, clock, h1, hr (b, _) (by simp), h3⟩
omit [DecidableEq κ] in
theorem MS.rx {R : Rds} {H : Segs} {encK : κ → Value} {encV : β → Value} {m : Value} {M : List (κ × β)} {T : Seg} {upd : Seg → Segs} (h : MS encK encV m M T) [s : SegAt H T upd] : RM (Rx R H) encK encV m M := h.rm fun p hp => .inr (s.mem p hp)
omit [DecidableEq κ] in
theorem RM.mono {R R' : Rds} {encK : κ → Value} {encV : β → Value} {m : Value} {M : List (κ × β)} (h : RM R encK encV m M) (hr : ∀ b o, R b o → R' b o) : RM R' encK encV m M := by
  obtain ⟨b, es, clock, h1, h2, h3⟩ := h
  exact ⟨b, es, clock, h1, hr _ _ h2, h3⟩
omit [DecidableEq κ] in
theorem MS.nil {encK : κ → Value} {encV : β → Value} {b : Nat} : MS encK encV (.map (some b)) ([] : List (κ × β)) [(b, .map #[] 0)] :=
  ⟨b, #[], 0, rfl, rfl, ⟨by simp [Ents], by simp, by simp, by simp⟩⟩
omit [DecidableEq κ] in
theorem MS.one {encK : κ → Value} {encV : β → Value} {m : Value} {M : List (κ × β)} {T : Seg} (h : MS encK encV m M T) : One m := ⟨by obtain ⟨b, es, clock, rfl, _⟩ := h; rfl⟩
omit [DecidableEq κ] in
theorem RM.one {R : Rds} {encK : κ → Value} {encV : β → Value} {m : Value} {M : List (κ × β)} (h : RM R encK encV m M) : One m := ⟨by obtain ⟨b, es, clock, rfl, _⟩ := h; rfl⟩
omit [DecidableEq κ] in
theorem MS.nd {encK : κ → Value} {encV : β → Value} {m : Value} {M : List (κ × β)} {T : Seg} (h : MS encK encV m M T) : (M.map (·.1)).Nodup := by obtain ⟨b, es, clock, _, _, h3⟩ := h; exact h3.nd
omit [DecidableEq κ] in
theorem RM.nd {R : Rds} {encK : κ → Value} {encV : β → Value} {m : Value} {M : List (κ × β)} (h : RM R encK encV m M) : (M.map (·.1)).Nodup := by obtain ⟨b, es, clock, _, _, h3⟩ := h; exact h3.nd

theorem run_getMap {P : Program} {b : Nat} {es : Array MapEntry} {clock : Nat} {w : World} (h : w.heap[b]? = some (.map es clock)) : (getObj b).run P w = .ok (.map es clock) w := by
  simp [getObj, Sem.run, h]
theorem run_setMap {P : Program} {b : Nat} {es : Array MapEntry} {clock : Nat} {o : Obj} {w : World} (h : w.heap[b]? = some (.map es clock)) : (setObj b o).run P w = .ok () (setO w b o) := by
  simp [setObj, Sem.run, h, setO]

theorem lookE_none {k : κ} : ∀ {ks : List κ} {es : List MapEntry} {i : Nat}, ks.length = es.length → (lookE k ks es i = none ↔ k ∉ ks)
  | [], es, i, h => by simp [lookE]
  | k' :: ks, [], i, h => by simp at h
  | k' :: ks, e :: es, i, h => by
    simp only [List.length_cons, Nat.add_right_cancel_iff] at h
    simp only [lookE, List.mem_cons, not_or]
    split
    · rename_i he; simp [he]
    · rename_i he; rw [lookE_none h]; simp [he]
theorem lookE_some {k : κ} : ∀ {ks : List κ} {es : List MapEntry} {i j : Nat} {v : Value}, lookE k ks es i = some (j, v) → i ≤ j ∧ ks[j - i]? = some k ∧ ∃ e, es[j - i]? = some e ∧ e.val = v
  | [], es, i, j, v, h => by simp [lookE] at h
  | k' :: ks, [], i, j, v, h => by simp [lookE] at h
  | k' :: ks, e :: es, i, j, v, h => by
    simp only [lookE] at h
    split at h
    · rename_i he
      simp only [Option.some.injEq, Prod.mk.injEq] at h
      obtain ⟨rfl, rfl⟩ := h
      simp [he]
    · have := lookE_some h
      have e1 : j - i = (j - (i + 1)) + 1 := by omega
      rw [e1]
      exact ⟨by omega, by simpa using this.2.1, by simpa using this.2.2⟩

theorem mset_get {k : κ} {x : β} : ∀ {M : List (κ × β)} {j : Nat}, (M.map (·.1)).Nodup → (M.map (·.1))[j]? = some k → mset k x M = M.set j (k, x)
  | [], j, _, h => by simp at h
  | (k', y) :: r, 0, hn, h => by
    simp at h; subst h; simp [mset]
  | (k', y) :: r, j + 1, hn, h => by
    simp only [List.map_cons, List.nodup_cons] at hn
    simp only [List.map_cons, List.getElem?_cons_succ] at h
    have hne : k ≠ k' := fun e => hn.1 (e ▸ List.mem_of_getElem? h)
    simp only [mset, if_neg hne, List.set_cons_succ, mset_get hn.2 h]
theorem mset_new {k : κ} {x : β} : ∀ {M : List (κ × β)}, k ∉ M.map (·.1) → mset k x M = M ++ [(k, x)]
  | [], _ => rfl
  | (k', y) :: r, h => by
    simp only [List.map_cons, List.mem_cons, not_or] at h
    simp only [mset, if_neg h.1, mset_new h.2, List.cons_append]
theorem mdel_get {k : κ} : ∀ {M : List (κ × β)} {j : Nat}, (M.map (·.1)).Nodup → (M.map (·.1))[j]? = some k → mdel k M = M.eraseIdx j
  | [], j, _, h => by simp at h
  | (k', y) :: r, 0, hn, h => by
    simp at h; subst h; simp [mdel]
  | (k', y) :: r, j + 1, hn, h => by
    simp only [List.map_cons, List.nodup_cons] at hn
    simp only [List.map_cons, List.getElem?_cons_succ] at h
    have hne : k ≠ k' := fun e => hn.1 (e ▸ List.mem_of_getElem? h)
    simp only [mdel, if_neg hne, List.eraseIdx_cons_succ, mdel_get hn.2 h]
theorem mdel_old {k : κ} : ∀ {M : List (κ × β)}, k ∉ M.map (·.1) → mdel k M = M
  | [], _ => rfl
  | (k', y) :: r, h => by
    simp only [List.map_cons, List.mem_cons, not_or] at h
    simp only [mdel, if_neg h.1, mdel_old h.2]

omit [DecidableEq κ] in
theorem map_eraseIdx' {α γ : Type} (f : α → γ) : ∀ (l : List α) (j : Nat), (l.eraseIdx j).map f = (l.map f).eraseIdx j
  | [], _ => rfl
  | _ :: _, 0 => rfl
  | a :: l, j + 1 => by simp [map_eraseIdx' f l j]

theorem MapOK.find {P : Program} {kt : Nat} {encK : κ → Value} {encV : β → Value} {es : Array MapEntry} {clock : Nat} {M : List (κ × β)} (h : MapOK encK encV es clock M) [kk : KeyT P kt encK] (k : κ) (w : World) :
    ∃ r, (Instr.findKey kt (encK k) es.toList).run P w = .ok r w ∧ r.map (·.2) = (mget k M).map encV ∧
      (match r with
       | none => k ∉ M.map (·.1)
       | some (j, _) => (M.map (·.1))[j]? = some k ∧ ∃ e, es[j]? = some e ∧ e.key = encK k) := by
  refine ⟨_, kk.find k es.toList (M.map (·.1)) w h.ents.keys, look_get k 0 h.ents, ?_⟩
  cases hl : lookE k (M.map (·.1)) es.toList 0 with
  | none => exact (lookE_none (by rw [List.length_map, h.ents.length])).1 hl
  | some jv =>
    obtain ⟨j, v⟩ := jv
    obtain ⟨_, h2, e, h3, _⟩ := lookE_some hl
    simp only [Nat.sub_zero] at h2 h3
    refine ⟨h2, e, by simpa using h3, ?_⟩
    have h4 := congrArg (fun l : List Value => l[j]?) h.ents.keys
    simp only [List.getElem?_map, h3, Option.map_some] at h4
    rw [← List.getElem?_map, h2] at h4
    simpa using h4

theorem MapOK.update {encK : κ → Value} {encV : β → Value} {es : Array MapEntry} {clock : Nat} {M : List (κ × β)} (h : MapOK encK encV es clock M) {k : κ} {j : Nat} (x : β) (hj : (M.map (·.1))[j]? = some k) :
    MapOK encK encV (es.modify j fun e => { e with key := encK k, val := encV x }) clock (mset k x M) := by
  have hl : (es.modify j fun e => { e with key := encK k, val := encV x }).toList = es.toList.modify j fun e => { e with key := encK k, val := encV x } := by
    apply List.ext_getElem?; intro i
    simp [List.getElem?_modify]
  have hb : (es.toList.modify j fun e => { e with key := encK k, val := encV x }).map (·.born) = es.toList.map (·.born) := by
    apply List.ext_getElem?; intro i
    simp only [List.getElem?_map, List.getElem?_modify]
    split <;> simp [Function.comp_def]
  refine ⟨?_, mset_nodup h.nd, ?_, ?_⟩
  · rw [hl, mset_get h.nd hj]
    unfold Ents
    have := h.ents
    unfold Ents at this
    apply List.ext_getElem?; intro i
    have hi := congrArg (fun l : List (Value × Value) => l[i]?) this
    simp only [List.getElem?_map] at hi
    simp only [List.getElem?_map, List.getElem?_modify, List.getElem?_set]
    by_cases hij : j = i
    · subst hij
      have hlt : j < M.length := by
        have := (List.getElem?_eq_some_iff.1 hj).1
        simpa using this
      simp only [if_true, hlt, Option.map_some]
      cases he : es.toList[j]? with
      | none =>
        have := List.getElem?_eq_none_iff.1 he
        rw [h.ents.length] at this
        omega
      | some e => rfl
    · rw [if_neg hij, ← hi]
      cases es.toList[i]? <;> simp [hij]
  · intro e he
    rw [hl] at he
    have h2 : e.born ∈ (es.toList.modify j fun e => { e with key := encK k, val := encV x }).map (·.born) := List.mem_map_of_mem he
    rw [hb] at h2
    obtain ⟨e', he', hbe⟩ := List.mem_map.1 h2
    rw [← hbe]; exact h.born e' he'
  · rw [hl, hb]; exact h.bnd
theorem MapOK.insert {encK : κ → Value} {encV : β → Value} {es : Array MapEntry} {clock : Nat} {M : List (κ × β)} (h : MapOK encK encV es clock M) {k : κ} (x : β) (hk : k ∉ M.map (·.1)) :
    MapOK encK encV (es.push { key := encK k, val := encV x, born := clock }) (clock + 1) (mset k x M) := by
  refine ⟨?_, mset_nodup h.nd, ?_, ?_⟩
  · have := h.ents
    unfold Ents at this ⊢
    rw [mset_new hk]
    simp [this]
  · intro e he
    simp only [Array.toList_push, List.mem_append, List.mem_singleton] at he
    rcases he with he | rfl
    · have := h.born e he; omega
    · simp
  · simp only [Array.toList_push, List.map_append, List.map_cons, List.map_nil]
    refine List.nodup_append.2 ⟨h.bnd, by simp, ?_⟩
    intro a ha b hb e
    simp only [List.mem_singleton] at hb
    obtain ⟨e', he', rfl⟩ := List.mem_map.1 ha
    have := h.born e' he'
    omega
theorem MapOK.delete {encK : κ → Value} {encV : β → Value} {es : Array MapEntry} {clock : Nat} {M : List (κ × β)} (h : MapOK encK encV es clock M) {k : κ} {j : Nat} (hj : (M.map (·.1))[j]? = some k) :
    MapOK encK encV (es.eraseIdxIfInBounds j) clock (mdel k M) := by
  have hl : (es.eraseIdxIfInBounds j).toList = es.toList.eraseIdx j := by simp
  refine ⟨?_, mdel_nodup h.nd, ?_, ?_⟩
  · have := h.ents
    unfold Ents at this ⊢
    rw [hl, mdel_get h.nd hj, map_eraseIdx', map_eraseIdx', this]
  · intro e he
    rw [hl] at he
    exact h.born e (List.mem_of_mem_eraseIdx he)
  · rw [hl]
    exact h.bnd.sublist ((List.eraseIdx_sublist ..).map _)
end Go.Proofs.Ytlmdgdehjpahiaa
