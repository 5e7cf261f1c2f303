/- The plain law of the memo: what is kept is what the document's memo keeps. No condition. -/
import Derived.Test.YthflndnbdgelnaaMemoH
set_option linter.unusedVariables false
namespace Go.Proofs.Ythflndnbdgelnaa

def RefM.of (n : Nat) (z : List (Quest × Bool)) : RefM := ⟨n, z.map (·.1), z.map (·.2)⟩
structure InvW (n : Nat) (m : PM) (z : List (Quest × Bool)) : Prop where
  ms : m.size = n
  age : m.age = z.map (·.1)
  nd : (z.map (·.1)).Nodup
  kn : (m.kept.map (·.1)).Nodup
  get : ∀ p ∈ z, mget p.1 m.kept = some p.2
  non : ∀ q, q ∉ z.map (·.1) → mget q m.kept = none
structure Inv (n : Nat) (m : PM) (z : List (Quest × Bool)) : Prop extends InvW n m z where
  le : z.length ≤ n

theorem len_le {α : Type} [DecidableEq α] : ∀ {l1 l2 : List α}, l1.Nodup → (∀ a ∈ l1, a ∈ l2) → l1.length ≤ l2.length
  | [], _, _, _ => by simp
  | a :: l, l2, h, hs => by
    rw [List.nodup_cons] at h
    have h1 := len_le (l1 := l) (l2 := l2.erase a) h.2 fun b hb => by
      rw [List.mem_erase_of_ne (fun e : b = a => h.1 (by rw [← e]; exact hb))]
      exact hs b (List.mem_cons_of_mem _ hb)
    have h2 := List.length_erase_of_mem (hs a (by simp))
    have h3 := List.length_pos_of_mem (hs a (by simp))
    simp only [List.length_cons]
    omega
theorem InvW.len {n : Nat} {m : PM} {z : List (Quest × Bool)} (h : InvW n m z) : m.kept.length = z.length := by
  have key : ∀ q, q ∈ m.kept.map (·.1) ↔ q ∈ z.map (·.1) := fun q => by
    constructor
    · intro hq
      rcases Decidable.em (q ∈ z.map (·.1)) with h1 | h1
      · exact h1
      · exact absurd hq (mget_none.1 (h.non q h1))
    · intro hq
      rcases Decidable.em (q ∈ m.kept.map (·.1)) with h1 | h1
      · exact h1
      · obtain ⟨p, hp, rfl⟩ := List.mem_map.1 hq
        have := h.get p hp
        rw [mget_none.2 h1] at this
        cases this
  have a1 := len_le h.kn fun q hq => (key q).1 hq
  have a2 := len_le h.nd fun q hq => (key q).2 hq
  simp only [List.length_map] at a1 a2
  omega
theorem Inv.new (n : Nat) : Inv n ⟨n, [], [], 0⟩ [] := ⟨⟨rfl, rfl, by simp, by simp, by simp, fun _ _ => rfl⟩, by simp⟩
theorem InvW.ext {n : Nat} {m : PM} {z : List (Quest × Bool)} (h : InvW n m z) {q : Quest} (x : Bool) (hq : q ∉ z.map (·.1)) : InvW n ⟨m.size, mset q x m.kept, m.age ++ [q], m.hits⟩ (z ++ [(q, x)]) := by
  refine ⟨h.ms, by simp [h.age], ?_, mset_nodup h.kn, fun p hp => ?_, fun k hk => ?_⟩
  · rw [List.map_append, List.nodup_append]
    refine ⟨h.nd, by simp, fun a ha b hb => ?_⟩
    simp at hb; subst hb; exact fun e => hq (e ▸ ha)
  · rw [mget_mset]
    rcases List.mem_append.1 hp with hp | hp
    · rw [if_neg (fun e : p.1 = q => hq (by rw [← e]; exact List.mem_map_of_mem (f := (·.1)) hp)), h.get p hp]
    · simp at hp; subst hp; simp
  · simp only [List.map_append, List.map_cons, List.map_nil, List.mem_append, List.mem_singleton, not_or] at hk
    rw [mget_mset, if_neg hk.2, h.non k hk.1]
theorem InvW.pop {n : Nat} {m : PM} {p : Quest × Bool} {z : List (Quest × Bool)} (h : InvW n m (p :: z)) : InvW n ⟨m.size, mdel p.1 m.kept, z.map (·.1), m.hits⟩ z := by
  have hn := h.nd
  simp only [List.map_cons, List.nodup_cons] at hn
  refine ⟨h.ms, rfl, hn.2, mdel_nodup h.kn, fun u hu => ?_, fun k hk => ?_⟩
  · rw [mget_mdel h.kn, if_neg (fun e : u.1 = p.1 => hn.1 (by rw [← e]; exact List.mem_map_of_mem (f := (·.1)) hu)), h.get u (List.mem_cons_of_mem _ hu)]
  · rw [mget_mdel h.kn]
    split
    · rfl
    · rename_i hne
      exact h.non k (by simp only [List.map_cons, List.mem_cons, not_or]; exact ⟨hne, hk⟩)
theorem nodup_at {α : Type} {l : List α} (h : l.Nodup) {i j : Nat} {a : α} (hi : l[i]? = some a) (hj : l[j]? = some a) : i = j := by
  obtain ⟨h1, h2⟩ := List.getElem?_eq_some_iff.1 hi
  obtain ⟨h3, h4⟩ := List.getElem?_eq_some_iff.1 hj
  exact (List.getElem_inj h).1 (h2.trans h4.symm)
theorem Inv.set {n : Nat} {m : PM} {z : List (Quest × Bool)} (h : Inv n m z) {q : Quest} {x y : Bool} {i : Nat} (hi : z[i]? = some (q, y)) : Inv n ⟨m.size, mset q x m.kept, m.age, m.hits⟩ (z.set i (q, x)) ∧ RefM.of n (z.set i (q, x)) = ⟨n, z.map (·.1), (z.map (·.2)).set i x⟩ := by
  have hmap : (z.set i (q, x)).map (·.1) = z.map (·.1) := by
    rw [List.map_set]
    apply List.ext_getElem?
    intro j
    rw [List.getElem?_set]
    split
    · rename_i hij; subst hij
      obtain ⟨hlt, _⟩ := List.getElem?_eq_some_iff.1 hi
      rw [if_pos (by simpa using hlt)]
      simp [hi]
    · rfl
  have hmi : (z.map (·.1))[i]? = some q := by simp [hi]
  refine ⟨⟨⟨h.ms, by rw [hmap]; exact h.age, by rw [hmap]; exact h.nd, mset_nodup h.kn, fun p hp => ?_, fun k hk => ?_⟩, by simpa using h.le⟩, ?_⟩
  · obtain ⟨j, hj⟩ := List.mem_iff_getElem?.1 hp
    rw [List.getElem?_set] at hj
    rw [mget_mset]
    split at hj
    · split at hj
      · cases hj; simp
      · cases hj
    · rename_i hij
      have hj1 : (z.map (·.1))[j]? = some p.1 := by simp [hj]
      rw [if_neg (fun e : p.1 = q => hij (nodup_at h.nd hmi (by rw [← e]; exact hj1))), h.get p (List.mem_of_getElem? hj)]
  · rw [hmap] at hk
    rw [mget_mset, if_neg (fun e => hk (by rw [e]; exact List.mem_of_getElem? hmi)), h.non k hk]
  · simp only [RefM.of, hmap, List.map_set]

theorem Inv.put {n : Nat} {m : PM} {z : List (Quest × Bool)} (h : Inv n m z) {q : Quest} {x : Bool} {rm : RefM} (hp : (RefM.of n z).Put q x rm) : ∃ z', Inv n (m.put q x) z' ∧ rm = RefM.of n z' := by
  rcases hp with ⟨i, hi, rfl⟩ | ⟨hq, rfl⟩
  · simp only [RefM.of, List.getElem?_map, Option.map_eq_some_iff] at hi
    obtain ⟨⟨q', y⟩, hz, hqq⟩ := hi
    simp only at hqq; subst hqq
    obtain ⟨h1, h2⟩ := h.set (x := x) hz
    have hg := h.get _ (List.mem_of_getElem? hz)
    have ha : m.age1 q' = m.age := by simp [PM.age1, hg]
    have hlt : ¬ m.size < (m.age1 q').length := by rw [ha, h.ms, h.age, List.length_map]; have := h.le; omega
    refine ⟨_, ?_, h2.symm⟩
    unfold PM.put
    rw [if_neg hlt, ha]
    exact h1
  · have hq' : q ∉ z.map (·.1) := hq
    have ha : m.age1 q = m.age ++ [q] := by simp [PM.age1, h.non q hq']
    have he := h.toInvW.ext x hq'
    have hlen : (m.age1 q).length = z.length + 1 := by rw [ha, h.age]; simp
    unfold PM.put
    by_cases hlt : m.size < (m.age1 q).length
    · rw [if_pos hlt, if_pos (by simp only [RefM.of]; rw [hlen, h.ms] at hlt; simpa using hlt)]
      rw [hlen, h.ms] at hlt
      cases z with
      | nil =>
        have ha' : m.age1 q = [q] := by rw [ha, h.age]; rfl
        rw [ha']
        have := (InvW.pop (z := []) he)
        exact ⟨[], ⟨this, by simp⟩, rfl⟩
      | cons p z =>
        have ha' : m.age1 q = p.1 :: ((z ++ [(q, x)]).map (·.1)) := by rw [ha, h.age]; simp
        rw [ha']
        have h1 := InvW.pop (p := p) (z := z ++ [(q, x)]) he
        exact ⟨z ++ [(q, x)], ⟨h1, by have := h.le; simp at this ⊢; omega⟩, by simp [RefM.of]⟩
    · rw [if_neg hlt, if_neg (by simp only [RefM.of]; rw [hlen, h.ms] at hlt; simpa using hlt)]
      rw [hlen, h.ms] at hlt
      rw [ha]
      exact ⟨z ++ [(q, x)], ⟨he, by simp; omega⟩, by simp [RefM.of]⟩

theorem fold_nodup {r : Int} : ∀ {L : List Quest} {M : List (Quest × Bool)}, (M.map (·.1)).Nodup → ((L.foldl (oldStep r) M).map (·.1)).Nodup
  | [], _, h => h
  | q :: L, M, h => by
    rw [List.foldl_cons]
    refine fold_nodup ?_
    unfold oldStep
    split
    · exact mdel_nodup h
    · exact h
theorem old_get {r : Int} {k q : Quest} {M : List (Quest × Bool)} (h : (M.map (·.1)).Nodup) : mget k (oldStep r M q) = if k = q ∧ old r q = true then none else mget k M := by
  unfold oldStep
  by_cases h1 : old r q = true
  · rw [if_pos h1, mget_mdel h]; simp [h1]
  · rw [if_neg h1]; simp [h1]
theorem fold_get {r : Int} {k : Quest} : ∀ {L : List Quest} {M : List (Quest × Bool)}, (M.map (·.1)).Nodup → mget k (L.foldl (oldStep r) M) = if k ∈ L ∧ old r k = true then none else mget k M
  | [], M, _ => by simp
  | q :: L, M, h => by
    rw [List.foldl_cons]
    have hn : ((oldStep r M q).map (·.1)).Nodup := by
      unfold oldStep
      split
      · exact mdel_nodup h
      · exact h
    rw [fold_get hn, old_get h]
    by_cases h1 : old r k = true
    · by_cases h2 : k ∈ L
      · simp [h1, h2]
      · by_cases h3 : k = q
        · subst h3; simp [h1]
        · simp [h2, h3]
    · by_cases h3 : k = q
      · subst h3; simp [h1]
      · simp [h1, h3]
theorem zip_maps {α β : Type} : ∀ z : List (α × β), (z.map (·.1)).zip (z.map (·.2)) = z
  | [] => rfl
  | p :: z => by simp [zip_maps z]
theorem upto_of {n : Nat} {z : List (Quest × Bool)} {r : Int} : upto (RefM.of n z) r (RefM.of n z).qs.length = z.filter (keeps r) := by
  unfold upto
  simp only [RefM.of, zip_maps, List.length_map, List.take_length]
theorem Inv.forget {n : Nat} {m : PM} {z : List (Quest × Bool)} (h : Inv n m z) (r : Int) : Inv n ⟨m.size, m.age.foldl (oldStep r) m.kept, m.age.filter fun q => !old r q, m.hits⟩ (z.filter (keeps r)) := by
  have hk : ∀ p : Quest × Bool, keeps r p = !old r p.1 := fun p => by simp [keeps, old]
  have hm : (z.filter (keeps r)).map (·.1) = (z.map (·.1)).filter fun q => !old r q := by
    rw [List.filter_map]
    congr 1
    apply List.filter_congr
    intro p _
    exact hk p
  refine ⟨⟨h.ms, by rw [hm, h.age], by rw [hm]; exact h.nd.filter _, fold_nodup h.kn, fun p hp => ?_, fun k hkn => ?_⟩, Nat.le_trans (List.length_filter_le _ _) h.le⟩
  · rw [List.mem_filter, hk] at hp
    rw [fold_get h.kn, if_neg (by simp only [Bool.not_eq_true'] at hp; simp [hp.2]), h.get p hp.1]
  · rw [hm, List.mem_filter] at hkn
    rw [fold_get h.kn, h.age]
    split
    · rfl
    · rename_i h1
      exact h.non k fun hc => by
        by_cases ho : old r k = true
        · exact h1 ⟨hc, ho⟩
        · exact hkn ⟨hc, by simp [ho]⟩
end Go.Proofs.Ythflndnbdgelnaa
