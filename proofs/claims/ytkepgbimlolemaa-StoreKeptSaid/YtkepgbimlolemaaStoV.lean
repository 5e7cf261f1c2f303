/- Lists of tuples in order: which they are, what is put in, what is taken out; stores change by change. No program, no condition. -/
import Derived.Test.YtkepgbimlolemaaStoQ
import Derived.Test.YtkepgbimlolemaaStoS
import Derived.Test.YtkepgbimlolemaaIns
set_option linter.unusedVariables false
set_option linter.unusedSimpArgs false
set_option maxRecDepth 4000
namespace Go.Proofs.Ytkepgbimlolemaa
abbrev strict (ys : List Tpl) : Prop := ys.Pairwise fun p q => tlt p q = true
theorem tlt_false {a b : Tpl} : ltc tplcmp a b = tlt a b := rfl
theorem tlt_tri {a b : Tpl} (h : a ≠ b) : tlt a b = true ∨ tlt b a = true := by
  unfold tlt
  have h1 := tplcmp_ok.sw a b
  have h2 := tplcmp_ok.sw b a
  have h3 : tplcmp a b ≠ 0 := fun e => h (tplcmp_zero e)
  rcases Int.lt_or_lt_of_ne h3 with h4 | h4
  · exact .inl (decide_eq_true h4)
  · exact .inr (decide_eq_true (by omega))
theorem tlt_asym {a b : Tpl} (h : tlt a b = true) : tlt b a = false := by
  unfold tlt at *
  have h1 := tplcmp_ok.sw a b
  have h2 := tplcmp_ok.sw b a
  have h := of_decide_eq_true h
  exact decide_eq_false (by omega)
theorem tlt_irr (a : Tpl) : tlt a a = false := by
  unfold tlt
  have := tplcmp_ok.refl a
  exact decide_eq_false (by omega)
theorem tlt_tr (x y z : Tpl) (h1 : tlt x y = true) (h2 : tlt y z = true) : tlt x z = true := by
  unfold tlt at *
  exact decide_eq_true (tplcmp_ok.t2 x y z (by have := of_decide_eq_true h1; omega) (of_decide_eq_true h2))
theorem strict.order {ys : List Tpl} (h : strict ys) : inOrder ys := h.imp fun {p q} hpq => tlt_asym hpq
theorem strict.of {ys : List Tpl} (h : inOrder ys) (hn : ys.Nodup) : strict ys := by
  refine (h.and hn).imp fun {p q} ⟨h1, h2⟩ => ?_
  rcases tlt_tri h2 with h3 | h3
  · exact h3
  · rw [tlt_false, h3] at h1; cases h1
theorem ord_uniq {xs ys : List Tpl} (hp : ys.Perm xs) (hx : inOrder xs) (hy : inOrder ys) : ys = xs := cmp_uniq tplcmp_ok (fun _ _ => tplcmp_zero) hp hx hy
theorem rdOK_uniq {S S' : Sto} {f : Tpl} {r r' : Int} {ys zs : List Tpl} (h : rdOK S f r ys) (h' : rdOK S' f r' zs) (he : (if scan S r then srd S f r else []) = if scan S' r' then srd S' f r' else []) : ys = zs := ord_uniq (h.1.trans (by rw [he]; exact h'.1.symm)) h'.2 h.2
theorem scan_iff {S : Sto} {r : Int} : scan S r = true ↔ S.hor ≤ r ∧ r ≤ S.head := by unfold scan; simp
theorem scan_no {S : Sto} {r : Int} : scan S r = false ↔ ¬ (S.hor ≤ r ∧ r ≤ S.head) := by rw [← scan_iff]; simp
theorem rdOK_not {S : Sto} {f : Tpl} {r : Int} {ys : List Tpl} (h : rdOK S f r ys) (hs : scan S r = false) : ys = [] := by
  have := h.1
  rw [hs] at this
  exact List.Perm.eq_nil this
theorem scollect_not {S : Sto} {h : Int} (hs : scan S h = false) : scollect S h = S := by unfold scollect; rw [hs]; rfl
theorem scollect_yes {S : Sto} {h : Int} (hs : scan S h = true) : scollect S h = ⟨S.rows.filter (skeep h), S.head, h⟩ := by unfold scollect; rw [if_pos hs]
/-- What is put into a store: each in its place. -/
structure WI (S : Sto) (cs : List Chg) (i : Nat) (W : List Tpl) : Prop where
  pm : W.Perm (srd ⟨(cs.take i).foldl (sapply (S.head + 1)) S.rows, S.head + 1, S.hor⟩ ⟨⟨#[]⟩, ⟨#[]⟩, ⟨#[]⟩, ⟨#[]⟩, ⟨#[]⟩, ⟨#[]⟩, ⟨#[]⟩⟩ (S.head + 1))
  st : strict W
theorem tmatch_all (t : Tpl) : tmatch (⟨⟨#[]⟩, ⟨#[]⟩, ⟨#[]⟩, ⟨#[]⟩, ⟨#[]⟩, ⟨#[]⟩, ⟨#[]⟩⟩ : Tpl) t = true := by unfold tmatch; simp
theorem srd_all {S : Sto} {r : Int} : srd S (⟨⟨#[]⟩, ⟨#[]⟩, ⟨#[]⟩, ⟨#[]⟩, ⟨#[]⟩, ⟨#[]⟩, ⟨#[]⟩⟩ : Tpl) r = (S.rows.filter fun x => x.there r).map (·.t) := by
  unfold srd
  congr 1
  exact List.filter_congr fun x _ => by rw [tmatch_all, Bool.and_true]
theorem there_head {S : Sto} (hS : SOK S) {x : SRow} (hx : x ∈ S.rows) : x.there S.head = (x.to == 0) := by
  obtain ⟨_, h1, h2, h3⟩ := hS.ok x hx
  unfold SRow.there
  rw [Bool.eq_iff_iff]
  simp only [Bool.and_eq_true, decide_eq_true_eq, Bool.or_eq_true, beq_iff_eq]
  omega
theorem WI.start {S : Sto} (hS : SOK S) {cs : List Chg} {W : List Tpl} (h : rdOK S (⟨⟨#[]⟩, ⟨#[]⟩, ⟨#[]⟩, ⟨#[]⟩, ⟨#[]⟩, ⟨#[]⟩, ⟨#[]⟩⟩ : Tpl) S.head W) : WI S cs 0 W := by
  have hsc : scan S S.head = true := scan_iff.2 ⟨hS.h1, Int.le_refl _⟩
  have h1 := h.1
  rw [if_pos hsc] at h1
  refine ⟨h1.trans (.of_eq ?_), strict.of h.2 (h1.nodup_iff.2 (hS.there_nd _ _))⟩
  rw [srd_all, srd_all, List.take_zero, List.foldl_nil]
  simp only
  congr 1
  refine List.filter_congr fun x hx => ?_
  rw [there_head hS hx]
  obtain ⟨_, h1, h2, h3⟩ := hS.ok x hx
  unfold SRow.there
  rw [Bool.eq_iff_iff]
  simp only [Bool.and_eq_true, decide_eq_true_eq, Bool.or_eq_true, beq_iff_eq]
  omega
theorem WI.next {S : Sto} (hS : SOK S) {cs : List Chg} (hw : WOK S cs) {i : Nat} {c : Chg} (hc : cs[i]? = some c) {W : List Tpl} (h : WI S cs i W) : WI S cs (i + 1) (if c.put then gins tlt c.t (W.filter fun t => decide (t ≠ c.t)) else W.filter fun t => decide (t ≠ c.t)) := by
  have hf := hS.fold (hw.take i)
  have e0 : cs.take (i + 1) = cs.take i ++ [c] := by rw [List.take_add_one, hc]; rfl
  have hout : c.t ∉ (cs.take i).map (·.t) := by
    have hn := (hw.take (i + 1)).nd
    rw [e0, List.map_append, List.nodup_append] at hn
    intro hm
    exact hn.2.2 _ hm _ (by simp) rfl
  obtain ⟨L, hL⟩ : ∃ L, L = (cs.take i).foldl (sapply (S.head + 1)) S.rows := ⟨_, rfl⟩
  have hth : sthere L c.t = sthere S.rows c.t := by rw [hL]; exact sthere_fold _ _ hout
  have hmem : c ∈ cs := List.mem_of_getElem? hc
  have hpm := h.pm
  rw [srd_all] at hpm
  rw [← hL] at hf hpm
  simp only at hpm
  have e1 : (cs.take (i + 1)).foldl (sapply (S.head + 1)) S.rows = sapply (S.head + 1) L c := by rw [e0, List.foldl_append, hL]; rfl
  have hr : ∀ x ∈ L, x.there (S.head + 1) = (x.to == 0) := fun x hx => there_head hf hx
  cases hp : c.put with
  | true =>
    have hno : c.t ∉ W := by
      intro hm
      obtain ⟨x, hx, hxt⟩ := List.mem_map.1 (hpm.mem_iff.1 hm)
      obtain ⟨hx1, hx2⟩ := List.mem_filter.1 hx
      rw [hr x hx1] at hx2
      have h0 := hw.away c hmem hp
      rw [← hth] at h0
      exact sthere_false.1 h0 x hx1 hxt (by simpa using hx2)
    have hff : (W.filter fun t => decide (t ≠ c.t)) = W := List.filter_eq_self.2 fun t ht => by
      have : t ≠ c.t := fun e => hno (e ▸ ht)
      simpa using this
    rw [if_pos rfl, hff]
    refine ⟨?_, gins_strict tlt_tr h.st fun y hy => tlt_tri fun e => hno (e ▸ hy)⟩
    refine gins_perm.trans ?_
    rw [srd_all, e1]
    unfold sapply
    rw [if_pos hp]
    simp only [List.filter_append, List.map_append]
    refine List.Perm.trans (hpm.cons c.t) ?_
    have : SRow.there ⟨c.t, S.head + 1, 0⟩ (S.head + 1) = true := by unfold SRow.there; simp
    rw [List.filter_cons, if_pos this]
    exact (List.perm_append_singleton _ _).symm
  | false =>
    rw [if_neg (by simp)]
    refine ⟨?_, h.st.sublist List.filter_sublist⟩
    refine (hpm.filter _).trans (.of_eq ?_)
    rw [srd_all, e1]
    unfold sapply
    rw [if_neg (by simp [hp])]
    simp only
    rw [List.filter_map, List.filter_map, List.map_map, List.filter_filter]
    have e2 : L.filter ((fun x => x.there (S.head + 1)) ∘ SRow.close c.t (S.head + 1)) = L.filter fun x => decide (x.t ≠ c.t) && x.there (S.head + 1) := List.filter_congr fun x hx => by
      simp only [Function.comp]
      rw [hr x hx]
      unfold SRow.close SRow.openOf
      by_cases h1 : x.t = c.t
      · by_cases h2 : x.to = 0
        · have h3 : S.head + 1 ≠ 0 := by have := hS.h0; have := hS.h1; omega
          simp [h1, h2, SRow.there, h3]
        · have h4 := hr x hx
          simp [h1, h2, h4]
      · have h4 := hr x hx
        simp [h1, h4]
    rw [e2]
    refine List.map_congr_left fun x hx => ?_
    simp only [Function.comp]
    unfold SRow.close
    split <;> rfl
theorem WI.done {S : Sto} (hS : SOK S) {must no : List Tpl} {cs : List Chg} (hc : scode S must no cs = 0) {W Z : List Tpl} (h : WI S cs cs.length W) (hz : rdOK (swrite S must no cs) (⟨⟨#[]⟩, ⟨#[]⟩, ⟨#[]⟩, ⟨#[]⟩, ⟨#[]⟩, ⟨#[]⟩, ⟨#[]⟩⟩ : Tpl) (S.head + 1) Z) : Z = W := by
  have hsw : swrite S must no cs = ⟨cs.foldl (sapply (S.head + 1)) S.rows, S.head + 1, S.hor⟩ := by unfold swrite; rw [if_pos hc]
  rw [hsw] at hz
  have hsc : scan ⟨cs.foldl (sapply (S.head + 1)) S.rows, S.head + 1, S.hor⟩ (S.head + 1) = true := scan_iff.2 ⟨by have := hS.h1; simp only; omega, Int.le_refl _⟩
  have h1 := hz.1
  rw [if_pos hsc] at h1
  have h2 := h.pm
  rw [List.take_length] at h2
  exact ord_uniq (h1.trans h2.symm) h.st.order hz.2
end Go.Proofs.Ytkepgbimlolemaa
