/- Stores, as plain lists of rows: what a write, a collection leave; what is there at a revision. No program, no condition. -/
import Derived.Test.YtkepgbimlolemaaStoA
import Derived.Test.YtkepgbimlolemaaIns
set_option linter.unusedVariables false
set_option maxRecDepth 4000
namespace Go.Proofs.Ytkepgbimlolemaa
structure SOK (S : Sto) : Prop where
  ok : ∀ x ∈ S.rows, isTpl x.t = true ∧ 1 ≤ x.fr ∧ x.fr ≤ S.head ∧ (x.to = 0 ∨ (x.fr < x.to ∧ S.hor < x.to ∧ x.to ≤ S.head))
  pw : S.rows.Pairwise fun x y => x.t = y.t → x.to ≠ 0 ∧ x.to ≤ y.fr
  len : S.rows.length ≤ 4096
  h0 : 0 ≤ S.hor
  h1 : S.hor ≤ S.head
  h2 : S.head ≤ 4611686018427387903
def srd (S : Sto) (f : Tpl) (r : Int) : List Tpl := (S.rows.filter fun x => x.there r && tmatch f x.t).map (·.t)
def closeAll (cs : List Chg) (r : Int) (x : SRow) : SRow := if x.to = 0 ∧ cs.any (fun c => !c.put && decide (c.t = x.t)) = true then ⟨x.t, x.fr, r⟩ else x
def news (cs : List Chg) (r : Int) : List SRow := (cs.filter (·.put)).map fun c => ⟨c.t, r, 0⟩
theorem closeAll_t {cs : List Chg} {r : Int} {x : SRow} : (closeAll cs r x).t = x.t ∧ (closeAll cs r x).fr = x.fr := by unfold closeAll; split <;> exact ⟨rfl, rfl⟩
theorem closeAll_shut {cs : List Chg} {r : Int} {x : SRow} (h : x.to ≠ 0) : closeAll cs r x = x := by unfold closeAll; rw [if_neg fun hh => h hh.1]
theorem closeAll_nil {r : Int} {x : SRow} : closeAll [] r x = x := by unfold closeAll; rw [if_neg (by simp)]
theorem sapply_all {r : Int} (hr : r ≠ 0) : ∀ (cs : List Chg) (L : List SRow), (cs.map (·.t)).Nodup → cs.foldl (sapply r) L = L.map (closeAll cs r) ++ news cs r
  | [], L, _ => by
    have : L.map (closeAll [] r) = L := by
      conv => rhs; rw [← List.map_id L]
      exact List.map_congr_left fun x _ => closeAll_nil
    simp [news, this]
  | c :: cs, L, hn => by
    rw [List.map_cons, List.nodup_cons] at hn
    rw [List.foldl_cons, sapply_all hr cs _ hn.2]
    have hfresh : ∀ x : SRow, x.t = c.t → closeAll cs r x = x := fun x hx => by
      unfold closeAll
      rw [if_neg]
      rintro ⟨_, h⟩
      obtain ⟨d, hd, hd2⟩ := List.any_eq_true.1 h
      simp only [Bool.and_eq_true, decide_eq_true_eq] at hd2
      exact hn.1 (List.mem_map.2 ⟨d, hd, hd2.2.trans hx⟩)
    cases hp : c.put with
    | true =>
      have e1 : closeAll (c :: cs) r = closeAll cs r := by
        funext x
        unfold closeAll
        simp only [List.any_cons, hp, Bool.not_true, Bool.false_and, Bool.false_or]
      have e2 : news (c :: cs) r = ⟨c.t, r, 0⟩ :: news cs r := by unfold news; rw [List.filter_cons, if_pos hp]; rfl
      rw [e1, e2]
      unfold sapply
      rw [if_pos hp, List.map_append, List.append_assoc]
      congr 1
      rw [List.map_cons, List.map_nil, hfresh _ rfl]; rfl
    | false =>
      have e2 : news (c :: cs) r = news cs r := by unfold news; rw [List.filter_cons, if_neg (by simp [hp])]
      rw [e2]
      unfold sapply
      rw [if_neg (by simp [hp]), List.map_map]
      congr 1
      refine List.map_congr_left fun x hx => ?_
      simp only [Function.comp]
      by_cases h1 : x.openOf c.t = true
      · have h2 : x.t = c.t ∧ x.to = 0 := by unfold SRow.openOf at h1; simpa using h1
        have e3 : SRow.close c.t r x = ⟨x.t, x.fr, r⟩ := by unfold SRow.close; rw [if_pos h1]
        rw [e3, closeAll_shut hr]
        unfold closeAll
        rw [if_pos ⟨h2.2, by simp [hp, h2.1]⟩]
      · have e3 : SRow.close c.t r x = x := by unfold SRow.close; rw [if_neg h1]
        rw [e3]
        unfold closeAll
        have h2 : x.to = 0 → ¬ c.t = x.t := fun h3 h4 => h1 (by unfold SRow.openOf; simp [h3, h4])
        by_cases h3 : x.to = 0
        · have h4 := h2 h3
          simp [h3, hp, h4]
        · rw [if_neg fun hh => h3 hh.1, if_neg fun hh => h3 hh.1]
structure WOK (S : Sto) (cs : List Chg) : Prop where
  right : ∀ c ∈ cs, isTpl c.t = true
  nd : (cs.map (·.t)).Nodup
  away : ∀ c ∈ cs, c.put = true → sthere S.rows c.t = false
  there : ∀ c ∈ cs, c.put = false → sthere S.rows c.t = true
  head : S.head < 4611686018427387903
  len : S.rows.length + sputs cs ≤ 4096 ∨ sputs cs = 0
theorem scode_zero {S : Sto} {must no : List Tpl} {cs : List Chg} (h : scode S must no cs = 0) : WOK S cs := by
  unfold scode at h
  split at h
  · rename_i h1; exact absurd h h1
  · rename_i h1
    have h1 : scheck must no cs = 0 := Classical.byContradiction h1
    unfold scheck at h1
    split at h1
    · cases h1
    · split at h1
      · cases h1
      · split at h1
        · cases h1
        · rename_i h2 h3 h4
          simp only [Bool.or_eq_true, not_or, List.any_eq_true, not_exists, not_and, Bool.not_eq_true', Bool.not_eq_false] at h3
          unfold sfits at h
          split at h
          · cases h
          · split at h
            · cases h
            · split at h
              · cases h
              · split at h
                · cases h
                · rename_i h5 h6 h7 h8
                  simp only [List.any_eq_true, not_exists, not_and, Bool.and_eq_true, Bool.not_eq_true', Bool.not_eq_true, Bool.not_eq_false] at h6 h7
                  refine ⟨fun c hc => h3.2 c hc, Classical.byContradiction h4, fun c hc hp => h6 c hc hp, fun c hc hp => h7 c hc hp, by omega, by omega⟩
theorem sthere_false {L : List SRow} {t : Tpl} : sthere L t = false ↔ ∀ x ∈ L, x.t = t → x.to ≠ 0 := by
  unfold sthere
  rw [List.any_eq_false]
  refine forall_congr' fun x => forall_congr' fun hx => ?_
  unfold SRow.openOf
  simp
theorem sthere_true {L : List SRow} {t : Tpl} : sthere L t = true ↔ ∃ x ∈ L, x.t = t ∧ x.to = 0 := by
  unfold sthere
  rw [List.any_eq_true]
  refine exists_congr fun x => ?_
  unfold SRow.openOf
  simp
theorem swrite_rows {S : Sto} (hS : SOK S) {must no : List Tpl} {cs : List Chg} (h : scode S must no cs = 0) : swrite S must no cs = ⟨S.rows.map (closeAll cs (S.head + 1)) ++ news cs (S.head + 1), S.head + 1, S.hor⟩ := by
  unfold swrite
  rw [if_pos h, sapply_all (by have := hS.h0; have := hS.h1; omega) _ _ (scode_zero h).nd]
theorem swrite_else {S : Sto} {must no : List Tpl} {cs : List Chg} (h : scode S must no cs ≠ 0) : swrite S must no cs = S := by unfold swrite; rw [if_neg h]
theorem news_mem {cs : List Chg} {r : Int} {x : SRow} : x ∈ news cs r ↔ ∃ c ∈ cs, c.put = true ∧ x = ⟨c.t, r, 0⟩ := by
  unfold news
  rw [List.mem_map]
  constructor
  · rintro ⟨c, hc, rfl⟩
    have := List.mem_filter.1 hc
    exact ⟨c, this.1, this.2, rfl⟩
  · rintro ⟨c, hc, hp, rfl⟩
    exact ⟨c, List.mem_filter.2 ⟨hc, hp⟩, rfl⟩
theorem SOK.write {S : Sto} (hS : SOK S) (must no : List Tpl) (cs : List Chg) : SOK (swrite S must no cs) := by
  by_cases h : scode S must no cs = 0
  · have hw := scode_zero h
    rw [swrite_rows hS h]
    have a0 := hS.h0; have a1 := hS.h1; have a2 := hS.h2; have a3 := hw.head
    refine ⟨fun x hx => ?_, ?_, ?_, a0, by simp only; omega, by simp only; omega⟩
    · simp only at hx ⊢
      rcases List.mem_append.1 hx with hx | hx
      · obtain ⟨y, hy, rfl⟩ := List.mem_map.1 hx
        obtain ⟨b1, b2, b3, b4⟩ := hS.ok y hy
        obtain ⟨c1, c2⟩ := closeAll_t (cs := cs) (r := S.head + 1) (x := y)
        rw [c1, c2]
        refine ⟨b1, b2, by omega, ?_⟩
        unfold closeAll
        split
        · right; simp only; omega
        · rcases b4 with b4 | b4
          · exact .inl b4
          · right; omega
      · obtain ⟨c, hc, hp, rfl⟩ := news_mem.1 hx
        exact ⟨hw.right c hc, by simp only; omega, by simp only; omega, .inl rfl⟩
    · simp only
      rw [List.pairwise_append]
      refine ⟨?_, ?_, fun x hx y hy => ?_⟩
      · rw [List.pairwise_map]
        refine hS.pw.imp fun {x y} hxy he => ?_
        obtain ⟨c1, c2⟩ := closeAll_t (cs := cs) (r := S.head + 1) (x := x)
        obtain ⟨c3, c4⟩ := closeAll_t (cs := cs) (r := S.head + 1) (x := y)
        rw [c1, c3] at he
        obtain ⟨d1, d2⟩ := hxy he
        rw [closeAll_shut d1, c4]
        exact ⟨d1, d2⟩
      · unfold news
        rw [List.pairwise_map]
        have := hw.nd
        rw [List.Nodup, List.pairwise_map] at this
        exact (this.sublist List.filter_sublist).imp fun {x y} hxy he => absurd he hxy
      · intro he
        obtain ⟨z, hz, rfl⟩ := List.mem_map.1 hx
        obtain ⟨c, hc, hp, rfl⟩ := news_mem.1 hy
        obtain ⟨c1, c2⟩ := closeAll_t (cs := cs) (r := S.head + 1) (x := z)
        rw [c1] at he
        have h5 := sthere_false.1 (hw.away c hc hp) z hz he
        rw [closeAll_shut h5]
        refine ⟨h5, ?_⟩
        obtain ⟨_, _, _, h6⟩ := hS.ok z hz
        simp only
        omega
    · simp only [List.length_append, List.length_map, news]
      have hl := hS.len
      have := hw.len
      unfold sputs at this
      omega
  · rw [swrite_else h]; exact hS
theorem SOK.collect {S : Sto} (hS : SOK S) (h : Int) : SOK (scollect S h) := by
  unfold scollect
  split
  · rename_i hc
    unfold scan at hc
    simp only [Bool.and_eq_true, decide_eq_true_eq] at hc
    have a0 := hS.h0; have a1 := hS.h1; have a2 := hS.h2
    refine ⟨fun x hx => ?_, hS.pw.sublist List.filter_sublist, Nat.le_trans (List.length_filter_le _ _) hS.len, by simp only; omega, by simp only; omega, a2⟩
    obtain ⟨h1, h2⟩ := List.mem_filter.1 hx
    obtain ⟨b1, b2, b3, b4⟩ := hS.ok x h1
    refine ⟨b1, b2, b3, ?_⟩
    unfold skeep at h2
    simp only [Bool.or_eq_true, beq_iff_eq, decide_eq_true_eq] at h2
    simp only
    omega
  · exact hS
/-- What is there: no tuple twice. -/
theorem SOK.there_nd {S : Sto} (hS : SOK S) (f : Tpl) (r : Int) : (srd S f r).Nodup := by
  unfold srd
  rw [List.Nodup, List.pairwise_map]
  refine (hS.pw.filter _).imp_of_mem fun {x y} hx hy hxy he => ?_
  obtain ⟨h1, h2⟩ := hxy he
  have h3 := (List.mem_filter.1 hx).2
  have h4 := (List.mem_filter.1 hy).2
  unfold SRow.there at h3 h4
  simp only [Bool.and_eq_true, decide_eq_true_eq, Bool.or_eq_true, beq_iff_eq] at h3 h4
  omega
theorem srd_mem {S : Sto} {f : Tpl} {r : Int} {t : Tpl} : t ∈ srd S f r ↔ ∃ x ∈ S.rows, x.t = t ∧ x.there r = true ∧ tmatch f t = true := by
  unfold srd
  rw [List.mem_map]
  constructor
  · rintro ⟨x, hx, rfl⟩
    obtain ⟨h1, h2⟩ := List.mem_filter.1 hx
    simp only [Bool.and_eq_true] at h2
    exact ⟨x, h1, rfl, h2⟩
  · rintro ⟨x, hx, rfl, h2, h3⟩
    exact ⟨x, List.mem_filter.2 ⟨hx, by simp [h2, h3]⟩, rfl⟩
theorem srd_map {L : List SRow} {g : SRow → SRow} {r : Int} {f : Tpl} (hg : ∀ x ∈ L, (g x).t = x.t ∧ (g x).there r = x.there r) : ((L.map g).filter fun x => x.there r && tmatch f x.t).map (·.t) = (L.filter fun x => x.there r && tmatch f x.t).map (·.t) := by
  rw [List.filter_map, List.map_map]
  have e1 : L.filter ((fun x => x.there r && tmatch f x.t) ∘ g) = L.filter fun x => x.there r && tmatch f x.t := List.filter_congr fun x hx => by
    simp only [Function.comp, (hg x hx).1, (hg x hx).2]
  rw [e1]
  exact List.map_congr_left fun x hx => (hg x (List.mem_filter.1 hx).1).1
/-- What was there is there still, behind a write. -/
theorem srd_write {S : Sto} (hS : SOK S) (must no : List Tpl) (cs : List Chg) (f : Tpl) {r : Int} (hr : r ≤ S.head) : srd (swrite S must no cs) f r = srd S f r := by
  by_cases h : scode S must no cs = 0
  · rw [swrite_rows hS h]
    unfold srd
    simp only
    rw [List.filter_append, List.map_append, srd_map fun x hx => ?_]
    · have : (news cs (S.head + 1)).filter (fun x => x.there r && tmatch f x.t) = [] := by
        rw [List.filter_eq_nil_iff]
        intro x hx
        obtain ⟨c, hc, hp, rfl⟩ := news_mem.1 hx
        unfold SRow.there
        simp only [Bool.and_eq_true, decide_eq_true_eq, not_and]
        intro h1; omega
      rw [this]; simp
    · refine ⟨closeAll_t.1, ?_⟩
      unfold closeAll
      split
      · rename_i h1
        unfold SRow.there
        simp only [h1.1]
        have : decide (r < S.head + 1) = true := decide_eq_true (by omega)
        rw [this]; simp
      · rfl
  · rw [swrite_else h]
theorem srd_collect {S : Sto} (hS : SOK S) (h : Int) (f : Tpl) {r : Int} (hr : (scollect S h).hor ≤ r) : srd (scollect S h) f r = srd S f r := by
  unfold scollect at hr ⊢
  split
  · rename_i hc
    rw [if_pos hc] at hr
    simp only at hr
    unfold srd
    simp only
    rw [List.filter_filter]
    congr 1
    refine List.filter_congr fun x hx => ?_
    unfold SRow.there skeep
    by_cases h1 : x.to = 0
    · simp [h1]
    · by_cases h2 : h < x.to
      · simp [h2]
      · have : ¬ r < x.to := by omega
        simp [h1, h2, this]
  · rfl
end Go.Proofs.Ytkepgbimlolemaa
