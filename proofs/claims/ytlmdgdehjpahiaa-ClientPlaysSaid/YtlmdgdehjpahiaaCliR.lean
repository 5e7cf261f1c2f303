/- Layer 25's law: what every row of calls answers. No condition. -/
import Derived.Test.YtlmdgdehjpahiaaCliQ
import Derived.Test.YtlmdgdehjpahiaaCliM
set_option linter.unusedVariables false
set_option maxRecDepth 4000
namespace Go.Proofs.Ytlmdgdehjpahiaa

structure CDo where
  kind : Int
  r : CR
  id : ByteArray
  secret : ByteArray
  uri : ByteArray
  vs : Value
  c : Cli
  scopes : List ByteArray
def CDo.enc (d : CDo) : List Value := [.int .i64 d.kind, .string d.r.id, .string d.r.secret, d.r.vu, d.r.vs, .string d.id, .string d.secret, .string d.uri, d.vs]
def CDo.is (R : Rds) (d : CDo) : Prop := CliR R d.r d.c ∧ RS R 1 encS d.vs d.scopes
/-- Both registries, side by side. -/
structure BothC (A : List Cli) (ps : List CP) : Prop where
  pm : A.Perm (clis ps)
  asc : (clis ps).Pairwise fun c d => sLt c.id d.id = true
  ok : ∀ c ∈ clis ps, c.check = 0
  few : A.length ≤ 64
theorem BothC.nd {A : List Cli} {ps : List CP} (h : BothC A ps) : ((clis ps).map (·.id)).Nodup := by
  rw [List.Nodup, List.pairwise_map]
  exact h.asc.imp fun {a b} hab he => by rw [he, sLt_irr] at hab; cases hab
theorem cget_perm {A B : List Cli} (h : A.Perm B) (hn : (B.map (·.id)).Nodup) (id : ByteArray) : cget id A = cget id B := by
  have key : ∀ (L : List Cli), (L.map (·.id)).Nodup → ∀ c, cget id L = some c ↔ c ∈ L ∧ c.id = id := by
    intro L hL c
    constructor
    · intro hc
      unfold cget at hc
      exact ⟨List.mem_of_find?_eq_some hc, by simpa using List.find?_some hc⟩
    · rintro ⟨hc, he⟩
      unfold cget
      induction L with
      | nil => cases hc
      | cons x L ih =>
        rw [List.map_cons, List.nodup_cons] at hL
        rw [List.find?_cons]
        by_cases hx : x.id = id
        · rw [decide_eq_true hx]
          rcases List.mem_cons.1 hc with rfl | hm
          · rfl
          · exact absurd (List.mem_map.2 ⟨c, hm, he.trans hx.symm⟩) hL.1
        · rw [decide_eq_false hx]
          rcases List.mem_cons.1 hc with rfl | hm
          · exact absurd he hx
          · exact ih hL.2 hm
  have hA : (A.map (·.id)).Nodup := (h.map _).nodup_iff.2 hn
  cases hb : cget id B with
  | some c => exact (key A hA c).2 ⟨h.mem_iff.2 ((key B hn c).1 hb).1, ((key B hn c).1 hb).2⟩
  | none =>
    cases ha : cget id A with
    | none => rfl
    | some c =>
      have := (key B hn c).2 ⟨h.mem_iff.1 ((key A hA c).1 ha).1, ((key A hA c).1 ha).2⟩
      rw [hb] at this; cases this
theorem BothC.get {A : List Cli} {ps : List CP} (h : BothC A ps) (id : ByteArray) : cget id A = cget id (clis ps) := cget_perm h.pm h.nd id
theorem BothC.code {A : List Cli} {ps : List CP} (h : BothC A ps) (c : Cli) : (cadd A c).1 = (cadd (clis ps) c).1 := by
  unfold cadd
  rw [h.get, h.pm.length_eq]
  split <;> (try rfl)
  split <;> (try rfl)
  split <;> rfl
theorem cadd_zero_iff {A : List Cli} {c : Cli} (h : (cadd A c).1 = 0) : cget c.id A = none := by
  unfold cadd at h
  split at h
  · rename_i h1; exact absurd h h1
  · split at h
    · simp at h
    · rename_i h2
      cases hg : cget c.id A with
      | none => rfl
      | some _ => rw [hg] at h2; simp at h2
theorem clis_cins {p : CP} {ps : List CP} : (clis (cins p ps)).Perm (p.2 :: clis ps) := gins_perm.map _
theorem BothC.add {A : List Cli} {ps : List CP} (h : BothC A ps) {r : CR} {c : Cli} {R : Rds} (hps : CL R ps) (hr : r.id = c.id) : BothC (cadd A c).2 (if (cadd (clis ps) c).1 = 0 then cins (r, c) ps else ps) := by
  have hcode := h.code c
  by_cases h0 : (cadd A c).1 = 0
  · obtain ⟨e1, e2, e3⟩ := cadd_zero h0
    rw [e1, if_pos (hcode ▸ h0)]
    have hno : cget c.id (clis ps) = none := cadd_zero_iff (hcode ▸ h0)
    refine ⟨?_, ?_, fun d hd => ?_, by simp; omega⟩
    · exact (List.perm_append_comm.trans (h.pm.cons c)).trans clis_cins.symm
    · have hs : (cins (r, c) ps).Pairwise fun p q => ltc ccmp p q = true := by
        refine gins_strict (lt := ltc ccmp) ccmp_so.tr ?_ fun q hq => ?_
        · have := h.asc
          rw [clis, List.pairwise_map] at this
          exact this.imp_of_mem fun {a b} ha hb hab => by rw [ltc_ccmp, (hps a ha).id, (hps b hb).id]; exact hab
        · have hne : q.2.id ≠ c.id := fun e => by
            have := List.find?_eq_none.1 hno q.2 (List.mem_map.2 ⟨q, hq, rfl⟩)
            simp [e] at this
          rw [ltc_ccmp, ltc_ccmp, (hps q hq).id]
          simp only [hr]
          cases h1 : sLt c.id q.2.id with
          | true => exact .inl rfl
          | false =>
            right
            cases h2 : sLt q.2.id c.id with
            | true => rfl
            | false => exact absurd (sLt_conn h2 h1) hne
      rw [clis, List.pairwise_map]
      refine hs.imp_of_mem fun {a b} ha hb hab => ?_
      have hid : ∀ p ∈ cins (r, c) ps, p.1.id = p.2.id := fun p hp => by
        rcases List.mem_cons.1 (gins_perm.mem_iff.1 hp) with rfl | hm
        · exact hr
        · exact (hps p hm).id
      rw [ltc_ccmp, hid a ha, hid b hb] at hab
      exact hab
    · rcases List.mem_cons.1 (clis_cins.mem_iff.1 hd) with rfl | hm
      · exact e2
      · exact h.ok d hm
  · have e : (cadd A c).2 = A := by
      unfold cadd at h0 ⊢
      split
      · rfl
      · split
        · rfl
        · split
          · rfl
          · rename_i h1 h2 h3
            rw [if_neg h1, if_neg h2, if_neg h3] at h0
            exact absurd rfl h0
    rw [e, if_neg (hcode ▸ h0)]
    exact h
theorem clis_rdel {id : ByteArray} {ps : List CP} : clis (rdel id ps) = cdel id (clis ps) := by
  unfold rdel cdel clis
  rw [List.filter_map]; rfl
theorem BothC.del {A : List Cli} {ps : List CP} (h : BothC A ps) (id : ByteArray) : BothC (cdel id A) (rdel id ps) := by
  refine ⟨?_, ?_, fun c hc => ?_, Nat.le_trans (List.length_filter_le _ _) h.few⟩
  · rw [clis_rdel]; exact h.pm.filter _
  · rw [clis_rdel]; exact h.asc.sublist List.filter_sublist
  · rw [clis_rdel] at hc; exact h.ok c (List.mem_filter.1 hc).1
end Go.Proofs.Ytlmdgdehjpahiaa
