/- Clients: which lists are a registry's; whether two lists are the same. No condition. -/
import Derived.Test.YtlmdgdehjpahiaaCliJ
import Derived.Test.YtlmdgdehjpahiaaCliH
set_option linter.unusedVariables false
set_option maxRecDepth 4000
namespace Go.Proofs.Ytlmdgdehjpahiaa

theorem sameC_iff {c d : Cli} : sameC c d = true ↔ c = d := by
  obtain ⟨a1, a2, a3, a4⟩ := c
  obtain ⟨b1, b2, b3, b4⟩ := d
  simp [sameC, and_assoc]
instance decCli : DecidableEq Cli := fun a b => decidable_of_iff (sameC a b = true) sameC_iff
theorem sameC_eq (c d : Cli) : sameC c d = decide (c = d) := by
  rw [Bool.eq_iff_iff, sameC_iff, decide_eq_true_eq]
def CL (R : Rds) (ps : List CP) : Prop := ∀ p ∈ ps, CliR R p.1 p.2
theorem CL.mono {R R' : Rds} {ps : List CP} (h : CL R ps) (hr : ∀ b o, R b o → R' b o) : CL R' ps := fun p hp => (h p hp).mono hr
abbrev clis (ps : List CP) : List Cli := ps.map (·.2)
theorem sameAll_spec (v w : Value) (ps qs : List CP) (R : Rds) (h : RS R 4 encC v ps) (h' : RS R 4 encC w qs) (hc : CL R ps) (hd : CL R qs) :
    Spec Try.prog 45 [v, w] R [] fun u H' => u = .bool (decide (clis ps = clis qs)) ∧ H' = [] := by
  have hle := h.le
  refine Spec.body Try.func45 rfl Try.results45 Try.ntmps45 rfl ?_
  refine .seq ?_
  refine .region ?_
  refine TriOps.q .assign ?_
  refine .nil ?_
  refine seqQ_n ?_
  refine .seq ?_
  refine .seq ?_
  refine .region ?_
  refine TriOps.q .move ?_
  refine TriOps.q (.lenR h) ?_
  refine TriOps.q .move ?_
  refine TriOps.q (.lenR h') ?_
  refine TriOps.q .neI ?_
  refine .nil ?_
  refine seqQ_n ?_
  refine .cond rfl (fun h1 => ?_) (fun h1 => ?_)
  · skip
    refine .seq ?_
    refine .region ?_
    refine TriOps.q .assign ?_
    refine .nil ?_
    refine seqQ_n ?_
    refine .ret (seqQ_r (retQ_r _ (.one (.tmp rfl)) (.none _) ?_))
    exact ⟨by rw [decide_eq_false (fun e : clis ps = clis qs => by have := congrArg List.length e; simp [clis] at this; simp [this] at h1)], rfl⟩
  · skip
    have hlen : ps.length = qs.length := by simp at h1; omega
    refine .skip ?_
    refine seqQ_n ?_
    refine .seq ?_
    refine .seq ?_
    refine .region ?_
    refine TriOps.q .assign ?_
    refine .nil ?_
    refine seqQ_n ?_
    refine .block ?_
    refine .loop (X := Nat) (fun i => i ≤ ps.length ∧ clis (ps.take i) = clis (qs.take i)) (fun i => [(0, v), (1, w), (5, .int .i64 (i : Nat))]) (fun _ => []) (fun i => ps.length - i) 0 ⟨by omega, by simp⟩ ((((EnvLe.nil _).cons rfl).cons rfl).cons rfl) (HLe.refl _) ?_
    rintro i ⟨hi, hs⟩
    refine .seq ?_
    refine .seq ?_
    refine .region ?_
    refine TriOps.q .move ?_
    refine TriOps.q .move ?_
    refine TriOps.q (.lenR h) ?_
    refine TriOps.q .lss ?_
    refine .nil ?_
    refine seqQ_n ?_
    refine .cond rfl (fun h2 => ?_) (fun h2 => ?_)
    · skip
      have hlt : i < ps.length := by simp at h2; omega
      obtain ⟨z, hz⟩ : ∃ z, ps[i]? = some z := ⟨_, List.getElem?_eq_getElem hlt⟩
      obtain ⟨y, hy⟩ : ∃ y, qs[i]? = some y := ⟨_, List.getElem?_eq_getElem (by omega)⟩
      have cz := hc z (List.mem_of_getElem? hz)
      have cy := hd y (List.mem_of_getElem? hy)
      have iz : Ones (encC z) := ⟨cz.ones⟩
      have iy : Ones (encC y) := ⟨cy.ones⟩
      refine .skip ?_
      refine seqQ_n ?_
      refine .seq ?_
      refine .block ?_
      refine .seq ?_
      refine .region_tail 8 mixed (by kernel_rfl) ?_
      conv => arg 6; dsimp only [List.take]
      refine TriOps.q .move ?_
      refine TriOps.q .move ?_
      refine TriOps.indexR i h hz (fun p19 => ?_)
      refine TriOps.q (.loadA rfl) ?_
      refine TriOps.q .move ?_
      refine TriOps.q .move ?_
      refine TriOps.indexR i h' hy (fun p23 => ?_)
      refine TriOps.q (.loadA rfl) ?_
      refine .nil ?_
      refine TriOps.callR (sameC_spec z.1 y.1 z.2 y.2 _ (cz.mono fun b o hb => .inl hb) (cy.mono fun b o hb => .inl hb)) (fun u hu => ?_)
      rw [sameC_eq] at hu
      subst hu
      refine TriOps.q .not ?_
      refine .nil ?_
      refine seqQ_n ?_
      refine .cond rfl (fun h3 => ?_) (fun h3 => ?_)
      · skip
        refine .seq ?_
        refine .region ?_
        refine TriOps.q .assign ?_
        refine .nil ?_
        refine seqQ_n ?_
        refine .ret (blkQ_r (seqQ_r (loopQ_r (blkQ_r (seqQ_r (retQ_r _ (.one (.tmp rfl)) (.none _) ?_))))))
        refine ⟨?_, rfl⟩
        have hne : z.2 ≠ y.2 := by simpa using h3
        rw [decide_eq_false (fun e : clis ps = clis qs => hne (by
          have := congrArg (fun l : List Cli => l[i]?) e
          simp only [clis, List.getElem?_map, hz, hy, Option.map_some, Option.some.injEq] at this
          exact this))]
      · skip
        refine .skip ?_
        refine blkQ_n (seqQ_n ?_)
        refine .region ?_
        refine TriOps.q .move ?_
        refine TriOps.q (.i64 ((i + 1 : Nat) : Int) .add ⟨by omega, by omega, by omega⟩) ?_
        refine TriOps.q .assign ?_
        refine .nil ?_
        exact loopQ_i (i + 1) ⟨by omega, by
          have e : z.2 = y.2 := by simpa using h3
          simp only [clis] at hs ⊢
          rw [List.take_add_one, List.take_add_one, List.map_append, List.map_append, hs, hz, hy]
          simp [e]⟩ (by omega) ((((EnvLe.nil _).cons rfl).cons rfl).cons rfl) (HLe.refl _)
    · skip
      refine .exit (seqQ_x (loopQ_x (blkQ_x ?_)))
      refine seqQ_n ?_
      refine .seq ?_
      refine .region ?_
      refine TriOps.q .assign ?_
      refine .nil ?_
      refine seqQ_n ?_
      refine .ret (retQ_r _ (.one (.tmp rfl)) (.none _) ?_)
      refine ⟨?_, rfl⟩
      have he : i = ps.length := by simp at h2; omega
      rw [he, List.take_length, List.take_of_length_le (by omega)] at hs
      rw [decide_eq_true hs]
def stepL (cs : List Cli) (i : Nat) : Bool := match cs[i]? with
  | none => true
  | some c => decide (c.check = 0) && (decide (i = 0) || match cs[i - 1]? with
    | none => true
    | some d => sLt d.id c.id)
def okP (cs : List Cli) (n : Nat) : Bool := (List.range n).all (stepL cs)
def okL (cs : List Cli) : Bool := decide (cs.length ≤ 64) && okP cs cs.length
theorem okP_succ {cs : List Cli} {i : Nat} : okP cs (i + 1) = (okP cs i && stepL cs i) := by
  simp [okP, List.range_succ]
theorem okP_le {cs : List Cli} {i n : Nat} (h : okP cs n = true) (hi : i ≤ n) : okP cs i = true := by
  simp only [okP, List.all_eq_true, List.mem_range] at h ⊢
  exact fun j hj => h j (by omega)
theorem stepL_some {cs : List Cli} {i : Nat} {c : Cli} (hc : cs[i]? = some c) (h : stepL cs i = true) : c.check = 0 ∧ (i = 0 ∨ ∃ d, cs[i - 1]? = some d ∧ sLt d.id c.id = true) := by
  have hlt := (List.getElem?_eq_some_iff.1 hc).1
  simp only [stepL, hc, Bool.and_eq_true, decide_eq_true_eq, Bool.or_eq_true] at h
  refine ⟨h.1, h.2.imp id fun h2 => ?_⟩
  obtain ⟨d, hd⟩ : ∃ d, cs[i - 1]? = some d := ⟨_, List.getElem?_eq_getElem (by omega)⟩
  rw [hd] at h2
  exact ⟨d, hd, h2⟩
theorem stepL_of {cs : List Cli} {i : Nat} {c : Cli} (hc : cs[i]? = some c) (h1 : c.check = 0) (h2 : i = 0 ∨ ∃ d, cs[i - 1]? = some d ∧ sLt d.id c.id = true) : stepL cs i = true := by
  simp only [stepL, hc, Bool.and_eq_true, decide_eq_true_eq, Bool.or_eq_true]
  refine ⟨h1, h2.imp id fun ⟨d, hd, hs⟩ => ?_⟩
  rw [hd]; exact hs
theorem okP_asc {cs : List Cli} : ∀ {i : Nat} {c : Cli}, okP cs (i + 1) = true → cs[i]? = some c → ∀ (j : Nat) (d : Cli), j < i → cs[j]? = some d → sLt d.id c.id = true
  | 0, c, _, _, j, d, hj, _ => by omega
  | i + 1, c, h, hc, j, d, hj, hd => by
    rw [okP_succ, Bool.and_eq_true] at h
    obtain ⟨_, h2⟩ := stepL_some hc h.2
    rcases h2 with h2 | ⟨e, he, hs⟩
    · omega
    · rw [Nat.add_sub_cancel] at he
      by_cases hji : j = i
      · subst hji
        rw [he] at hd; cases hd; exact hs
      · exact sLt_trans (okP_asc h.1 he j d (by omega) hd) hs
theorem okP_none {cs : List Cli} {i : Nat} {c : Cli} (h : okP cs (i + 1) = true) (hc : cs[i]? = some c) : cget c.id (cs.take i) = none := by
  unfold cget
  rw [List.find?_eq_none]
  intro d hd
  obtain ⟨j, hj, hje⟩ := List.mem_iff_getElem.1 hd
  have hj2 : j < i := by simp at hj; omega
  have hdj : cs[j]? = some d := by
    rw [List.getElem_take] at hje
    rw [List.getElem?_eq_getElem (by simp at hj; omega), hje]
  have := okP_asc h hc j d hj2 hdj
  simp only [decide_eq_true_eq]
  intro e
  rw [e, sLt_irr] at this; cases this
theorem okL_add {cs : List Cli} {i : Nat} {c : Cli} (h : okL cs = true) (hc : cs[i]? = some c) : stepL cs i = true ∧ cadd (cs.take i) c = (0, cs.take i ++ [c]) := by
  have hlt := (List.getElem?_eq_some_iff.1 hc).1
  simp only [okL, Bool.and_eq_true, decide_eq_true_eq] at h
  have h1 := okP_le h.2 (show i + 1 ≤ cs.length by omega)
  have h2 := h1
  rw [okP_succ, Bool.and_eq_true] at h2
  refine ⟨h2.2, ?_⟩
  have h3 := (stepL_some hc h2.2).1
  unfold cadd
  rw [if_neg (by simp [h3]), okP_none h1 hc]
  simp only [Option.isSome_none, Bool.false_eq_true, if_false]
  rw [if_neg (by simp; omega)]
theorem cadd_zero {A : List Cli} {c : Cli} (h : (cadd A c).1 = 0) : (cadd A c).2 = A ++ [c] ∧ c.check = 0 ∧ A.length < 64 := by
  unfold cadd at h ⊢
  split at h
  · rename_i h1; exact absurd h h1
  · rename_i h1
    split at h
    · simp at h
    · rename_i h2
      split at h
      · simp at h
      · rename_i h3
        rw [if_neg h1, if_neg h2, if_neg h3]
        exact ⟨rfl, by simpa using h1, by omega⟩
end Go.Proofs.Ytlmdgdehjpahiaa
