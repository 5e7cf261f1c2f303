/- Layer 25's reference: a registry as a list in order: Find, Auth, Redirect, Asks. No condition. -/
import Derived.Test.YtlmdgdehjpahiaaCliN
import Derived.Test.YtlmdgdehjpahiaaIns
set_option linter.unusedVariables false
set_option maxRecDepth 4000
namespace Go.Proofs.Ytlmdgdehjpahiaa

/-- The reference's registry: its list; what the clients lead to is read. -/
def RL (g : Nat) (ps : List CP) (T : Seg) : Prop := ∃ vt Tt, T = (g, .cells [vt].toArray 94 (0, 0)) :: Tt ∧ OS 35 4 encC vt ps Tt ∧ ps.length ≤ 64
def FindR (id : ByteArray) (L : List Cli) (z : Int) : Prop := (z = -1 ∧ cget id L = none) ∨ ∃ (i : Nat) (c : Cli), z = (i : Int) ∧ L[i]? = some c ∧ c.id = id ∧ cget id L = some c
theorem cget_take {id : ByteArray} {L : List Cli} {i : Nat} {c : Cli} (hc : L[i]? = some c) (hn : cget id (L.take i) = none) (hne : c.id ≠ id) : cget id (L.take (i + 1)) = none := by
  unfold cget at hn ⊢
  rw [List.take_add_one, hc, List.find?_append, hn]
  simp [hne]
theorem cget_hit {id : ByteArray} {L : List Cli} {i : Nat} {c : Cli} (hc : L[i]? = some c) (hn : cget id (L.take i) = none) (he : c.id = id) : cget id L = some c := by
  unfold cget at hn ⊢
  have hlt := (List.getElem?_eq_some_iff.1 hc).1
  have e : L = L.take i ++ c :: L.drop (i + 1) := by
    have h1 := List.take_append_drop i L
    rw [List.drop_eq_getElem_cons hlt, (List.getElem?_eq_some_iff.1 hc).2] at h1
    exact h1.symm
  rw [e, List.find?_append, hn]
  simp [he]
theorem rfind_spec (g : Nat) (ps : List CP) (T : Seg) (h : RL g ps T) (id : ByteArray) (R : Rds) (hc : CL R ps) (hr : ∀ p ∈ T, R p.1 p.2) :
    Spec Try.prog 50 [.pointer (some ⟨g, 0, none⟩), .string id] R [] fun u H' => (∃ z, u = .int .i64 z ∧ FindR id (clis ps) z) ∧ H' = [] := by
  obtain ⟨vt, Tt, rfl, hO, hl⟩ := h
  have pq : PC R (.pointer (some ⟨g, 0, none⟩)) [vt] := PC.of (E := 94) (fr := (0, 0)) (hr (g, .cells [vt].toArray 94 (0, 0)) (by simp))
  have hs : RS R 4 encC vt ps := hO.rs fun p hp => hr p (by simp [hp])
  have i1 := hO.oneCell
  refine Spec.body Try.func50 rfl Try.results50 Try.ntmps50 rfl ?_
  refine .seq ?_
  refine .region ?_
  refine TriOps.q .assign ?_
  refine .nil ?_
  refine seqQ_n ?_
  refine .seq ?_
  refine .seq ?_
  refine .region ?_
  refine TriOps.q .assign ?_
  refine .nil ?_
  refine seqQ_n ?_
  refine .block ?_
  refine .loop (X := Nat) (fun i => i ≤ ps.length ∧ cget id ((clis ps).take i) = none) (fun i => [(0, .pointer (some ⟨g, 0, none⟩)), (1, .string id), (5, .int .i64 (i : Nat))]) (fun _ => []) (fun i => ps.length - i) 0 ⟨by omega, rfl⟩ ((((EnvLe.nil _).cons rfl).cons rfl).cons rfl) (HLe.refl _) ?_
  rintro i ⟨hi, hn⟩
  refine .seq ?_
  refine .seq ?_
  refine .region ?_
  refine TriOps.q .move ?_
  refine TriOps.q .move ?_
  refine TriOps.q (.nilCheck rfl) ?_
  refine TriOps.q (.fieldAddr rfl) ?_
  refine TriOps.q (.load1 rfl) ?_
  refine TriOps.q (.lenR hs) ?_
  refine TriOps.q .lss ?_
  refine .nil ?_
  refine seqQ_n ?_
  refine .cond rfl (fun h1 => ?_) (fun h1 => ?_)
  · skip
    have hlt : i < ps.length := by have := of_decide_eq_true h1; omega
    obtain ⟨z, hz⟩ : ∃ z, ps[i]? = some z := ⟨_, List.getElem?_eq_getElem hlt⟩
    have cz := hc z (List.mem_of_getElem? hz)
    have iz : Ones (encC z) := ⟨cz.ones⟩
    have hzc : (clis ps)[i]? = some z.2 := by simp [clis, hz]
    refine .skip ?_
    refine seqQ_n ?_
    refine .seq ?_
    refine .block ?_
    refine .seq ?_
    refine .region ?_
    refine TriOps.q .move ?_
    refine TriOps.q (.nilCheck rfl) ?_
    refine TriOps.q (.fieldAddr rfl) ?_
    refine TriOps.q (.load1 rfl) ?_
    refine TriOps.q .move ?_
    refine TriOps.indexR i hs hz (fun p20 => ?_)
    refine TriOps.q (.fieldAddr rfl) ?_
    refine TriOps.q (.load1 rfl) ?_
    refine TriOps.q .move ?_
    refine TriOps.q .eqS ?_
    refine .nil ?_
    refine seqQ_n ?_
    refine .cond rfl (fun h2 => ?_) (fun h2 => ?_)
    · skip
      refine .seq ?_
      refine .region ?_
      refine TriOps.q .move ?_
      refine TriOps.q .assign ?_
      refine .nil ?_
      refine seqQ_n ?_
      refine .ret (blkQ_r (seqQ_r (loopQ_r (blkQ_r (seqQ_r (retQ_r _ (.one (.tmp rfl)) (.none _) ?_))))))
      have he : z.1.id = id := of_decide_eq_true h2
      rw [cz.id] at he
      exact ⟨⟨_, rfl, .inr ⟨i, z.2, rfl, hzc, he, cget_hit hzc hn he⟩⟩, rfl⟩
    · skip
      refine .skip ?_
      refine blkQ_n (seqQ_n ?_)
      refine .region ?_
      refine TriOps.q .move ?_
      refine TriOps.q (.i64 ((i + 1 : Nat) : Int) .add ⟨by omega, by omega, by omega⟩) ?_
      refine TriOps.q .assign ?_
      refine .nil ?_
      exact loopQ_i (i + 1) ⟨by omega, cget_take hzc hn (by
        have h2' : ¬ z.1.id = id := of_decide_eq_false h2
        rw [← cz.id]; exact h2')⟩ (by omega) ((((EnvLe.nil _).cons rfl).cons rfl).cons rfl) (HLe.refl _)
  · skip
    refine .exit (seqQ_x (loopQ_x (blkQ_x ?_)))
    refine seqQ_n ?_
    refine .seq ?_
    refine .region ?_
    refine TriOps.q .assign ?_
    refine .nil ?_
    refine seqQ_n ?_
    refine .ret (retQ_r _ (.one (.tmp rfl)) (.none _) ?_)
    have hi2 : i = ps.length := by have := of_decide_eq_false h1; omega
    rw [hi2, List.take_of_length_le (by simp [clis])] at hn
    exact ⟨⟨_, rfl, .inl ⟨rfl, hn⟩⟩, rfl⟩
theorem rauth_spec (g : Nat) (ps : List CP) (T : Seg) (h : RL g ps T) (id sec : ByteArray) (R : Rds) (hc : CL R ps) (hr : ∀ p ∈ T, R p.1 p.2) :
    Spec Try.prog 52 [.pointer (some ⟨g, 0, none⟩), .string id, .string sec] R [] fun u H' => u = .int .i64 (if (cget id (clis ps)).map (·.secret) = some sec then 0 else 17) ∧ H' = [] := by
  have h0 := h
  obtain ⟨vt, Tt, rfl, hO, hl⟩ := h
  have pq : PC R (.pointer (some ⟨g, 0, none⟩)) [vt] := PC.of (E := 94) (fr := (0, 0)) (hr (g, .cells [vt].toArray 94 (0, 0)) (by simp))
  have hs : RS R 4 encC vt ps := hO.rs fun p hp => hr p (by simp [hp])
  have i1 := hO.oneCell
  refine Spec.body Try.func52 rfl Try.results52 Try.ntmps52 rfl ?_
  refine .seq ?_
  refine .region ?_
  refine TriOps.q .assign ?_
  refine .nil ?_
  refine seqQ_n ?_
  refine .seq ?_
  refine .region ?_
  refine TriOps.q .move ?_
  refine TriOps.q .move ?_
  refine TriOps.callR (rfind_spec g ps _ h0 id _ (hc.mono fun b o hb => .inl hb) fun p hp => .inl (hr p hp)) (fun u hu => ?_)
  obtain ⟨z, rfl, hz⟩ := hu
  refine TriOps.q .assign ?_
  refine .nil ?_
  refine seqQ_n ?_
  refine .seq ?_
  refine .seq ?_
  refine .region ?_
  refine TriOps.q .move ?_
  refine TriOps.q .lss ?_
  refine TriOps.q .move ?_
  refine TriOps.split (t := 13) rfl (fun g2_2 => ?_) (fun g2_2 => ?_)
  · skip
    have hno : cget id (clis ps) = none := by
      rcases hz with ⟨_, h1⟩ | ⟨i, c, h1, _⟩
      · exact h1
      · have := of_decide_eq_true g2_2; omega
    refine TriOps.gF g2_2 ?_
    refine TriOps.gF g2_2 ?_
    refine TriOps.gF g2_2 ?_
    refine TriOps.gF g2_2 ?_
    refine TriOps.gF g2_2 ?_
    refine TriOps.gF g2_2 ?_
    refine TriOps.gF g2_2 ?_
    refine TriOps.gF g2_2 ?_
    refine TriOps.gF g2_2 ?_
    refine TriOps.gF g2_2 ?_
    refine TriOps.q (.pickTh g2_2) ?_
    refine .nil ?_
    refine seqQ_n ?_
    refine .condT ?_
    refine .seq ?_
    refine .region ?_
    refine TriOps.q .assign ?_
    refine .nil ?_
    refine seqQ_n ?_
    refine .ret (seqQ_r (retQ_r _ (.one (.tmp rfl)) (.none _) ?_))
    refine ⟨?_, rfl⟩
    first
      | (rw [hno]; rfl)
      | (rw [hg, ← hyc, Option.map_some]
         have hne : ¬ y.1.secret = sec := by simpa using h1
         rw [cy.secret] at hne
         rw [if_neg (by simpa using hne)]
         done)
      | (rw [hg, ← hyc, Option.map_some]
         have hne : y.1.secret = sec := by simpa using h1
         rw [cy.secret] at hne
         rw [if_pos (by simpa using hne)])
  · skip
    obtain ⟨i, c, rfl, hic, hid, hg⟩ : ∃ (i : Nat) (c : Cli), z = (i : Int) ∧ (clis ps)[i]? = some c ∧ c.id = id ∧ cget id (clis ps) = some c := by
      rcases hz with ⟨h1, _⟩ | h1
      · have := of_decide_eq_false g2_2; omega
      · exact h1
    obtain ⟨y, hy, hyc⟩ : ∃ y, ps[i]? = some y ∧ y.2 = c := by
      simp only [clis, List.getElem?_map] at hic
      cases hp : ps[i]? with
      | none => rw [hp] at hic; cases hic
      | some y => rw [hp] at hic; simp only [Option.map_some, Option.some.injEq] at hic; exact ⟨y, rfl, hic⟩
    have cy := hc y (List.mem_of_getElem? hy)
    have iy : Ones (encC y) := ⟨cy.ones⟩
    refine TriOps.gT g2_2 ?_
    refine TriOps.q .move ?_
    refine TriOps.gT g2_2 ?_
    refine TriOps.q (.nilCheck rfl) ?_
    refine TriOps.gT g2_2 ?_
    refine TriOps.q (.fieldAddr rfl) ?_
    refine TriOps.gT g2_2 ?_
    refine TriOps.q (.load1 rfl) ?_
    refine TriOps.gT g2_2 ?_
    refine TriOps.q .move ?_
    refine TriOps.gT g2_2 ?_
    refine TriOps.indexR i hs hy (fun p19 => ?_)
    refine TriOps.gT g2_2 ?_
    refine TriOps.q (.fieldAddr rfl) ?_
    refine TriOps.gT g2_2 ?_
    refine TriOps.q (.load1 rfl) ?_
    refine TriOps.gT g2_2 ?_
    refine TriOps.q .move ?_
    refine TriOps.gT g2_2 ?_
    refine TriOps.q .neS ?_
    refine TriOps.q (.pickFh g2_2) ?_
    refine .nil ?_
    refine seqQ_n ?_
    refine .cond rfl (fun h1 => ?_) (fun h1 => ?_)
    · skip
      refine .seq ?_
      refine .region ?_
      refine TriOps.q .assign ?_
      refine .nil ?_
      refine seqQ_n ?_
      refine .ret (seqQ_r (retQ_r _ (.one (.tmp rfl)) (.none _) ?_))
      refine ⟨?_, rfl⟩
      first
        | (rw [hno]; rfl)
        | (rw [hg, ← hyc, Option.map_some]
           have hne : ¬ y.1.secret = sec := by simpa using h1
           rw [cy.secret] at hne
           rw [if_neg (by simpa using hne)]
           done)
        | (rw [hg, ← hyc, Option.map_some]
           have hne : y.1.secret = sec := by simpa using h1
           rw [cy.secret] at hne
           rw [if_pos (by simpa using hne)])
    · skip
      refine .skip ?_
      refine seqQ_n ?_
      refine .seq ?_
      refine .region ?_
      refine TriOps.q .assign ?_
      refine .nil ?_
      refine seqQ_n ?_
      refine .ret (retQ_r _ (.one (.tmp rfl)) (.none _) ?_)
      refine ⟨?_, rfl⟩
      first
        | (rw [hno]; rfl)
        | (rw [hg, ← hyc, Option.map_some]
           have hne : ¬ y.1.secret = sec := by simpa using h1
           rw [cy.secret] at hne
           rw [if_neg (by simpa using hne)]
           done)
        | (rw [hg, ← hyc, Option.map_some]
           have hne : y.1.secret = sec := by simpa using h1
           rw [cy.secret] at hne
           rw [if_pos (by simpa using hne)])
theorem of_not_true {b : Bool} (h : (!b) = true) : b = false := by simpa using h
theorem casks_dup {id : ByteArray} {l : List ByteArray} {A : List Cli} (h : (!decide l.Nodup) = true) : casks id l A = false := by
  unfold casks; rw [of_not_true h, Bool.false_and, Bool.and_false, Bool.and_false]
theorem rl_open {g : Nat} {ps : List CP} {R : Rds} (hc : CL R ps) {id : ByteArray} {z : Int} (hz : FindR id (clis ps) z) (h0 : ¬ z < 0) : ∃ (i : Nat) (y : CP), z = (i : Int) ∧ ps[i]? = some y ∧ CliR R y.1 y.2 ∧ y.2.id = id ∧ cget id (clis ps) = some y.2 := by
  rcases hz with ⟨h1, _⟩ | ⟨i, c, rfl, hic, hid, hg⟩
  · omega
  · simp only [clis, List.getElem?_map] at hic
    cases hp : ps[i]? with
    | none => rw [hp] at hic; cases hic
    | some y =>
      rw [hp] at hic
      simp only [Option.map_some, Option.some.injEq] at hic
      subst hic
      exact ⟨i, y, rfl, hp, hc y (List.mem_of_getElem? hp), hid, hg⟩
theorem rl_none {ps : List CP} {id : ByteArray} {z : Int} (hz : FindR id (clis ps) z) (h0 : z < 0) : cget id (clis ps) = none := by
  rcases hz with ⟨_, h1⟩ | ⟨i, c, h1, _⟩
  · exact h1
  · omega
theorem rredirect_spec (g : Nat) (ps : List CP) (T : Seg) (h : RL g ps T) (id uri : ByteArray) (R : Rds) (hc : CL R ps) (hr : ∀ p ∈ T, R p.1 p.2) :
    Spec Try.prog 54 [.pointer (some ⟨g, 0, none⟩), .string id, .string uri] R [] fun u H' => u = .bool (credi id uri (clis ps)) ∧ H' = [] := by
  have h0 := h
  obtain ⟨vt, Tt, rfl, hO, hl⟩ := h
  have pq : PC R (.pointer (some ⟨g, 0, none⟩)) [vt] := PC.of (E := 94) (fr := (0, 0)) (hr (g, .cells [vt].toArray 94 (0, 0)) (by simp))
  have hs : RS R 4 encC vt ps := hO.rs fun p hp => hr p (by simp [hp])
  have i1 := hO.oneCell
  refine Spec.body Try.func54 rfl Try.results54 Try.ntmps54 rfl ?_
  refine .seq ?_
  refine .region ?_
  refine TriOps.q .assign ?_
  refine .nil ?_
  refine seqQ_n ?_
  refine .seq ?_
  refine .region ?_
  refine TriOps.q .move ?_
  refine TriOps.q .move ?_
  refine TriOps.callR (rfind_spec g ps _ h0 id _ (hc.mono fun b o hb => .inl hb) fun p hp => .inl (hr p hp)) (fun u hu => ?_)
  obtain ⟨z, rfl, hz⟩ := hu
  refine TriOps.q .assign ?_
  refine .nil ?_
  refine seqQ_n ?_
  refine .seq ?_
  refine .region ?_
  refine TriOps.q .move ?_
  refine TriOps.q .geq ?_
  refine TriOps.q .move ?_
  refine TriOps.split (t := 13) rfl (fun g2_2 => ?_) (fun g2_2 => ?_)
  · skip
    obtain ⟨i, y, rfl, hy, cy, hid, hg⟩ := rl_open (g := g) hc hz (by have := of_decide_eq_true g2_2; omega)
    have iy : Ones (encC y) := ⟨cy.ones⟩
    obtain ⟨⟨yid, ysec, yu, ys⟩, yc⟩ := y
    have hyu := cy.u
    have i2 := hyu.oneCell
    refine TriOps.gT g2_2 ?_
    refine TriOps.q .move ?_
    refine TriOps.gT g2_2 ?_
    refine TriOps.q (.nilCheck rfl) ?_
    refine TriOps.gT g2_2 ?_
    refine TriOps.q (.fieldAddr rfl) ?_
    refine TriOps.gT g2_2 ?_
    refine TriOps.q (.load1 rfl) ?_
    refine TriOps.gT g2_2 ?_
    refine TriOps.q .move ?_
    refine TriOps.gT g2_2 ?_
    refine TriOps.indexR i hs hy (fun p19 => ?_)
    refine TriOps.gT g2_2 ?_
    refine TriOps.q (.fieldAddr rfl) ?_
    refine TriOps.gT g2_2 ?_
    refine TriOps.q (.load1 rfl) ?_
    refine TriOps.gT g2_2 ?_
    refine TriOps.q .move ?_
    refine TriOps.gT g2_2 ?_
    refine TriOps.callR (has_spec yu yc.uris uri _ hyu.rx) (fun u hu => ?_)
    subst hu
    refine TriOps.q (.pickTh g2_2) ?_
    refine TriOps.q .assign ?_
    refine .nil ?_
    refine seqQ_n ?_
    refine .ret (retQ_r _ (.one (.tmp rfl)) (.none _) ?_)
    refine ⟨?_, rfl⟩
    first
      | (unfold credi; rw [hg]; rfl)
      | (unfold credi; rw [hno]; simp [Cli.zero])
  · skip
    have hno := rl_none hz (by have := of_decide_eq_false g2_2; omega)
    refine TriOps.gF g2_2 ?_
    refine TriOps.gF g2_2 ?_
    refine TriOps.gF g2_2 ?_
    refine TriOps.gF g2_2 ?_
    refine TriOps.gF g2_2 ?_
    refine TriOps.gF g2_2 ?_
    refine TriOps.gF g2_2 ?_
    refine TriOps.gF g2_2 ?_
    refine TriOps.gF g2_2 ?_
    refine TriOps.gF g2_2 ?_
    refine TriOps.q (.pickFh g2_2) ?_
    refine TriOps.q .assign ?_
    refine .nil ?_
    refine seqQ_n ?_
    refine .ret (retQ_r _ (.one (.tmp rfl)) (.none _) ?_)
    refine ⟨?_, rfl⟩
    first
      | (unfold credi; rw [hg]; rfl)
      | (unfold credi; rw [hno]; simp [Cli.zero])
theorem rasks_spec (g : Nat) (ps : List CP) (T : Seg) (h : RL g ps T) (id : ByteArray) (w : Value) (l : List ByteArray) (R : Rds) (hc : CL R ps) (hr : ∀ p ∈ T, R p.1 p.2) (hw : RS R 1 encS w l) :
    Spec Try.prog 56 [.pointer (some ⟨g, 0, none⟩), .string id, w] R [] fun u H' => u = .bool (casks id l (clis ps)) ∧ H' = [] := by
  have h0 := h
  have hle := hw.le
  obtain ⟨vt, Tt, rfl, hO, hl⟩ := h
  have pq : PC R (.pointer (some ⟨g, 0, none⟩)) [vt] := PC.of (E := 94) (fr := (0, 0)) (hr (g, .cells [vt].toArray 94 (0, 0)) (by simp))
  have hs : RS R 4 encC vt ps := hO.rs fun p hp => hr p (by simp [hp])
  have i1 := hO.oneCell
  have i0 := hw.oneCell
  refine Spec.body Try.func56 rfl Try.results56 Try.ntmps56 rfl ?_
  refine .seq ?_
  refine .region ?_
  refine TriOps.q .assign ?_
  refine .nil ?_
  refine seqQ_n ?_
  refine .seq ?_
  refine .region ?_
  refine TriOps.q .move ?_
  refine TriOps.q .move ?_
  refine TriOps.callR (rfind_spec g ps _ h0 id _ (hc.mono fun b o hb => .inl hb) fun p hp => .inl (hr p hp)) (fun u hu => ?_)
  obtain ⟨z, rfl, hz⟩ := hu
  refine TriOps.q .assign ?_
  refine .nil ?_
  refine seqQ_n ?_
  refine .seq ?_
  refine .seq ?_
  refine .region ?_
  refine TriOps.q .move ?_
  refine TriOps.q .lss ?_
  refine TriOps.q .move ?_
  refine TriOps.split (t := 14) rfl (fun g2_2 => ?_) (fun g2_2 => ?_)
  · skip
    have hval : casks id l (clis ps) = false := by
      have hno := rl_none hz (of_decide_eq_true g2_2)
      unfold casks; rw [hno]; rfl
    refine TriOps.gF g2_2 ?_
    refine TriOps.gF g2_2 ?_
    refine TriOps.gF g2_2 ?_
    refine TriOps.q (.pickTh g2_2) ?_
    refine TriOps.q .move ?_
    refine TriOps.gf rfl rfl ?_
    refine TriOps.gf rfl rfl ?_
    refine TriOps.q .pickT ?_
    refine .nil ?_
    refine seqQ_n ?_
    refine .condT ?_
    first | have hval := casks_dup (id := id) (A := clis ps) h1 | skip
    refine .seq ?_
    refine .region ?_
    refine TriOps.q .assign ?_
    refine .nil ?_
    refine seqQ_n ?_
    refine .ret (seqQ_r (retQ_r _ (.one (.tmp rfl)) (.none _) ?_))
    exact ⟨by rw [hval], rfl⟩
  · skip
    obtain ⟨i, y, rfl, hy, cy, hid, hg⟩ := rl_open (g := g) hc hz (of_decide_eq_false g2_2)
    have iy : Ones (encC y) := ⟨cy.ones⟩
    obtain ⟨⟨yid, ysec, yu, ys⟩, yc⟩ := y
    have hys := cy.s
    have i2 := hys.oneCell
    have i3 := cy.u.oneCell
    refine TriOps.gT g2_2 ?_
    refine TriOps.q .move ?_
    refine TriOps.gT g2_2 ?_
    refine TriOps.q (.lenR hw) ?_
    refine TriOps.gT g2_2 ?_
    refine TriOps.q .eqI ?_
    refine TriOps.q (.pickFh g2_2) ?_
    refine TriOps.q .move ?_
    refine TriOps.split (t := 19) rfl (fun g2_7 => ?_) (fun g2_7 => ?_)
    · skip
      have hval : casks id l (clis ps) = false := by
        have hl0 : l.length = 0 := by simpa using g2_7
        have h0 : decide (0 < l.length) = false := decide_eq_false (by omega)
        unfold casks
        rw [h0, Bool.false_and, Bool.and_false]
      refine TriOps.gF g2_7 ?_
      refine TriOps.gF g2_7 ?_
      refine TriOps.q (.pickTh g2_7) ?_
      refine .nil ?_
      refine seqQ_n ?_
      refine .condT ?_
      first | have hval := casks_dup (id := id) (A := clis ps) h1 | skip
      refine .seq ?_
      refine .region ?_
      refine TriOps.q .assign ?_
      refine .nil ?_
      refine seqQ_n ?_
      refine .ret (seqQ_r (retQ_r _ (.one (.tmp rfl)) (.none _) ?_))
      exact ⟨by rw [hval], rfl⟩
    · skip
      refine TriOps.gT g2_7 ?_
      refine TriOps.q .move ?_
      refine TriOps.gT g2_7 ?_
      refine TriOps.callR (twice_spec w l _ hw.rx) (fun u hu => ?_)
      subst hu
      refine TriOps.q (.pickFh g2_7) ?_
      refine .nil ?_
      refine seqQ_n ?_
      refine .cond rfl (fun h1 => ?_) (fun h1 => ?_)
      · skip
        first | have hval := casks_dup (id := id) (A := clis ps) h1 | skip
        refine .seq ?_
        refine .region ?_
        refine TriOps.q .assign ?_
        refine .nil ?_
        refine seqQ_n ?_
        refine .ret (seqQ_r (retQ_r _ (.one (.tmp rfl)) (.none _) ?_))
        exact ⟨by rw [hval], rfl⟩
      · skip
        have hlp : 0 < l.length := by
          have : ¬ l.length = 0 := by simpa using g2_7
          omega
        have hnd : decide l.Nodup = true := by
          have h1' : (!decide l.Nodup) = false := h1
          simpa using h1'
        refine .skip ?_
        refine seqQ_n ?_
        refine .seq ?_
        refine .seq ?_
        refine .region ?_
        refine TriOps.q .assign ?_
        refine .nil ?_
        refine seqQ_n ?_
        refine .block ?_
        refine .loop (X := Nat) (fun k => k ≤ l.length ∧ (l.take k).all (fun s => decide (s ∈ yc.scopes)) = true) (fun k => [(0, .pointer (some ⟨g, 0, none⟩)), (2, w), (7, .int .i64 (i : Nat)), (8, .int .i64 (k : Nat))]) (fun _ => []) (fun k => l.length - k) 0 ⟨by omega, rfl⟩ (((((EnvLe.nil _).cons rfl).cons rfl).cons rfl).cons rfl) (HLe.refl _) ?_
        rintro k ⟨hk, hall⟩
        refine .seq ?_
        refine .seq ?_
        refine .region ?_
        refine TriOps.q .move ?_
        refine TriOps.q .move ?_
        refine TriOps.q (.lenR hw) ?_
        refine TriOps.q .lss ?_
        refine .nil ?_
        refine seqQ_n ?_
        refine .cond rfl (fun h2 => ?_) (fun h2 => ?_)
        · skip
          have hlt : k < l.length := by have := of_decide_eq_true h2; omega
          obtain ⟨x, hx⟩ : ∃ x, l[k]? = some x := ⟨_, List.getElem?_eq_getElem hlt⟩
          refine .skip ?_
          refine seqQ_n ?_
          refine .seq ?_
          refine .block ?_
          refine .seq ?_
          refine .region_tail 12 mixed (by kernel_rfl) ?_
          conv => arg 6; dsimp only [List.take]
          refine TriOps.q .move ?_
          refine TriOps.q (.nilCheck rfl) ?_
          refine TriOps.q (.fieldAddr rfl) ?_
          refine TriOps.q (.load1 rfl) ?_
          refine TriOps.q .move ?_
          refine TriOps.indexR i hs hy (fun p34 => ?_)
          refine TriOps.q (.fieldAddr rfl) ?_
          refine TriOps.q (.load1 rfl) ?_
          refine TriOps.q .move ?_
          refine TriOps.q .move ?_
          refine TriOps.indexR k hw hx (fun p39 => ?_)
          refine TriOps.q (.load1 rfl) ?_
          refine .nil ?_
          refine TriOps.callR (has_spec ys yc.scopes x _ hys.rx) (fun u hu => ?_)
          subst hu
          refine TriOps.q .not ?_
          refine .nil ?_
          refine seqQ_n ?_
          refine .cond rfl (fun h3 => ?_) (fun h3 => ?_)
          · skip
            have hval : casks id l (clis ps) = false := by
              have h3' : (!decide (x ∈ yc.scopes)) = true := h3
              have hf : l.all (fun s => decide (s ∈ yc.scopes)) = false := List.all_eq_false.2 ⟨x, List.mem_of_getElem? hx, by simpa using h3'⟩
              unfold casks
              rw [hg]
              simp only [Option.getD_some, hf, Bool.and_false]
            refine .seq ?_
            refine .region ?_
            refine TriOps.q .assign ?_
            refine .nil ?_
            refine seqQ_n ?_
            refine .ret (blkQ_r (seqQ_r (loopQ_r (blkQ_r (seqQ_r (retQ_r _ (.one (.tmp rfl)) (.none _) ?_))))))
            exact ⟨by rw [hval], rfl⟩
          · skip
            refine .skip ?_
            refine blkQ_n (seqQ_n ?_)
            refine .region ?_
            refine TriOps.q .move ?_
            refine TriOps.q (.i64 ((k + 1 : Nat) : Int) .add ⟨by omega, by omega, by omega⟩) ?_
            refine TriOps.q .assign ?_
            refine .nil ?_
            exact loopQ_i (k + 1) ⟨by omega, by
              rw [List.take_add_one, hx, List.all_append, hall]
              have h3' : (!decide (x ∈ yc.scopes)) = false := h3
              simpa using h3'⟩ (by omega) (((((EnvLe.nil _).cons rfl).cons rfl).cons rfl).cons rfl) (HLe.refl _)
        · skip
          have hval : casks id l (clis ps) = true := by
            have hkl : k = l.length := by have := of_decide_eq_false h2; omega
            rw [hkl, List.take_length] at hall
            unfold casks
            rw [hg, decide_eq_true hlp, hnd]
            simp only [Option.getD_some, hall]; rfl
          refine .exit (seqQ_x (loopQ_x (blkQ_x ?_)))
          refine seqQ_n ?_
          refine .seq ?_
          refine .region ?_
          refine TriOps.q .assign ?_
          refine .nil ?_
          refine seqQ_n ?_
          refine .ret (retQ_r _ (.one (.tmp rfl)) (.none _) ?_)
          exact ⟨by rw [hval], rfl⟩
end Go.Proofs.Ytlmdgdehjpahiaa
