/- A store: Collect. No condition. -/
import Derived.Test.YtkepgbimlolemaaStoG
set_option linter.unusedVariables false
set_option linter.unusedSimpArgs false
set_option maxRecDepth 4000
namespace Go.Proofs.Ytkepgbimlolemaa
theorem prune1_spec (b : Nat) (x : SRow) (h : Int) (q : Nat) (R : Rds) [pb : PC R (.pointer (some ⟨b, 0, none⟩)) x.enc] [pq : PC R (.pointer (some ⟨q, 0, none⟩)) [.int .u64 h]] :
    Spec Try.prog 107 [.pointer (some ⟨b, 0, none⟩), .pointer (some ⟨q, 0, none⟩)] R [] fun v H' => v = .bool (!skeep h x) ∧ H' = [] := by
  obtain ⟨⟨a1, a2, a3, a4, a5, a6, a7⟩, fr, to⟩ := x
  refine Spec.body Try.func107 rfl Try.results107 Try.ntmps107 rfl ?_
  refine .seq ?_
  refine .region ?_
  refine TriOps.q .assign ?_
  refine .nil ?_
  refine seqQ_n ?_
  refine .seq ?_
  refine .region_still mixed (by kernel_rfl) ?_
  refine TriOps.q .move ?_
  refine TriOps.q (.nilCheck rfl) ?_
  refine TriOps.q (.fieldAddr rfl) ?_
  refine TriOps.q (.load1 rfl) ?_
  refine TriOps.q .neI ?_
  refine TriOps.q .move ?_
  refine TriOps.split (t := 9) rfl (fun g1_5 => ?_) (fun g1_5 => ?_)
  · skip
    refine TriOps.gT g1_5 ?_
    refine TriOps.q .move ?_
    refine TriOps.gT g1_5 ?_
    refine TriOps.q (.nilCheck rfl) ?_
    refine TriOps.gT g1_5 ?_
    refine TriOps.q (.fieldAddr rfl) ?_
    refine TriOps.gT g1_5 ?_
    refine TriOps.q (.load1 rfl) ?_
    refine TriOps.gT g1_5 ?_
    refine TriOps.q (.load1 rfl) ?_
    refine TriOps.gT g1_5 ?_
    refine TriOps.q .leq ?_
    refine TriOps.q (.pickTh g1_5) ?_
    refine TriOps.q .assign ?_
    refine .nil ?_
    refine seqQ_n ?_
    refine .ret (retQ_r _ (.one (.tmp rfl)) (.none _) ?_)
    refine ⟨congrArg _ ?_, rfl⟩
    unfold skeep
    rw [Bool.eq_iff_iff]
    simp_all
    try omega
  · skip
    refine TriOps.gF g1_5 ?_
    refine TriOps.gF g1_5 ?_
    refine TriOps.gF g1_5 ?_
    refine TriOps.gF g1_5 ?_
    refine TriOps.gF g1_5 ?_
    refine TriOps.gF g1_5 ?_
    refine TriOps.q (.pickFh g1_5) ?_
    refine TriOps.q .assign ?_
    refine .nil ?_
    refine seqQ_n ?_
    refine .ret (retQ_r _ (.one (.tmp rfl)) (.none _) ?_)
    refine ⟨congrArg _ ?_, rfl⟩
    unfold skeep
    rw [Bool.eq_iff_iff]
    simp_all
    try omega
theorem prune_spec (v : Value) (F : List RB) (h : Int) (R : Rds) (hF : RS R 1 encRB v F) (hp : ∀ p ∈ F, PC R (.pointer (some ⟨p.1, 0, none⟩)) p.2.enc) (hl : F.length ≤ 5000) :
    Spec Try.prog 77 [v, .int .u64 h] R [] fun u H' => ∃ T, H' = [T] ∧ OS 133 1 encRB u (F.filter fun p => skeep h p.2) T := by
  obtain ⟨pv, kv_, rfl⟩ := hF.val
  refine Spec.body Try.func77 rfl Try.results77 Try.ntmps77 rfl ?_
  refine .seq ?_
  refine .region ?_
  refine TriOps.box1 rfl (fun b3 => ?_)
  refine TriOps.q .assign ?_
  refine .nil ?_
  refine seqQ_n ?_
  refine .seq ?_
  refine .region ?_
  refine TriOps.q .move ?_
  refine TriOps.callN (LRP.clone_spec _ F _ hF.rx (by omega)) (fun u T1 hO => ?_)
  have iu := hO.oneCell
  refine TriOps.q .makeFunc ?_
  refine TriOps.callW (LRP.delF_spec 107 [.pointer (some ⟨b3, 0, none⟩)] (fun p : RB => !skeep h p.2) u F T1 _ hO fun p hp2 R' hR => by
    have i1 := PC.of (E := 24) (fr := (0, 0)) (R := R') (b := b3) (vs := [.int .u64 h]) (hR _ _ (.inr (by simp)))
    have i2 : PC R' (.pointer (some ⟨p.1, 0, none⟩)) p.2.enc := (hp p hp2).mono fun b o hb => hR _ _ (.inl hb)
    exact prune1_spec p.1 p.2 h b3 R') (fun u2 T2 hO2 => ?_)
  have iu2 := hO2.oneCell
  refine TriOps.q .assign ?_
  refine .nil ?_
  refine seqQ_n ?_
  refine .ret (retQ_r _ (.one (.tmp rfl)) (.one [0] _) ?_)
  refine ⟨T2, by simp [take], ?_⟩
  simpa using hO2
section
variable {κ : Type} [DecidableEq κ] {encK : κ → Value} {key : SRow → κ}
/-- A map half collected: at the keys that are to come stands what stood; at the others what is kept. -/
structure CX (encK : κ → Value) (key : SRow → κ) (qs : List RB) (vm : Value) (M0 M1 : List (κ × (Value × Seg))) (todo : List κ) (Tm Sn : Seg) : Prop where
  ms : MS encK (fun p : Value × Seg => p.1) vm M1 Tm
  td : ∀ k ∈ todo, mget k M1 = mget k M0
  nd : todo.Nodup
  dn : ∀ p ∈ M1, p.1 ∉ todo → OS 133 1 encPt p.2.1 (ids key p.1 qs) p.2.2 ∧ ids key p.1 qs ≠ []
  al : ∀ x ∈ qs, key x.2 ∉ todo → key x.2 ∈ M1.map (·.1)
  pm : Sn.Perm ((M1.filter fun p => decide (p.1 ∉ todo)).flatMap fun p => p.2.2)
theorem CX.start {ps qs : List RB} {vm : Value} {M : List (κ × (Value × Seg))} {Tm Ts : Seg} (h : MFx encK key ps vm M Tm Ts) (hq : ∀ x ∈ qs, x ∈ ps) : CX encK key qs vm M M (M.map (·.1)) Tm [] :=
  ⟨h.ms, fun _ _ => rfl, h.ms.nd, fun p hp hn => absurd (List.mem_map.2 ⟨p, hp, rfl⟩) hn, fun x hx hn => absurd (h.al x (hq x hx)) hn, by
    rw [List.filter_eq_nil_iff.2 fun p hp hd => (of_decide_eq_true hd) (List.mem_map.2 ⟨p, hp, rfl⟩)]; exact .refl _⟩
theorem CX.done {qs : List RB} {vm : Value} {M0 M1 : List (κ × (Value × Seg))} {Tm Sn : Seg} (h : CX encK key qs vm M0 M1 [] Tm Sn) : MFx encK key qs vm M1 Tm Sn :=
  ⟨h.ms, by have := h.pm; rwa [List.filter_eq_self.2 fun p _ => by simp] at this, fun p hp => (h.dn p hp (by simp)).1, fun p hp => (h.dn p hp (by simp)).2, fun x hx => h.al x hx (by simp)⟩
theorem out_filter {todo : List κ} {k : κ} (hk : k ∈ todo) (M : List (κ × (Value × Seg))) : (kdel k M).filter (fun p => decide (p.1 ∉ todo.filter fun k' => decide (k' ≠ k))) = M.filter fun p => decide (p.1 ∉ todo) := by
  unfold kdel
  rw [List.filter_filter]
  refine List.filter_congr fun p _ => ?_
  by_cases e : p.1 = k
  · rw [e]; simp [hk]
  · simp [e]
theorem CX.keep {qs : List RB} {vm : Value} {M0 M1 : List (κ × (Value × Seg))} {todo : List κ} {Tm Sn : Seg} (h : CX encK key qs vm M0 M1 todo Tm Sn) {k : κ} (hk : k ∈ todo) {v' : Value} {T' Tm' : Seg} (hms : MS encK (fun p : Value × Seg => p.1) vm (mset k (v', T') M1) Tm') (hos : OS 133 1 encPt v' (ids key k qs) T') (hne : ids key k qs ≠ []) :
    CX encK key qs vm M0 (mset k (v', T') M1) (todo.filter fun k' => decide (k' ≠ k)) Tm' (T' ++ Sn) := by
  have hn := h.ms.nd
  refine ⟨hms, fun j hj => ?_, h.nd.sublist List.filter_sublist, fun p hp hn2 => ?_, fun x hx hn2 => ?_, ?_⟩
  · have := List.mem_filter.1 hj
    rw [mget_mset, if_neg (by simpa using this.2)]
    exact h.td j this.1
  · by_cases e : p.1 = k
    · have h1 : mget p.1 (mset k (v', T') M1) = some p.2 := mget_of_mem hms.nd (by exact hp)
      rw [mget_mset, if_pos e] at h1
      have h2 := Option.some.inj h1
      rw [e, ← h2]
      exact ⟨hos, hne⟩
    · rcases mset_mem hn hp with hp | hp
      · exact h.dn p hp fun hm => hn2 (List.mem_filter.2 ⟨hm, by simp [e]⟩)
      · exact absurd (by rw [hp]) e
  · rw [mset_keys]
    by_cases e : key x.2 = k
    · split
      · rw [e]; assumption
      · simp [e]
    · have := h.al x hx fun hm => hn2 (List.mem_filter.2 ⟨hm, by simp [e]⟩)
      split <;> simp [this]
  · have h1 : ((mset k (v', T') M1).filter fun p => decide (p.1 ∉ todo.filter fun k' => decide (k' ≠ k))).Perm ((k, (v', T')) :: M1.filter fun p => decide (p.1 ∉ todo)) := by
      refine ((mset_perm hn).filter _).trans ?_
      unfold kset
      rw [List.filter_append, out_filter hk]
      refine (List.perm_append_comm).trans ?_
      rw [List.filter_cons, if_pos (by simp)]
      exact .refl _
    refine .trans ?_ (h1.flatMap_right _).symm
    rw [List.flatMap_cons]
    exact .append_left _ h.pm
theorem CX.drop {qs : List RB} {vm : Value} {M0 M1 : List (κ × (Value × Seg))} {todo : List κ} {Tm Sn : Seg} (h : CX encK key qs vm M0 M1 todo Tm Sn) {k : κ} (hk : k ∈ todo) {x : Value × Seg} {Tm' : Seg} (hms : MS encK (fun p : Value × Seg => p.1) vm (mdel k (mset k x M1)) Tm') (hne : ids key k qs = []) :
    CX encK key qs vm M0 (mdel k (mset k x M1)) (todo.filter fun k' => decide (k' ≠ k)) Tm' Sn := by
  have hn := h.ms.nd
  have hn2 := mset_nodup (k := k) (x := x) hn
  have hp1 : (mdel k (mset k x M1)).Perm (kdel k M1) := by
    rw [mdel_kdel hn2]
    refine (kdel_perm (mset_perm hn)).trans ?_
    unfold kset kdel
    rw [List.filter_append, List.filter_filter, List.filter_cons, if_neg (by simp)]
    simp
  have hmem : ∀ p, p ∈ mdel k (mset k x M1) ↔ p ∈ M1 ∧ p.1 ≠ k := fun p => by
    rw [hp1.mem_iff]
    unfold kdel
    rw [List.mem_filter]
    simp
  refine ⟨hms, fun j hj => ?_, h.nd.sublist List.filter_sublist, fun p hp hn3 => ?_, fun y hy hn3 => ?_, ?_⟩
  · have hj2 := List.mem_filter.1 hj
    rw [mget_mdel hn2, if_neg (by simpa using hj2.2), mget_mset, if_neg (by simpa using hj2.2)]
    exact h.td j hj2.1
  · obtain ⟨h1, h2⟩ := (hmem p).1 hp
    exact h.dn p h1 fun hm => hn3 (List.mem_filter.2 ⟨hm, by simp [h2]⟩)
  · by_cases e : key y.2 = k
    · have : y.1 ∈ ids key k qs := ids_mem.2 ⟨y.2, hy, e⟩
      rw [hne] at this
      cases this
    · obtain ⟨p, hp, hpe⟩ := List.mem_map.1 (h.al y hy fun hm => hn3 (List.mem_filter.2 ⟨hm, by simp [e]⟩))
      exact List.mem_map.2 ⟨p, (hmem p).2 ⟨hp, by rw [hpe]; exact e⟩, hpe⟩
  · refine h.pm.trans ((List.Perm.flatMap_right _ ?_))
    rw [← out_filter hk]
    exact (hp1.filter _).symm
end
end Go.Proofs.Ytkepgbimlolemaa
