/- What the law 'GrantLoads' uses of this prover's engine, facts and walks. No condition. -/
import Derived.Test.YtpmhgpjcladbkaaGreatDoorKGrantLoadsB
import Derived.Test.YtpmhgpjcladbkaaGreatDoorKGrantLoadsH
import Derived.Test.YtpmhgpjcladbkaaGreatDoorKGrantLoadsJ
import Derived.Test.YtpmhgpjcladbkaaGreatDoorKGrantLoadsK
import Derived.Test.YtpmhgpjcladbkaaGreatDoorKGrantLoadsL
import Derived.Test.YtpmhgpjcladbkaaGreatDoorKGrantLoadsM
set_option linter.unusedVariables false
set_option maxRecDepth 4000
namespace Go.Proofs.YtpmhgpjcladbkaaGreatDoor
abbrev Rise (l : List ByteArray) : Prop := l.Pairwise fun a b => sLt a b = true
theorem rise_ext : ∀ {l m : List ByteArray}, Rise l → Rise m → (∀ s, s ∈ l ↔ s ∈ m) → l = m
  | [], [], _, _, _ => rfl
  | [], y :: m, _, _, h => by have := (h y).2 (by simp); simp at this
  | x :: l, [], _, _, h => by have := (h x).1 (by simp); simp at this
  | x :: l, y :: m, hl, hm, h => by
    have hl' := List.pairwise_cons.1 hl
    have hm' := List.pairwise_cons.1 hm
    have hxy : x = y := by
      rcases List.mem_cons.1 ((h x).1 (by simp)) with h1 | h1
      · exact h1
      · rcases List.mem_cons.1 ((h y).2 (by simp)) with h2 | h2
        · exact h2.symm
        · have h3 := hm'.1 x h1
          have h4 := hl'.1 y h2
          have := sLt_trans h3 h4
          rw [sLt_irr] at this; cases this
    subst hxy
    congr 1
    refine rise_ext hl'.2 hm'.2 fun s => ?_
    have hs := h s
    simp only [List.mem_cons] at hs
    constructor
    · intro h1
      rcases hs.1 (.inr h1) with h2 | h2
      · have h3 := hl'.1 s h1
        rw [h2, sLt_irr] at h3; cases h3
      · exact h2
    · intro h1
      rcases hs.2 (.inr h1) with h2 | h2
      · have h3 := hm'.1 s h1
        rw [h2, sLt_irr] at h3; cases h3
      · exact h2
theorem ltc_scmp (a b : ByteArray) : ltc scmp a b = sLt a b := by
  unfold ltc
  rw [Bool.eq_iff_iff, sLt_iff, decide_eq_true_eq]
theorem gc_get {MC : List (Who × WS)} {C : List (Who × List ByteArray)} {Td : Seg} (hn : (MC.map (·.1)).Nodup) (hI : ∀ p ∈ MC, RS (sg0 Td) 1 encS p.2.1 p.2.2) (hC : (kmap (fun p : WS => p.2) MC).Perm C) (k : Who) :
    ∃ w l, ((mget k MC).map fun p : WS => p.1).getD (.slice none 0 0) = w ∧ RS (sg0 Td) 1 encS w l ∧ (mget k C).getD [] = l ∧ (mget k MC).isSome = (mget k C).isSome := by
  have hg : mget k C = (mget k MC).map (·.2) := by rw [← mget_perm hC (by rw [kmap_keys]; exact hn), kmap_get]
  cases hm : mget k MC with
  | none => rw [hm] at hg; rw [hg]; exact ⟨_, _, rfl, RS.nil', rfl, rfl⟩
  | some p =>
    rw [hm] at hg; rw [hg]
    exact ⟨p.1, p.2, rfl, hI _ (mget_some hm), rfl, rfl⟩
theorem sg0_inr {R : Rds} {H : Segs} {Td : Seg} (hm : Td ∈ H) : ∀ b o, sg0 Td b o → Rx R H b o := fun b o hb => .inr (List.mem_flatten.2 ⟨Td, hm, hb.1⟩)
theorem gconsent_spec (g : Nat) (C : List (Who × List ByteArray)) (A : List (ByteArray × Cod)) (T : Seg) (h : GI g C A T) (user client : ByteArray) (vs : Value) (scopes : List ByteArray) (R : Rds) (hs : RS R 1 encS vs scopes) (hsl : scopes.length ≤ 100000) (hb : ∀ p ∈ C, p.2.length ≤ 1000000) :
    Spec Tryz.prog 19 [.pointer (some ⟨g, 0, none⟩), .string user, .string client, vs] R [T] fun u H' => ∃ T', H' = [T'] ∧ u = .tuple #[] ∧ ∃ l, Rise l ∧ (∀ s, s ∈ l ↔ s ∈ (mget (user, client) C).getD [] ∨ s ∈ scopes) ∧ l.length ≤ ((mget (user, client) C).getD []).length + scopes.length ∧ GI g (if l = [] then C else kset (user, client) l C) A T' := by
  have hnd := h.ndC
  have h0 := h
  obtain ⟨Td, _, rfl, vc, MC, vm, M, q, Tc, Tm, Tq, rfl, ⟨hMC, hIC, hC⟩, hM, hI, hA, hQ⟩ := h
  obtain ⟨bm, rfl⟩ : ∃ b, vm = .map (some b) := by obtain ⟨b, es, clock, h1, _⟩ := hM; exact ⟨b, h1⟩
  have ic : One vc := ⟨by obtain ⟨b, es, clock, h1, _⟩ := hMC; subst h1; rfl⟩
  have is := hs.oneCell
  obtain ⟨w0, l0, hw0, hr0, hl0, _⟩ := gc_get hMC.nd hIC hC (user, client)
  have i0 := hr0.oneCell
  have hl0l : l0.length ≤ 1000000 := by
    rw [← hl0]
    cases hm : mget (user, client) C with
    | none => simp
    | some x => exact hb _ (mget_some hm)
  rw [hl0]
  refine Spec.segs (H' := [[(g, .cells [vc, .map (some bm), .pointer (some ⟨q, 0, none⟩)].toArray 53 (0, 0))], Tc, Tm, Tq, Td]) (by simp) ?_
  refine Spec.body Tryz.func19 rfl Tryz.results19 Tryz.ntmps19 rfl ?_
  refine .seq ?_
  refine .seq (.region ?_)
  refine .q .move ?_
  refine TriOps.callR (gok_spec g bm _ _ _) (fun v hv => ?_)
  subst hv
  refine .q .not ?_
  refine .nil (seqQ_n ?_)
  refine .condF ?_
  refine .skip ?_
  refine seqQ_n ?_
  refine .seq (.region ?_)
  refine .q .move ?_
  refine .q (.nilCheck rfl) ?_
  refine .q (.fieldAddr rfl) ?_
  refine .q (.load1 rfl) ?_
  refine .q .move ?_
  refine .q .move ?_
  refine .q .bld ?_
  refine .q (.lookupE (v := w0) hMC.rx rfl (show _ = some (Value.agg (encWho (user, client)).toArray) from rfl) hw0) ?_
  refine TriOps.callN (sclone_spec w0 l0 _ (hr0.mono (sg0_inr (by simp))) hl0l) (fun v1 T1 hO1 => ?_)
  have i1 := hO1.oneCell
  refine .q .move ?_
  refine TriOps.append hO1 hs.rx (by omega) (fun v2 T2 hO2 => ?_)
  have i2 := hO2.oneCell
  refine .q .assign ?_
  refine .nil (seqQ_n ?_)
  refine .seq (.region ?_)
  refine .q .move ?_
  refine TriOps.callM (SST.sort_spec (c := scmp) (ok := fun _ => True) v2 (l0 ++ scopes) T2 _ hO2 (by simp; omega) rfl (fun _ _ => trivial) scmp_ok.so) (fun u T3 hu => ?_)
  obtain ⟨rfl, ys, hO3, hpy, hsy⟩ := hu
  have hyl := hpy.length_eq
  rw [List.length_append] at hyl
  have hris := cpt_rise ys (hsy.ordered.imp fun {a b} hab => by rw [ltc_scmp] at hab; exact hab)
  have hcl := cpt_len ys
  have hmem : ∀ s, s ∈ cpt ys ↔ s ∈ l0 ∨ s ∈ scopes := fun s => by rw [cpt_mem, hpy.mem_iff, List.mem_append]
  refine .nil (seqQ_n ?_)
  refine .seq (.region ?_)
  refine .q .move ?_
  refine TriOps.callM (compact_spec v2 ys T3 _ hO3 (by omega)) (fun u T4 hO4 => ?_)
  have i4 := hO4.oneCell
  refine .q .assign ?_
  refine .nil (seqQ_n ?_)
  refine .seq (.region ?_)
  refine .q .move ?_
  refine .q (.lenO hO4) ?_
  refine .q .gtr ?_
  refine .nil (seqQ_n ?_)
  refine .cond rfl (fun h2 => ?_) (fun h2 => ?_)
  have hne : cpt ys ≠ [] := fun e => by rw [e] at h2; simp at h2
  refine .region ?_
  refine .q .move ?_
  refine .q (.nilCheck rfl) ?_
  refine .q (.fieldAddr rfl) ?_
  refine .q (.load1 rfl) ?_
  refine .q .move ?_
  refine .q .move ?_
  refine .q .bld ?_
  refine .q .move ?_
  refine TriOps.update (u := ((u, cpt ys) : WS)) hMC rfl (show _ = some (Value.agg (encWho (user, client)).toArray) from rfl) rfl (fun Tc2 hM2 _ => ?_)
  refine .nil ?_
  refine retQ_n _ .none (.one [1, 1, 1, 1, 1, 0] _) ?_
  · refine ⟨((g, .cells [vc, .map (some bm), .pointer (some ⟨q, 0, none⟩)].toArray 53 (0, 0)) :: (Tc2 ++ (Tm ++ Tq))) ++ (Td ++ T4), by simp [take, dropAt], rfl, cpt ys, hris, hmem, by omega, ?_⟩
    rw [if_neg hne]
    refine ⟨Td ++ T4, _, rfl, _, _, _, M, q, Tc2, Tm, Tq, rfl, ⟨hM2, fun p hp => ?_, ?_⟩, hM, fun p hp => ?_, hA, hQ⟩
    · rcases mset_mem hMC.nd hp with hp | rfl
      · exact (hIC p hp).mono fun b o hb => sg0_left hb
      · exact hO4.sg0.mono fun b o hb => sg0_right hb
    · exact (kmap_perm (mset_perm hMC.nd)).trans (by rw [kmap_set]; exact kset_perm hC)
    · obtain ⟨q1, q2, q3⟩ := hI p hp
      exact ⟨q1, q2.mono fun b o hb => sg0_left hb, q3⟩
  have hno : cpt ys = [] := by
    rcases Nat.eq_zero_or_pos (cpt ys).length with h9 | h9
    · exact List.length_eq_zero_iff.1 h9
    · exfalso
      have := of_decide_eq_false h2
      omega
  refine .skip ?_
  refine retQ_n _ .none (.one [1, 1, 1, 1, 1] _) ?_
  · refine ⟨((g, .cells [vc, .map (some bm), .pointer (some ⟨q, 0, none⟩)].toArray 53 (0, 0)) :: (Tc ++ (Tm ++ Tq))) ++ Td, by simp [take, dropAt], rfl, cpt ys, hris, hmem, by omega, ?_⟩
    rw [if_pos hno]
    exact h0
theorem gscopes_spec (g : Nat) (C : List (Who × List ByteArray)) (A : List (ByteArray × Cod)) (T : Seg) (h : GI g C A T) (user client : ByteArray) (R : Rds) (hr : ∀ p ∈ T, R p.1 p.2) (hb : ∀ p ∈ C, p.2.length ≤ 1000000) :
    Spec Tryz.prog 27 [.pointer (some ⟨g, 0, none⟩), .string user, .string client] R [] fun u H' => ∃ T', H' = [T'] ∧ OS 9 1 encS u ((mget (user, client) C).getD []) T' := by
  obtain ⟨Td, _, rfl, vc, MC, vm, M, q, Tc, Tm, Tq, rfl, ⟨hMC, hIC, hC⟩, hM, hI, hA, hQ⟩ := h
  obtain ⟨bm, rfl⟩ : ∃ b, vm = .map (some b) := by obtain ⟨b, es, clock, h1, _⟩ := hM; exact ⟨b, h1⟩
  have ic : One vc := ⟨by obtain ⟨b, es, clock, h1, _⟩ := hMC; subst h1; rfl⟩
  have pq : PC R (.pointer (some ⟨g, 0, none⟩)) [vc, .map (some bm), .pointer (some ⟨q, 0, none⟩)] := PC.of (E := 53) (fr := (0, 0)) (hr (g, .cells [vc, .map (some bm), .pointer (some ⟨q, 0, none⟩)].toArray 53 (0, 0)) (by simp))
  have rm : ∀ H', RM (Rx R H') (fun k : Who => .agg (encWho k).toArray) (fun p : WS => p.1) vc MC := fun H' => hMC.rm fun p hp => .inl (hr p (by simp [hp]))
  have hT : ∀ b o, sg0 Td b o → R b o := fun b o hb => hr (b, o) (by have : (b, o) ∈ Td := hb.1; simp [this])
  obtain ⟨w0, l0, hw0, hr0, hl0, _⟩ := gc_get hMC.nd hIC hC (user, client)
  have i0 := hr0.oneCell
  have hl0l : l0.length ≤ 1000000 := by
    rw [← hl0]
    cases hm : mget (user, client) C with
    | none => simp
    | some x => exact hb _ (mget_some hm)
  rw [hl0]
  refine Spec.body Tryz.func27 rfl Tryz.results27 Tryz.ntmps27 rfl ?_
  refine .seq (.region ?_)
  refine .q .assign ?_
  refine .nil (seqQ_n ?_)
  refine .seq ?_
  refine .seq (.region ?_)
  refine .q .move ?_
  refine TriOps.callR (gok_spec g bm _ _ _) (fun v hv => ?_)
  subst hv
  refine .q .not ?_
  refine .nil (seqQ_n ?_)
  refine .condF ?_
  refine .skip ?_
  refine seqQ_n ?_
  refine .seq (.region ?_)
  refine .q .move ?_
  refine .q (.nilCheck rfl) ?_
  refine .q (.fieldAddr rfl) ?_
  refine .q (.load1 rfl) ?_
  refine .q .move ?_
  refine .q .move ?_
  refine .q .bld ?_
  refine .q (.lookupE (v := w0) (rm _) rfl (show _ = some (Value.agg (encWho (user, client)).toArray) from rfl) hw0) ?_
  refine TriOps.callN (sclone_spec w0 l0 _ (hr0.mono fun b o hb => .inl (hT b o hb)) hl0l) (fun v1 T1 hO1 => ?_)
  have i1 := hO1.oneCell
  refine .q .assign ?_
  refine .nil (seqQ_n ?_)
  refine .ret (retQ_r _ (.one (.tmp rfl)) (.one [0] _) ?_)
  · exact ⟨T1, by simp [take], hO1⟩
end Go.Proofs.YtpmhgpjcladbkaaGreatDoor
set_option linter.unusedVariables false
set_option maxRecDepth 4000
namespace Go.Proofs.YtpmhgpjcladbkaaGreatDoor
def fcod (M : List (ByteArray × GP)) (k : ByteArray) : Cod := ((mget k M).map (·.2)).getD Cod.zero
theorem fcod_all {M : List (ByteArray × GP)} (hn : (M.map (·.1)).Nodup) : (M.map (·.1)).map (fcod M) = M.map (·.2.2) := by
  rw [List.map_map]
  refine List.map_congr_left fun p hp => ?_
  have : mget p.1 M = some p.2 := mget_of_mem hn (by exact hp)
  simp [fcod, this]
abbrev cods (ps : List GP) : List Cod := ps.map (·.2)
def gkv (L : List Cod) : List (ByteArray × Cod) := L.map fun t => (t.text, t)
theorem gkv_snd {A : List (ByteArray × Cod)} (h : ∀ p ∈ A, p.1 = p.2.text) : gkv (A.map (·.2)) = A := by
  unfold gkv
  rw [List.map_map]
  conv => rhs; rw [← List.map_id A]
  exact List.map_congr_left fun p hp => by rw [Function.comp, ← h p hp]; rfl
theorem gcodes_spec (g : Nat) (C : List (Who × List ByteArray)) (A : List (ByteArray × Cod)) (T : Seg) (h : GI g C A T) (hl : A.length ≤ 1000000) (R : Rds) (hr : ∀ p ∈ T, R p.1 p.2) :
    Spec Tryz.prog 29 [.pointer (some ⟨g, 0, none⟩)] R [] fun v H' => ∃ T', H' = [T'] ∧ ∃ ps To Ti, T' = To ++ Ti ∧ OS 33 9 encG v ps To ∧ (∀ p ∈ ps, CodR (sg0 Ti) p) ∧ (gkv (cods ps)).Perm A ∧ ps.Pairwise (fun p q => sLt q.2.text p.2.text = false) := by
  have hkeys := h.keys
  obtain ⟨Td, _, rfl, vc, MC, vm, M, q, Tc, Tm, Tq, rfl, ⟨hMC, hIC, hC⟩, hM, hI, hA, hQ⟩ := h
  obtain ⟨bm, rfl⟩ : ∃ b, vm = .map (some b) := by obtain ⟨b, es, clock, h1, _⟩ := hM; exact ⟨b, h1⟩
  have ic : One vc := ⟨by obtain ⟨b, es, clock, h1, _⟩ := hMC; subst h1; rfl⟩
  have pq : PC R (.pointer (some ⟨g, 0, none⟩)) [vc, .map (some bm), .pointer (some ⟨q, 0, none⟩)] := PC.of (E := 53) (fr := (0, 0)) (hr (g, .cells [vc, .map (some bm), .pointer (some ⟨q, 0, none⟩)].toArray 53 (0, 0)) (by simp))
  have rm : RM R (fun s : ByteArray => .string s) (fun p : GP => .agg (encG p).toArray) (.map (some bm)) M := hM.rm fun p hp => hr p (by simp [hp])
  have hT : ∀ b o, sg0 Td b o → R b o := fun b o hb => hr (b, o) (by have : (b, o) ∈ Td := hb.1; simp [this])
  have hAs : (M.map (·.2.2)).Perm (A.map (·.2)) := by
    have := hA.map (·.2)
    unfold kmap at this
    rw [List.map_map] at this
    exact this
  have hMl : M.length = A.length := by simpa using hAs.length_eq
  refine Spec.segs (H' := [[], []]) (by simp) ?_
  refine Spec.body Tryz.func29 rfl Tryz.results29 Tryz.ntmps29 rfl ?_
  refine .seq (.region ?_)
  refine .q .assign ?_
  refine .nil (seqQ_n ?_)
  refine .seq ?_
  refine .seq (.region ?_)
  refine .q .move ?_
  refine TriOps.callR (gok_spec g bm _ _ _) (fun v hv => ?_)
  subst hv
  refine .q .not ?_
  refine .nil (seqQ_n ?_)
  refine .condF ?_
  refine .skip ?_
  refine seqQ_n ?_
  refine .seq (.region ?_)
  refine .q .assign ?_
  refine .nil (seqQ_n ?_)
  refine .seq ?_
  refine .seq (.region ?_)
  refine .q .move ?_
  refine .q (.nilCheck rfl) ?_
  refine .q (.fieldAddr rfl) ?_
  refine .q (.load1 rfl) ?_
  refine TriOps.range rm (fun _ _ => .inl) rfl (fun it Ti0 hit0 => ?_)
  refine .nil (seqQ_n ?_)
  refine .block ?_
  refine .loop (X := List GP × List ByteArray × Value × Seg × Seg × Seg) (fun y => (∀ p ∈ y.1, CodR (sg0 y.2.2.2.2.1) p) ∧ y.2.1.Nodup ∧ (cods y.1 ++ y.2.1.map (fcod M)).Perm (A.map (·.2)) ∧ OS 33 9 encG y.2.2.1 y.1 y.2.2.2.1 ∧ It R (fun s : ByteArray => .string s) (fun p : GP => .agg (encG p).toArray) (.map (some bm)) M it y.2.1 y.2.2.2.2.2) (fun y => [(0, .pointer (some ⟨g, 0, none⟩)), (3, y.2.2.1), (13, it)]) (fun y => [y.2.2.2.2.2, y.2.2.2.1, y.2.2.2.2.1]) (fun y => y.2.1.length) ([], M.map (·.1), .slice none 0 0, [], [], Ti0) ⟨by simp, hM.nd, by rw [fcod_all hM.nd]; exact hAs, OS.nil, hit0⟩ ((((EnvLe.nil _).cons rfl).cons rfl).cons rfl) (HLe.refl _) ?_
  rintro ⟨ps, todo, vo, To, Td2, Ti⟩ ⟨hps, hnd, hpm, hO, hit⟩
  simp only at hps hnd hpm hO hit ⊢
  have i2 := hO.oneCell
  have hlen := hpm.length_eq
  simp only [List.length_append, List.length_map] at hlen
  refine .seq (.region ?_)
  refine TriOps.nextB hit (fun _ _ => .inl) rfl (fun b rest Ti2 hf ht => ?_)
  refine .q .extract ?_
  refine .nil (seqQ_n ?_)
  refine .seq ?_
  refine .cond rfl (fun h2 => ?_) (fun h2 => ?_)
  obtain ⟨k, ⟨w0, t0⟩, hk, hku, hitc⟩ := ht h2
  obtain ⟨_, hc0, hf0⟩ := hI (k, (w0, t0)) (mget_some hku)
  have i3 : Ones (encG (w0, t0)) := ⟨hc0.ones⟩
  have hfk : fcod M k = t0 := by simp [fcod, hku]
  have hft := filter_one hnd hk
  refine .skip ?_
  refine seqQ_n ?_
  refine .block ?_
  refine .seq (.region ?_)
  refine .q (.entry hitc (fun _ _ => .inl) rfl) ?_
  refine .q .extract ?_
  refine TriOps.allocA (fun b5 => ?_)
  refine TriOps.storeA rfl rfl ?_
  refine .nil (seqQ_n ?_)
  refine .region ?_
  refine .q .move ?_
  refine .q (.loadA rfl) ?_
  refine TriOps.callN (gcopied_spec w0 t0 _ (hc0.mono fun b o hb => .inl (hT b o hb)) hf0) (fun v T1 hv => ?_)
  obtain ⟨w1, rfl, hc1⟩ := hv
  have i4 : Ones (encG (w1, t0)) := ⟨hc1.ones⟩
  refine TriOps.buildSlice1A (fun b21 => ?_)
  refine TriOps.append hO (RS.lits (xs := [((w1, t0) : GP)]) rfl (by simp [encG]) (by have := hc1.ones; simpa using this)) (by simp; omega) (fun v5 T5 hO5 => ?_)
  refine .q .assign ?_
  refine .nil ?_
  refine blkQ_n ?_
  · refine loopQ_i (ps ++ [(w1, t0)], todo.filter fun k' => decide (k' ≠ k), v5, T5, T1 ++ Td2, Ti2) ⟨fun p hp => ?_, hnd.sublist List.filter_sublist, ?_, hO5, hitc.it⟩ ?_ ((((EnvLe.nil _).cons rfl).cons rfl).cons rfl) ((HLe.pick [3, 3, 1, 2] _).trans (HLe.ofPerm (by simp [take, dropAt])))
    · simp only
      rcases List.mem_append.1 hp with hp | hp
      · exact (hps p hp).mono fun b o hb => sg0_right hb
      · simp only [List.mem_singleton] at hp; subst hp
        exact hc1.mono fun b o hb => sg0_left hb
    · simp only
      refine List.Perm.trans ?_ hpm
      rw [cods, List.map_append, List.append_assoc]
      refine List.Perm.append_left _ ?_
      have := (hft.map (fcod M)).symm
      rw [List.map_cons, hfk] at this
      exact this
    · have := hft.length_eq
      simp only [List.length_cons] at this
      simp only; omega
  have ht0 := hf h2
  subst ht0
  simp only [List.map_nil, List.append_nil] at hpm
  have hfc : FnC Tryz.prog 69 [] R (fun p : GP => Value.agg (encG p).toArray) gcmp GPok := fun x y hx hy R2 _ => gcmp_spec x y R2 hx hy
  refine .exit (seqQ_x (loopQ_x (blkQ_x ?_)))
  refine seqQ_n ?_
  refine .seq (.region ?_)
  refine .q .move ?_
  refine TriOps.callM (SGC.sort_spec (caps := []) vo ps To _ hO (by simp at hlen; omega) hfc (fun p hp => (hps p hp).ones) gcmp_so) (fun u T3 hu => ?_)
  obtain ⟨rfl, ys, hO3, hpy, hsy⟩ := hu
  have i5 := hO3.oneCell
  refine .nil (seqQ_n ?_)
  refine .seq (.region ?_)
  refine .q .move ?_
  refine .q .assign ?_
  refine .nil (seqQ_n ?_)
  refine .ret (retQ_r _ (.one (.tmp rfl)) ((HLe.pick [1, 1] _).trans (HLe.ofPerm (H' := [T3 ++ Td2]) (by simp [take, dropAt]))) ?_)
  · refine ⟨_, rfl, ys, T3, Td2, rfl, hO3, fun p hp => hps p (hpy.mem_iff.1 hp), ?_, hsy.ordered.imp fun {a b} hab => by rw [ltc_gcmp] at hab; exact hab⟩
    have h7 := ((hpy.map (·.2)).trans hpm).map fun t : Cod => (t.text, t)
    have h8 := gkv_snd hkeys
    unfold gkv at h8
    rw [h8] at h7
    exact h7
def fws (MC : List (Who × WS)) (k : Who) : Who × List ByteArray := (k, ((mget k MC).map (·.2)).getD [])
theorem fws_all {MC : List (Who × WS)} (hn : (MC.map (·.1)).Nodup) : (MC.map (·.1)).map (fws MC) = kmap (fun p : WS => p.2) MC := by
  unfold kmap
  rw [List.map_map]
  refine List.map_congr_left fun p hp => ?_
  have : mget p.1 MC = some p.2 := mget_of_mem hn (by exact hp)
  simp [fws, this]
theorem filter_oneW {κ : Type} [DecidableEq κ] {k : κ} : ∀ {l : List κ}, l.Nodup → k ∈ l → l.Perm (k :: l.filter fun k' => decide (k' ≠ k))
  | [], _, h => by cases h
  | x :: l, hn, h => by
    have hn' := List.nodup_cons.1 hn
    by_cases hx : x = k
    · subst hx
      rw [List.filter_cons_of_neg (by simp), List.filter_eq_self.2 fun y hy => by
        have h9 : y ≠ x := fun e => hn'.1 (by rw [← e]; exact hy)
        exact decide_eq_true h9]
    · rw [List.filter_cons_of_pos (by simp [hx])]
      exact ((filter_oneW hn'.2 ((List.mem_cons.1 h).resolve_left fun e => hx e.symm)).cons x).trans (.swap _ _ _)
theorem gconsents_spec (g : Nat) (C : List (Who × List ByteArray)) (A : List (ByteArray × Cod)) (T : Seg) (h : GI g C A T) (hl : C.length ≤ 1000000) (hb : ∀ p ∈ C, p.2.length ≤ 1000000) (R : Rds) (hr : ∀ p ∈ T, R p.1 p.2) :
    Spec Tryz.prog 28 [.pointer (some ⟨g, 0, none⟩)] R [] fun v H' => ∃ T', H' = [T'] ∧ ∃ ps To Ti, T' = To ++ Ti ∧ OS 30 3 encN v ps To ∧ (∀ p ∈ ps, NpR (sg0 Ti) p) ∧ (ps.map (·.2)).Perm C ∧ ps.Pairwise (fun p q => ltc ncmp q p = false) := by
  obtain ⟨Td, _, rfl, vc, MC, vm, M, q, Tc, Tm, Tq, rfl, ⟨hMC, hIC, hC⟩, hM, hI, hA, hQ⟩ := h
  obtain ⟨bm, rfl⟩ : ∃ b, vm = .map (some b) := by obtain ⟨b, es, clock, h1, _⟩ := hM; exact ⟨b, h1⟩
  have ic : One vc := ⟨by obtain ⟨b, es, clock, h1, _⟩ := hMC; subst h1; rfl⟩
  have pq : PC R (.pointer (some ⟨g, 0, none⟩)) [vc, .map (some bm), .pointer (some ⟨q, 0, none⟩)] := PC.of (E := 53) (fr := (0, 0)) (hr (g, .cells [vc, .map (some bm), .pointer (some ⟨q, 0, none⟩)].toArray 53 (0, 0)) (by simp))
  have rm : RM R (fun k : Who => .agg (encWho k).toArray) (fun p : WS => p.1) vc MC := hMC.rm fun p hp => hr p (by simp [hp])
  have hT : ∀ b o, sg0 Td b o → R b o := fun b o hb => hr (b, o) (by have : (b, o) ∈ Td := hb.1; simp [this])
  have hMl : MC.length = C.length := by simpa [kmap_length] using hC.length_eq
  refine Spec.segs (H' := [[], []]) (by simp) ?_
  refine Spec.body Tryz.func28 rfl Tryz.results28 Tryz.ntmps28 rfl ?_
  refine .seq (.region ?_)
  refine .q .assign ?_
  refine .nil (seqQ_n ?_)
  refine .seq ?_
  refine .seq (.region ?_)
  refine .q .move ?_
  refine TriOps.callR (gok_spec g bm _ _ _) (fun v hv => ?_)
  subst hv
  refine .q .not ?_
  refine .nil (seqQ_n ?_)
  refine .condF ?_
  refine .skip ?_
  refine seqQ_n ?_
  refine .seq (.region ?_)
  refine .q .assign ?_
  refine .nil (seqQ_n ?_)
  refine .seq ?_
  refine .seq (.region ?_)
  refine .q .move ?_
  refine .q (.nilCheck rfl) ?_
  refine .q (.fieldAddr rfl) ?_
  refine .q (.load1 rfl) ?_
  refine TriOps.range rm (fun _ _ => .inl) rfl (fun it Ti0 hit0 => ?_)
  refine .nil (seqQ_n ?_)
  refine .block ?_
  refine .loop (X := List NP × List Who × Value × Seg × Seg × Seg) (fun y => (∀ p ∈ y.1, NpR (sg0 y.2.2.2.2.1) p) ∧ y.2.1.Nodup ∧ (y.1.map (·.2) ++ y.2.1.map (fws MC)).Perm C ∧ OS 30 3 encN y.2.2.1 y.1 y.2.2.2.1 ∧ It R (fun k : Who => .agg (encWho k).toArray) (fun p : WS => p.1) vc MC it y.2.1 y.2.2.2.2.2) (fun y => [(0, .pointer (some ⟨g, 0, none⟩)), (3, y.2.2.1), (13, it)]) (fun y => [y.2.2.2.2.2, y.2.2.2.1, y.2.2.2.2.1]) (fun y => y.2.1.length) ([], MC.map (·.1), .slice none 0 0, [], [], Ti0) ⟨by simp, hMC.nd, by rw [fws_all hMC.nd]; exact hC, OS.nil, hit0⟩ ((((EnvLe.nil _).cons rfl).cons rfl).cons rfl) (HLe.refl _) ?_
  rintro ⟨ps, todo, vo, To, Td2, Ti⟩ ⟨hps, hnd, hpm, hO, hit⟩
  simp only at hps hnd hpm hO hit ⊢
  have i2 := hO.oneCell
  have hlen := hpm.length_eq
  simp only [List.length_append, List.length_map] at hlen
  refine .seq (.region ?_)
  refine TriOps.nextB hit (fun _ _ => .inl) rfl (fun b rest Ti2 hf ht => ?_)
  refine .q .extract ?_
  refine .nil (seqQ_n ?_)
  refine .seq ?_
  refine .cond rfl (fun h2 => ?_) (fun h2 => ?_)
  obtain ⟨k, ⟨w0, l0⟩, hk, hku, hitc⟩ := ht h2
  have hc0 := hIC (k, (w0, l0)) (mget_some hku)
  simp only at hc0
  have i3 := hc0.oneCell
  have hfk : fws MC k = (k, l0) := by simp [fws, hku]
  have hft := filter_oneW hnd hk
  have hl0 : l0.length ≤ 1000000 := hb (k, l0) (hC.mem_iff.1 (kmap_mem (f := fun p : WS => p.2) (mget_some hku)))
  refine .skip ?_
  refine seqQ_n ?_
  refine .block ?_
  refine .seq (.region ?_)
  refine .q (.entry hitc (fun _ _ => .inl) rfl) ?_
  refine .q .extract ?_
  refine .q .extract ?_
  refine TriOps.allocA (fun b4 => ?_)
  refine TriOps.storeA rfl rfl ?_
  refine .q .assign ?_
  refine .nil (seqQ_n ?_)
  refine .region_all [9] mixed ?_
  refine .takeO 0 rfl .move (by kernel_rfl) ?_
  refine .takeO 1 rfl (.fieldAddr rfl) (by kernel_rfl) ?_
  refine .takeO 2 rfl (.load1 rfl) (by kernel_rfl) ?_
  refine .takeO 3 rfl (.fieldAddr rfl) (by kernel_rfl) ?_
  refine .takeO 4 rfl (.load1 rfl) (by kernel_rfl) ?_
  refine .takeO 5 rfl .move (by kernel_rfl) ?_
  refine RA.step 6 rfl (by kernel_rfl) rfl ?_
  refine TriOps.callN (sclone_spec w0 l0 _ (hc0.mono fun b o hb => .inl (hT b o hb)) hl0) (fun w1 T1 hO1 => ?_)
  obtain ⟨p1, k1, rfl, _⟩ := hO1.shape
  have hc1 : NpR (sg0 T1) ((_, (k, l0)) : NP) := hO1.sg0
  refine .nil (Next.sub ?_)
  refine .takeO 7 rfl .bld (by kernel_rfl) ?_
  refine RA.step 8 rfl (by kernel_rfl) rfl ?_
  refine TriOps.buildSlice1A (fun b27 => ?_)
  refine .nil (Next.sub ?_)
  refine RA.step 9 rfl (by kernel_rfl) rfl ?_
  refine TriOps.append hO (RS.lits (xs := [((_, (k, l0)) : NP)]) rfl (by simp [encN]) (by have := hc1.ones; simpa using this)) (by simp; omega) (fun v5 T5 hO5 => ?_)
  refine .nil (Next.mod rfl ?_)
  refine .take 10 rfl .assign (by kernel_rfl) ?_
  refine RA.nil (by kernel_rfl) ?_
  refine blkQ_n ?_
  · refine loopQ_i (ps ++ [(_, (k, l0))], todo.filter fun k' => decide (k' ≠ k), v5, T5, T1 ++ Td2, Ti2) ⟨fun p hp => ?_, hnd.sublist List.filter_sublist, ?_, hO5, hitc.it⟩ ?_ ((((EnvLe.nil _).cons rfl).cons rfl).cons rfl) ((HLe.pick [3, 3, 1, 2] _).trans (HLe.ofPerm (by simp [take, dropAt])))
    · simp only
      rcases List.mem_append.1 hp with hp | hp
      · exact (hps p hp).mono fun b o hb => sg0_right hb
      · simp only [List.mem_singleton] at hp; subst hp
        exact hc1.mono fun b o hb => sg0_left hb
    · simp only
      refine List.Perm.trans ?_ hpm
      rw [List.map_append, List.append_assoc]
      refine List.Perm.append_left _ ?_
      have := (hft.map (fws MC)).symm
      rw [List.map_cons, hfk] at this
      exact this
    · have := hft.length_eq
      simp only [List.length_cons] at this
      simp only; omega
  have ht0 := hf h2
  subst ht0
  simp only [List.map_nil, List.append_nil] at hpm
  have hfc : FnC Tryz.prog 53 [] R (fun p : NP => Value.agg (encN p).toArray) ncmp NPok := fun x y hx hy R2 _ => before_spec x y R2 hx hy
  refine .exit (seqQ_x (loopQ_x (blkQ_x ?_)))
  refine seqQ_n ?_
  refine .seq (.region ?_)
  refine .q .move ?_
  refine TriOps.callM (SGN.sort_spec (caps := []) vo ps To _ hO (by simp at hlen; omega) hfc (fun p hp => (hps p hp).ones) ncmp_ok.so) (fun u T3 hu => ?_)
  obtain ⟨rfl, ys, hO3, hpy, hsy⟩ := hu
  have i5 := hO3.oneCell
  refine .nil (seqQ_n ?_)
  refine .seq (.region ?_)
  refine .q .move ?_
  refine .q .assign ?_
  refine .nil (seqQ_n ?_)
  refine .ret (retQ_r _ (.one (.tmp rfl)) ((HLe.pick [1, 1] _).trans (HLe.ofPerm (H' := [T3 ++ Td2]) (by simp [take, dropAt]))) ?_)
  · exact ⟨_, rfl, ys, T3, Td2, rfl, hO3, fun p hp => hps p (hpy.mem_iff.1 hp), (hpy.map (·.2)).trans hpm, hsy.ordered⟩
end Go.Proofs.YtpmhgpjcladbkaaGreatDoor
set_option linter.unusedVariables false
set_option maxRecDepth 4000
namespace Go.Proofs.YtpmhgpjcladbkaaGreatDoor
theorem pw_snoc {α : Type} {r : α → α → Prop} (tr : ∀ x y z, r x y → r y z → r x z) {l : List α} {i : Nat} {x : α} (h : (l.take i).Pairwise r) (hx : l[i]? = some x) (hp : ∀ y, 0 < i → l[i - 1]? = some y → r y x) : (l.take (i + 1)).Pairwise r := by
  have e : l.take (i + 1) = l.take i ++ [x] := by rw [List.take_add_one, hx]; rfl
  rw [e, List.pairwise_append]
  refine ⟨h, List.pairwise_singleton _ _, fun a ha b hb => ?_⟩
  rw [List.mem_singleton] at hb
  subst hb
  have hi := (List.getElem?_eq_some_iff.1 hx).1
  cases i with
  | zero => simp at ha
  | succ i =>
    obtain ⟨y, hy⟩ : ∃ y, l[i]? = some y := ⟨_, List.getElem?_eq_getElem (by omega)⟩
    have hyb := hp y (by omega) hy
    rw [List.take_add_one, hy] at ha h
    rcases List.mem_append.1 ha with ha | ha
    · exact tr _ _ _ ((List.pairwise_append.1 h).2.2 a ha y (by simp)) hyb
    · simp at ha; subst ha; exact hyb
theorem pw_next {α : Type} {r : α → α → Prop} {l : List α} {i : Nat} {x y : α} (h : l.Pairwise r) (hx : l[i]? = some x) (hy : l[i - 1]? = some y) (h0 : 0 < i) : r y x := by
  obtain ⟨hi, e1⟩ := List.getElem?_eq_some_iff.1 hx
  obtain ⟨hi2, e2⟩ := List.getElem?_eq_some_iff.1 hy
  have := List.pairwise_iff_getElem.1 h (i - 1) i hi2 hi (by omega)
  rw [e1, e2] at this
  exact this
theorem whoCmp_lt {a b : Who} : whoCmp a b < 0 ↔ sLt a.1 b.1 = true ∨ (a.1 = b.1 ∧ sLt a.2 b.2 = true) := by
  unfold whoCmp
  rw [orI_cons, orI_cons, sLt_iff, sLt_iff, ← scmp_eq]
  simp only [orI]
  by_cases h1 : scmp a.1 b.1 = 0
  · rw [if_pos h1]
    by_cases h2 : scmp a.2 b.2 = 0
    · rw [if_pos h2]; omega
    · rw [if_neg h2]; omega
  · rw [if_neg h1]; omega
theorem whoCmp_tr : ∀ x y z : Who × List ByteArray, whoCmp x.1 y.1 < 0 → whoCmp y.1 z.1 < 0 → whoCmp x.1 z.1 < 0 := fun x y z h1 h2 => whoCmp_ok.tl _ _ _ h1 (Int.le_of_lt h2)
def RightC (cs : List (Who × List ByteArray)) : Prop := (∀ p ∈ cs, p.2 ≠ [] ∧ Rise p.2) ∧ cs.Pairwise (fun a b => whoCmp a.1 b.1 < 0)
def RightD (ts : List Cod) : Prop := ts.Pairwise (fun a b => sLt a.text b.text = true) ∧ ts.length ≤ 4096
instance (cs : List (Who × List ByteArray)) : Decidable (RightC cs) := by unfold RightC; infer_instance
instance (ts : List Cod) : Decidable (RightD ts) := by unfold RightD; infer_instance
def rightG (cs : List (Who × List ByteArray)) (ts : List Cod) : Bool := decide (RightC cs) && decide (RightD ts)
theorem rising_spec (v : Value) (l : List ByteArray) (R : Rds) (h : RS R 1 encS v l) : Spec Tryz.prog 54 [v] R [] fun u H' => u = .bool (decide (Rise l)) ∧ H' = [] := by
  have hle := h.le
  have iv := h.oneCell
  refine Spec.body Tryz.func54 rfl Tryz.results54 Tryz.ntmps54 rfl ?_
  refine .seq (.region ?_)
  refine .q .assign ?_
  refine .nil (seqQ_n ?_)
  refine .seq ?_
  refine .seq (.region ?_)
  refine .q .assign ?_
  refine .nil (seqQ_n ?_)
  refine .block ?_
  refine .loop (X := Nat) (fun i => 1 ≤ i ∧ (i ≤ l.length ∨ i = 1) ∧ Rise (l.take i)) (fun i => [(0, v), (3, .int .i64 (i : Nat))]) (fun _ => []) (fun i => l.length - i) 1 ⟨Nat.le_refl _, .inr rfl, by
    match l with
    | [] => exact List.Pairwise.nil
    | x :: l => simp⟩ (((EnvLe.nil _).cons rfl).cons rfl) (HLe.refl _) ?_
  rintro i ⟨hi1, hi2, hr⟩
  refine .seq ?_
  refine .seq (.region ?_)
  refine .q .move ?_
  refine .q .move ?_
  refine .q (.lenR h) ?_
  refine .q .lss ?_
  refine .nil (seqQ_n ?_)
  refine .cond rfl (fun h1 => ?_) (fun h1 => ?_)
  have hlt : i < l.length := by have := of_decide_eq_true h1; omega
  obtain ⟨x, hx⟩ : ∃ x, l[i]? = some x := ⟨_, List.getElem?_eq_getElem hlt⟩
  obtain ⟨y, hy⟩ : ∃ x, l[i - 1]? = some x := ⟨_, List.getElem?_eq_getElem (by omega)⟩
  refine .skip ?_
  refine seqQ_n ?_
  refine .seq ?_
  refine .block ?_
  refine .seq ?_
  refine .region_still mixed (by kernel_rfl) ?_
  refine .q .move ?_
  refine .q .move ?_
  refine .q (.i64 ((i - 1 : Nat) : Int) .sub ⟨by omega, by omega, by omega⟩) ?_
  refine TriOps.indexR (i - 1) h hy (fun p13 => ?_)
  refine .q (.load1 rfl) ?_
  refine .q .move ?_
  refine .q .move ?_
  refine TriOps.indexR i h hx (fun p17 => ?_)
  refine .q (.load1 rfl) ?_
  refine .q .geS ?_
  refine .nil (seqQ_n ?_)
  refine .cond rfl (fun h2 => ?_) (fun h2 => ?_)
  have hbad : decide (Rise l) = false := decide_eq_false fun h9 => by
    have h8 := pw_next (r := fun a b => sLt a b = true) h9 hx hy (by omega)
    have h7 : sLt y x = false := by simpa using h2
    rw [h8] at h7; cases h7
  refine .seq (.region ?_)
  refine .q .assign ?_
  refine .nil (seqQ_n ?_)
  refine .ret (blkQ_r (seqQ_r (loopQ_r (blkQ_r (seqQ_r (retQ_r _ (.one (.tmp rfl)) (.none _) ?_))))))
  · first
      | exact ⟨by rw [hbad], rfl⟩
      | exact ⟨by rw [hgood], rfl⟩
  refine .skip ?_
  refine blkQ_n (seqQ_n ?_)
  refine .region ?_
  refine .q .move ?_
  refine .q (.i64 ((i + 1 : Nat) : Int) .add ⟨by omega, by omega, by omega⟩) ?_
  refine .q .assign ?_
  refine .nil ?_
  · exact loopQ_i (i + 1) ⟨by omega, .inl hlt, pw_snoc (r := fun a b => sLt a b = true) (fun x y z h1 h2 => sLt_trans h1 h2) hr hx fun y' _ hy' => by
      rw [hy] at hy'; cases hy'
      simpa using h2⟩ (by omega) (((EnvLe.nil _).cons rfl).cons rfl) (HLe.refl _)
  have hgood : decide (Rise l) = true := by
    rw [List.take_of_length_le (by have := of_decide_eq_false h1; omega)] at hr
    exact decide_eq_true hr
  refine .exit (seqQ_x (loopQ_x (blkQ_x ?_)))
  refine seqQ_n ?_
  refine .seq (.region ?_)
  refine .q .assign ?_
  refine .nil (seqQ_n ?_)
  refine .ret (retQ_r _ (.one (.tmp rfl)) (.none _) ?_)
  · first
      | exact ⟨by rw [hbad], rfl⟩
      | exact ⟨by rw [hgood], rfl⟩
abbrev cons_ (ps : List NP) : List (Who × List ByteArray) := ps.map (·.2)
theorem gload_spec (v vt : Value) (ps : List NP) (qs : List GP) (R : Rds) (h : RS R 3 encN v ps) (hc : ∀ p ∈ ps, NpR R p) (hf : ∀ p ∈ ps, p.2.2.length ≤ 100000) (h' : RS R 9 encG vt qs) (hc' : ∀ p ∈ qs, CodR R p) (hf' : ∀ p ∈ qs, p.2.few) :
    Spec Tryz.prog 15 [v, vt] R [] fun u H' => ∃ T, H' = [T] ∧ ((rightG (cons_ ps) (cods qs) = true ∧ ∃ g, u = .tuple [.pointer (some ⟨g, 0, none⟩), .int .i64 0].toArray ∧ GI g (cons_ ps) (gkv (cods qs)) T) ∨ (rightG (cons_ ps) (cods qs) = false ∧ u = .tuple [.pointer none, .int .i64 4].toArray)) := by
  have hle := h.le
  have hle' := h'.le
  have hpl : (cons_ ps).length = ps.length := by simp
  have hql : (cods qs).length = qs.length := by simp
  obtain ⟨pv, kv_, rfl⟩ := h.val
  obtain ⟨pt, kt_, rfl⟩ := h'.val
  refine Spec.body Tryz.func15 rfl Tryz.results15 Tryz.ntmps15 rfl ?_
  refine .seq (.region ?_)
  refine .q .assign ?_
  refine .q .assign ?_
  refine .nil (seqQ_n ?_)
  refine .seq (.region ?_)
  refine TriOps.callN (gnew_spec _) (fun u T0 hu => ?_)
  obtain ⟨g, rfl, hg0⟩ := hu
  refine .q .assign ?_
  refine .nil (seqQ_n ?_)
  refine .seq ?_
  refine .seq (.region ?_)
  refine .q .move ?_
  refine .q (.lenR h) ?_
  refine .q .move ?_
  refine .nil (seqQ_n ?_)
  refine .block ?_
  refine .loop (X := Nat × Seg) (fun y => y.1 ≤ ps.length ∧ ((∀ p ∈ (cons_ ps).take y.1, p.2 ≠ [] ∧ Rise p.2) ∧ ((cons_ ps).take y.1).Pairwise fun a b => whoCmp a.1 b.1 < 0) ∧ GI g ((cons_ ps).take y.1) [] y.2) (fun y => [(0, .slice pv ps.length kv_), (1, .slice pt qs.length kt_), (6, .pointer (some ⟨g, 0, none⟩)), (12, .slice pv ps.length kv_), (13, .int .i64 (ps.length : Nat)), (14, .int .i64 (y.1 : Nat))]) (fun y => [y.2]) (fun y => ps.length - y.1) (0, T0) ⟨Nat.zero_le _, ⟨by simp, by simp⟩, hg0⟩ (((((((EnvLe.nil _).cons rfl).cons rfl).cons rfl).cons rfl).cons rfl).cons rfl) (HLe.refl _) ?_
  clear hg0
  rintro ⟨i, T⟩ ⟨hi, ⟨hok1, hok2⟩, hG⟩
  simp only at hi hok1 hok2 hG ⊢
  refine .seq (.region ?_)
  refine .q .lss ?_
  refine .nil (seqQ_n ?_)
  refine .seq ?_
  refine .cond rfl (fun h1 => ?_) (fun h1 => ?_)
  have hlt : i < ps.length := by have := of_decide_eq_true h1; omega
  obtain ⟨⟨wz, kz, lz⟩, hz⟩ : ∃ z, ps[i]? = some z := ⟨_, List.getElem?_eq_getElem hlt⟩
  have cz := hc _ (List.mem_of_getElem? hz)
  have fz := hf _ (List.mem_of_getElem? hz)
  have rz : RS R 1 encS wz lz := cz
  have iz : Ones (encN (wz, kz, lz)) := ⟨cz.ones⟩
  have hzt : (cons_ ps)[i]? = some (kz, lz) := by simp [hz]
  have iw : One wz := rz.oneCell
  refine .skip ?_
  refine seqQ_n ?_
  refine .seq ?_
  refine .block ?_
  refine .seq (.region ?_)
  refine .q .move ?_
  refine TriOps.indexR i h hz (fun p17 => ?_)
  refine .q (.loadA rfl) ?_
  refine TriOps.allocA (fun b8 => ?_)
  refine .q .assign ?_
  refine TriOps.storeA rfl rfl ?_
  refine .nil (seqQ_n ?_)
  refine .seq ?_
  refine .seq ?_
  refine .region_tail 9 mixed (by kernel_rfl) ?_
  conv => arg 6; dsimp only [List.take]
  refine .q .move ?_
  refine .q .gtr ?_
  refine .q .move ?_
  refine TriOps.split (t := 21) rfl (fun g5_2 => ?_) (fun g5_2 => ?_)
  have hi0 : 0 < i := by have := of_decide_eq_true g5_2; omega
  obtain ⟨⟨wy, ky, ly⟩, hy⟩ : ∃ z, ps[i - 1]? = some z := ⟨_, List.getElem?_eq_getElem (by omega)⟩
  have cy := hc _ (List.mem_of_getElem? hy)
  have iy : Ones (encN (wy, ky, ly)) := ⟨cy.ones⟩
  have hyt : (cons_ ps)[i - 1]? = some (ky, ly) := by simp [hy]
  have py := h.pc hy
  refine TriOps.gT g5_2 ?_
  refine .q .move ?_
  refine TriOps.gT g5_2 ?_
  refine .q .move ?_
  refine TriOps.gT g5_2 ?_
  refine .q (.i64 ((i - 1 : Nat) : Int) .sub ⟨by omega, by omega, by omega⟩) ?_
  refine TriOps.gT g5_2 ?_
  refine .q (.indexR (i - 1) h hy rfl rfl rfl) ?_
  refine TriOps.gT g5_2 ?_
  refine .q (.loadA rfl) ?_
  refine TriOps.gT g5_2 ?_
  refine .q (.loadA rfl) ?_
  refine .nil ?_
  refine TriOps.gT g5_2 ?_
  refine TriOps.callR (before_spec (wy, ky, ly) (wz, kz, lz) _ iy.h iz.h) (fun u hu => ?_)
  subst hu
  refine TriOps.gT g5_2 ?_
  refine .q .geq ?_
  refine .q (.pickTh g5_2) ?_
  refine .q .move ?_
  refine TriOps.split (t := 31) rfl (fun g5_12 => ?_) (fun g5_12 => ?_)
  have hbad : rightG (cons_ ps) (cods qs) = false := by
    unfold rightG
    rw [decide_eq_false (p := RightC (cons_ ps)), Bool.false_and]
    intro h9
    have h8 : whoCmp ky kz < 0 := pw_next (r := fun a b : Who × List ByteArray => whoCmp a.1 b.1 < 0) h9.2 hzt hyt hi0
    have h7 := of_decide_eq_true g5_12
    have e7 : ncmp (wy, ky, ly) (wz, kz, lz) = whoCmp ky kz := rfl
    omega
  refine TriOps.gF g5_12 ?_
  refine TriOps.gF g5_12 ?_
  refine TriOps.gF g5_12 ?_
  refine TriOps.gF g5_12 ?_
  refine .q (.pickTh g5_12) ?_
  refine .q .move ?_
  refine TriOps.gf rfl rfl ?_
  refine TriOps.gf rfl rfl ?_
  refine TriOps.gf rfl rfl ?_
  refine TriOps.gf rfl rfl ?_
  refine .q .pickT ?_
  refine .nil (seqQ_n ?_)
  refine .condT ?_
  skip
  have hbad : rightG (cons_ ps) (cods qs) = false := by
    first
      | assumption
      | (unfold rightG
         rw [decide_eq_false (p := RightC (cons_ ps)), Bool.false_and]
         intro h9
         have h8 := (h9.1 (kz, lz) (List.mem_of_getElem? hzt)).2
         have h7 : decide (Rise lz) = false := by simpa using h2
         rw [decide_eq_true h8] at h7; cases h7)
  refine .seq (.region ?_)
  refine .q .assign ?_
  refine .q .assign ?_
  refine .nil (seqQ_n ?_)
  refine .ret (seqQ_r (blkQ_r (seqQ_r (loopQ_r (blkQ_r (seqQ_r (retQ_r _ (.two (.tmp rfl) (.tmp rfl)) (.one [0] _) ?_)))))))
  · first
      | exact ⟨_, rfl, .inl ⟨hgood, g, rfl, by simpa [take] using hG⟩⟩
      | exact ⟨_, rfl, .inr ⟨hbad, rfl⟩⟩
  refine TriOps.gT g5_12 ?_
  refine .q (.fieldAddr rfl) ?_
  refine TriOps.gT g5_12 ?_
  refine .q (.load1 rfl) ?_
  refine TriOps.gT g5_12 ?_
  refine .q (.lenR rz) ?_
  refine TriOps.gT g5_12 ?_
  refine .q .eqI ?_
  refine .q (.pickFh g5_12) ?_
  refine .q .move ?_
  refine TriOps.split (t := 37) rfl (fun g5_18 => ?_) (fun g5_18 => ?_)
  have hbad : rightG (cons_ ps) (cods qs) = false := by
    unfold rightG
    rw [decide_eq_false (p := RightC (cons_ ps)), Bool.false_and]
    intro h9
    have h8 := (h9.1 (kz, lz) (List.mem_of_getElem? hzt)).1
    have h7 : ((lz.length : Nat) : Int) = 0 := by simpa using g5_18
    exact h8 (List.length_eq_zero_iff.1 (show lz.length = 0 by omega))
  refine TriOps.gF g5_18 ?_
  refine TriOps.gF g5_18 ?_
  refine TriOps.gF g5_18 ?_
  refine TriOps.gF g5_18 ?_
  refine .q (.pickTh g5_18) ?_
  refine .nil (seqQ_n ?_)
  refine .condT ?_
  skip
  have hbad : rightG (cons_ ps) (cods qs) = false := by
    first
      | assumption
      | (unfold rightG
         rw [decide_eq_false (p := RightC (cons_ ps)), Bool.false_and]
         intro h9
         have h8 := (h9.1 (kz, lz) (List.mem_of_getElem? hzt)).2
         have h7 : decide (Rise lz) = false := by simpa using h2
         rw [decide_eq_true h8] at h7; cases h7)
  refine .seq (.region ?_)
  refine .q .assign ?_
  refine .q .assign ?_
  refine .nil (seqQ_n ?_)
  refine .ret (seqQ_r (blkQ_r (seqQ_r (loopQ_r (blkQ_r (seqQ_r (retQ_r _ (.two (.tmp rfl) (.tmp rfl)) (.one [0] _) ?_)))))))
  · first
      | exact ⟨_, rfl, .inl ⟨hgood, g, rfl, by simpa [take] using hG⟩⟩
      | exact ⟨_, rfl, .inr ⟨hbad, rfl⟩⟩
  refine TriOps.gT g5_18 ?_
  refine .q (.fieldAddr rfl) ?_
  refine TriOps.gT g5_18 ?_
  refine .q (.load1 rfl) ?_
  refine TriOps.gT g5_18 ?_
  refine TriOps.callR (rising_spec wz lz _ rz.rx) (fun u hu => ?_)
  subst hu
  refine TriOps.gT g5_18 ?_
  refine .q .not ?_
  refine .q (.pickFh g5_18) ?_
  refine .nil (seqQ_n ?_)
  refine .cond rfl (fun h2 => ?_) (fun h2 => ?_)
  skip
  have hbad : rightG (cons_ ps) (cods qs) = false := by
    first
      | assumption
      | (unfold rightG
         rw [decide_eq_false (p := RightC (cons_ ps)), Bool.false_and]
         intro h9
         have h8 := (h9.1 (kz, lz) (List.mem_of_getElem? hzt)).2
         have h7 : decide (Rise lz) = false := by simpa using h2
         rw [decide_eq_true h8] at h7; cases h7)
  refine .seq (.region ?_)
  refine .q .assign ?_
  refine .q .assign ?_
  refine .nil (seqQ_n ?_)
  refine .ret (seqQ_r (blkQ_r (seqQ_r (loopQ_r (blkQ_r (seqQ_r (retQ_r _ (.two (.tmp rfl) (.tmp rfl)) (.one [0] _) ?_)))))))
  · first
      | exact ⟨_, rfl, .inl ⟨hgood, g, rfl, by simpa [take] using hG⟩⟩
      | exact ⟨_, rfl, .inr ⟨hbad, rfl⟩⟩
  have hne : lz ≠ [] := fun e => by rw [e] at g5_18; simp at g5_18
  have hri : Rise lz := by simpa using h2
  have hok1' : ∀ p ∈ (cons_ ps).take (i + 1), p.2 ≠ [] ∧ Rise p.2 := fun p hp => by
    rw [List.take_add_one, hzt] at hp
    rcases List.mem_append.1 hp with hp | hp
    · exact hok1 p hp
    · simp at hp; subst hp; exact ⟨hne, hri⟩
  have hok2' : ((cons_ ps).take (i + 1)).Pairwise fun a b => whoCmp a.1 b.1 < 0 := pw_snoc (r := fun a b : Who × List ByteArray => whoCmp a.1 b.1 < 0) whoCmp_tr hok2 hzt fun y h0 hy' => by
    first
      | (exfalso; have := of_decide_eq_false g5_2; omega)
      | (rw [hyt] at hy'; cases hy'
         have h7 := of_decide_eq_false g5_12
         have e7 : ncmp (wy, ky, ly) (wz, kz, lz) = whoCmp ky kz := rfl
         show whoCmp ky kz < 0
         omega)
  have hnew : kz ∉ ((cons_ ps).take i).map (·.1) := fun hm => by
    rw [List.take_add_one, hzt] at hok2'
    obtain ⟨p, hp, hpe⟩ := List.mem_map.1 hm
    have := (List.pairwise_append.1 hok2').2.2 p hp (kz, lz) (by simp)
    simp only at this
    rw [hpe] at this
    have e0 := whoCmp_ok.refl kz
    omega
  refine .skip ?_
  refine seqQ_n ?_
  refine .region ?_
  refine .q .move ?_
  refine .q (.fieldAddr rfl) ?_
  refine .q (.load1 rfl) ?_
  refine .q (.fieldAddr rfl) ?_
  refine .q (.load1 rfl) ?_
  refine .q (.fieldAddr rfl) ?_
  refine .q (.load1 rfl) ?_
  refine TriOps.callM (gconsent_spec g _ [] T hG kz.1 kz.2 wz lz _ rz fz (fun p hp => by
    have hp' := List.mem_of_mem_take hp
    obtain ⟨q, hq, rfl⟩ := List.mem_map.1 hp'
    have := hf q hq
    omega)) (fun u T2 hu => ?_)
  obtain ⟨rfl, l2, hl2, hm2, _, hG2⟩ := hu
  have hno : mget (kz.1, kz.2) ((cons_ ps).take i) = none := mget_none.2 hnew
  have hl2e : l2 = lz := rise_ext hl2 hri fun s => by rw [hm2, hno]; simp
  subst hl2e
  rw [if_neg hne, show kset (kz.1, kz.2) l2 ((cons_ ps).take i) = (cons_ ps).take (i + 1) by
    unfold kset
    rw [kdel_none hnew, List.take_add_one, hzt]
    rfl] at hG2
  refine .nil ?_
  refine blkQ_n (seqQ_n ?_)
  refine .region ?_
  refine .q (.i64 ((i + 1 : Nat) : Int) .add ⟨by omega, by omega, by omega⟩) ?_
  refine .q .move ?_
  refine .nil ?_
  · exact loopQ_i (i + 1, T2) ⟨hlt, ⟨hok1', hok2'⟩, hG2⟩ (by simp only; omega) (((((((EnvLe.nil _).cons rfl).cons rfl).cons rfl).cons rfl).cons rfl).cons rfl) (HLe.pick [1] _)
  refine TriOps.gF g5_2 ?_
  refine TriOps.gF g5_2 ?_
  refine TriOps.gF g5_2 ?_
  refine TriOps.gF g5_2 ?_
  refine TriOps.gF g5_2 ?_
  refine TriOps.gF g5_2 ?_
  refine .nil ?_
  refine TriOps.gF g5_2 ?_
  refine TriOps.gF g5_2 ?_
  refine .q (.pickFh g5_2) ?_
  refine .q .move ?_
  refine TriOps.gt rfl ?_
  refine .q (.fieldAddr rfl) ?_
  refine TriOps.gt rfl ?_
  refine .q (.load1 rfl) ?_
  refine TriOps.gt rfl ?_
  refine .q (.lenR rz) ?_
  refine TriOps.gt rfl ?_
  refine .q .eqI ?_
  refine .q .pickF ?_
  refine .q .move ?_
  refine TriOps.split (t := 37) rfl (fun g5_18 => ?_) (fun g5_18 => ?_)
  have hbad : rightG (cons_ ps) (cods qs) = false := by
    unfold rightG
    rw [decide_eq_false (p := RightC (cons_ ps)), Bool.false_and]
    intro h9
    have h8 := (h9.1 (kz, lz) (List.mem_of_getElem? hzt)).1
    have h7 : ((lz.length : Nat) : Int) = 0 := by simpa using g5_18
    exact h8 (List.length_eq_zero_iff.1 (show lz.length = 0 by omega))
  refine TriOps.gF g5_18 ?_
  refine TriOps.gF g5_18 ?_
  refine TriOps.gF g5_18 ?_
  refine TriOps.gF g5_18 ?_
  refine .q (.pickTh g5_18) ?_
  refine .nil (seqQ_n ?_)
  refine .condT ?_
  skip
  have hbad : rightG (cons_ ps) (cods qs) = false := by
    first
      | assumption
      | (unfold rightG
         rw [decide_eq_false (p := RightC (cons_ ps)), Bool.false_and]
         intro h9
         have h8 := (h9.1 (kz, lz) (List.mem_of_getElem? hzt)).2
         have h7 : decide (Rise lz) = false := by simpa using h2
         rw [decide_eq_true h8] at h7; cases h7)
  refine .seq (.region ?_)
  refine .q .assign ?_
  refine .q .assign ?_
  refine .nil (seqQ_n ?_)
  refine .ret (seqQ_r (blkQ_r (seqQ_r (loopQ_r (blkQ_r (seqQ_r (retQ_r _ (.two (.tmp rfl) (.tmp rfl)) (.one [0] _) ?_)))))))
  · first
      | exact ⟨_, rfl, .inl ⟨hgood, g, rfl, by simpa [take] using hG⟩⟩
      | exact ⟨_, rfl, .inr ⟨hbad, rfl⟩⟩
  refine TriOps.gT g5_18 ?_
  refine .q (.fieldAddr rfl) ?_
  refine TriOps.gT g5_18 ?_
  refine .q (.load1 rfl) ?_
  refine TriOps.gT g5_18 ?_
  refine TriOps.callR (rising_spec wz lz _ rz.rx) (fun u hu => ?_)
  subst hu
  refine TriOps.gT g5_18 ?_
  refine .q .not ?_
  refine .q (.pickFh g5_18) ?_
  refine .nil (seqQ_n ?_)
  refine .cond rfl (fun h2 => ?_) (fun h2 => ?_)
  skip
  have hbad : rightG (cons_ ps) (cods qs) = false := by
    first
      | assumption
      | (unfold rightG
         rw [decide_eq_false (p := RightC (cons_ ps)), Bool.false_and]
         intro h9
         have h8 := (h9.1 (kz, lz) (List.mem_of_getElem? hzt)).2
         have h7 : decide (Rise lz) = false := by simpa using h2
         rw [decide_eq_true h8] at h7; cases h7)
  refine .seq (.region ?_)
  refine .q .assign ?_
  refine .q .assign ?_
  refine .nil (seqQ_n ?_)
  refine .ret (seqQ_r (blkQ_r (seqQ_r (loopQ_r (blkQ_r (seqQ_r (retQ_r _ (.two (.tmp rfl) (.tmp rfl)) (.one [0] _) ?_)))))))
  · first
      | exact ⟨_, rfl, .inl ⟨hgood, g, rfl, by simpa [take] using hG⟩⟩
      | exact ⟨_, rfl, .inr ⟨hbad, rfl⟩⟩
  have hne : lz ≠ [] := fun e => by rw [e] at g5_18; simp at g5_18
  have hri : Rise lz := by simpa using h2
  have hok1' : ∀ p ∈ (cons_ ps).take (i + 1), p.2 ≠ [] ∧ Rise p.2 := fun p hp => by
    rw [List.take_add_one, hzt] at hp
    rcases List.mem_append.1 hp with hp | hp
    · exact hok1 p hp
    · simp at hp; subst hp; exact ⟨hne, hri⟩
  have hok2' : ((cons_ ps).take (i + 1)).Pairwise fun a b => whoCmp a.1 b.1 < 0 := pw_snoc (r := fun a b : Who × List ByteArray => whoCmp a.1 b.1 < 0) whoCmp_tr hok2 hzt fun y h0 hy' => by
    first
      | (exfalso; have := of_decide_eq_false g5_2; omega)
      | (rw [hyt] at hy'; cases hy'
         have h7 := of_decide_eq_false g5_12
         have e7 : ncmp (wy, ky, ly) (wz, kz, lz) = whoCmp ky kz := rfl
         show whoCmp ky kz < 0
         omega)
  have hnew : kz ∉ ((cons_ ps).take i).map (·.1) := fun hm => by
    rw [List.take_add_one, hzt] at hok2'
    obtain ⟨p, hp, hpe⟩ := List.mem_map.1 hm
    have := (List.pairwise_append.1 hok2').2.2 p hp (kz, lz) (by simp)
    simp only at this
    rw [hpe] at this
    have e0 := whoCmp_ok.refl kz
    omega
  refine .skip ?_
  refine seqQ_n ?_
  refine .region ?_
  refine .q .move ?_
  refine .q (.fieldAddr rfl) ?_
  refine .q (.load1 rfl) ?_
  refine .q (.fieldAddr rfl) ?_
  refine .q (.load1 rfl) ?_
  refine .q (.fieldAddr rfl) ?_
  refine .q (.load1 rfl) ?_
  refine TriOps.callM (gconsent_spec g _ [] T hG kz.1 kz.2 wz lz _ rz fz (fun p hp => by
    have hp' := List.mem_of_mem_take hp
    obtain ⟨q, hq, rfl⟩ := List.mem_map.1 hp'
    have := hf q hq
    omega)) (fun u T2 hu => ?_)
  obtain ⟨rfl, l2, hl2, hm2, _, hG2⟩ := hu
  have hno : mget (kz.1, kz.2) ((cons_ ps).take i) = none := mget_none.2 hnew
  have hl2e : l2 = lz := rise_ext hl2 hri fun s => by rw [hm2, hno]; simp
  subst hl2e
  rw [if_neg hne, show kset (kz.1, kz.2) l2 ((cons_ ps).take i) = (cons_ ps).take (i + 1) by
    unfold kset
    rw [kdel_none hnew, List.take_add_one, hzt]
    rfl] at hG2
  refine .nil ?_
  refine blkQ_n (seqQ_n ?_)
  refine .region ?_
  refine .q (.i64 ((i + 1 : Nat) : Int) .add ⟨by omega, by omega, by omega⟩) ?_
  refine .q .move ?_
  refine .nil ?_
  · exact loopQ_i (i + 1, T2) ⟨hlt, ⟨hok1', hok2'⟩, hG2⟩ (by simp only; omega) (((((((EnvLe.nil _).cons rfl).cons rfl).cons rfl).cons rfl).cons rfl).cons rfl) (HLe.pick [1] _)
  have hin : i = ps.length := by have := of_decide_eq_false h1; omega
  rw [hin, ← hpl, List.take_length] at hok1 hok2 hG
  have hRC : RightC (cons_ ps) := ⟨hok1, hok2⟩
  refine .exit (seqQ_x (loopQ_x (blkQ_x ?_)))
  refine seqQ_n ?_
  refine .seq ?_
  refine .seq (.region ?_)
  refine .q .move ?_
  refine .q (.lenR h') ?_
  refine .q .move ?_
  refine .nil (seqQ_n ?_)
  refine .block ?_
  refine .loop (X := Nat × Seg) (fun y => y.1 ≤ qs.length ∧ (y.1 ≤ 4096 ∧ ((cods qs).take y.1).Pairwise fun a b => sLt a.text b.text = true) ∧ GI g (cons_ ps) (gkv ((cods qs).take y.1)) y.2) (fun y => [(1, .slice pt qs.length kt_), (6, .pointer (some ⟨g, 0, none⟩)), (52, .slice pt qs.length kt_), (53, .int .i64 (qs.length : Nat)), (54, .int .i64 (y.1 : Nat))]) (fun y => [y.2]) (fun y => qs.length - y.1) (0, T) ⟨Nat.zero_le _, ⟨Nat.zero_le _, by simp⟩, hG⟩ ((((((EnvLe.nil _).cons rfl).cons rfl).cons rfl).cons rfl).cons rfl) (HLe.refl _) ?_
  clear hG T
  rintro ⟨j, T⟩ ⟨hj, ⟨hj4, hokd⟩, hG⟩
  simp only at hj hj4 hokd hG ⊢
  refine .seq (.region ?_)
  refine .q .lss ?_
  refine .nil (seqQ_n ?_)
  refine .seq ?_
  refine .cond rfl (fun h3 => ?_) (fun h3 => ?_)
  have hlt : j < qs.length := by have := of_decide_eq_true h3; omega
  obtain ⟨⟨wz, tz⟩, hz⟩ : ∃ z, qs[j]? = some z := ⟨_, List.getElem?_eq_getElem hlt⟩
  have cz := hc' _ (List.mem_of_getElem? hz)
  have fz := hf' _ (List.mem_of_getElem? hz)
  have iz : Ones (encG (wz, tz)) := ⟨cz.ones⟩
  have hzt : (cods qs)[j]? = some tz := by simp [hz]
  refine .skip ?_
  refine seqQ_n ?_
  refine .seq ?_
  refine .block ?_
  refine .seq (.region ?_)
  refine .q .move ?_
  refine TriOps.indexR j h' hz (fun p57 => ?_)
  refine .q (.loadA rfl) ?_
  refine TriOps.allocA (fun b10 => ?_)
  refine .q .assign ?_
  refine TriOps.storeA rfl rfl ?_
  refine .nil (seqQ_n ?_)
  refine .seq ?_
  refine .seq ?_
  refine .region_still mixed (by kernel_rfl) ?_
  refine .q .move ?_
  refine .q .gtr ?_
  refine .q .move ?_
  refine TriOps.split (t := 61) rfl (fun g12_2 => ?_) (fun g12_2 => ?_)
  have hj0 : 0 < j := by have := of_decide_eq_true g12_2; omega
  obtain ⟨⟨wy, ty⟩, hy⟩ : ∃ z, qs[j - 1]? = some z := ⟨_, List.getElem?_eq_getElem (by omega)⟩
  have cy := hc' _ (List.mem_of_getElem? hy)
  have iy : Ones (encG (wy, ty)) := ⟨cy.ones⟩
  have hyt : (cods qs)[j - 1]? = some ty := by simp [hy]
  have py := h'.pc hy
  refine TriOps.gT g12_2 ?_
  refine .q .move ?_
  refine TriOps.gT g12_2 ?_
  refine .q .move ?_
  refine TriOps.gT g12_2 ?_
  refine .q (.i64 ((j - 1 : Nat) : Int) .sub ⟨by omega, by omega, by omega⟩) ?_
  refine TriOps.gT g12_2 ?_
  refine .q (.indexR (j - 1) h' hy rfl rfl rfl) ?_
  refine TriOps.gT g12_2 ?_
  refine .q (.fieldAddr rfl) ?_
  refine TriOps.gT g12_2 ?_
  refine .q (.load1 rfl) ?_
  refine TriOps.gT g12_2 ?_
  refine .q (.fieldAddr rfl) ?_
  refine TriOps.gT g12_2 ?_
  refine .q (.load1 rfl) ?_
  refine TriOps.gT g12_2 ?_
  refine .q .geS ?_
  refine .q (.pickTh g12_2) ?_
  refine .q .move ?_
  refine TriOps.split (t := 72) rfl (fun g12_13 => ?_) (fun g12_13 => ?_)
  have hbad : rightG (cons_ ps) (cods qs) = false := by
    unfold rightG
    rw [decide_eq_false (p := RightD (cods qs)), Bool.and_false]
    intro h9
    have h8 : sLt ty.text tz.text = true := pw_next (r := fun a b : Cod => sLt a.text b.text = true) h9.1 hzt hyt hj0
    have h7 : sLt ty.text tz.text = false := by simpa using g12_13
    rw [h8] at h7; cases h7
  refine TriOps.gF g12_13 ?_
  refine TriOps.gF g12_13 ?_
  refine .q (.pickTh g12_13) ?_
  refine .nil (seqQ_n ?_)
  refine .condT ?_
  have hbad : rightG (cons_ ps) (cods qs) = false := by
    first
      | assumption
      | (unfold rightG
         rw [decide_eq_false (p := RightD (cods qs)), Bool.and_false]
         intro h9
         have h8 := h9.2
         have h7 := of_decide_eq_true h4
         omega)
  refine .seq (.region ?_)
  refine .q .assign ?_
  refine .q .assign ?_
  refine .nil (seqQ_n ?_)
  refine .ret (seqQ_r (blkQ_r (seqQ_r (loopQ_r (blkQ_r (seqQ_r (retQ_r _ (.two (.tmp rfl) (.tmp rfl)) (.one [0] _) ?_)))))))
  · first
      | exact ⟨_, rfl, .inl ⟨hgood, g, rfl, by simpa [take] using hG⟩⟩
      | exact ⟨_, rfl, .inr ⟨hbad, rfl⟩⟩
  refine TriOps.gT g12_13 ?_
  refine .q .move ?_
  refine TriOps.gT g12_13 ?_
  refine .q .geq ?_
  refine .q (.pickFh g12_13) ?_
  refine .nil (seqQ_n ?_)
  refine .cond rfl (fun h4 => ?_) (fun h4 => ?_)
  have hbad : rightG (cons_ ps) (cods qs) = false := by
    first
      | assumption
      | (unfold rightG
         rw [decide_eq_false (p := RightD (cods qs)), Bool.and_false]
         intro h9
         have h8 := h9.2
         have h7 := of_decide_eq_true h4
         omega)
  refine .seq (.region ?_)
  refine .q .assign ?_
  refine .q .assign ?_
  refine .nil (seqQ_n ?_)
  refine .ret (seqQ_r (blkQ_r (seqQ_r (loopQ_r (blkQ_r (seqQ_r (retQ_r _ (.two (.tmp rfl) (.tmp rfl)) (.one [0] _) ?_)))))))
  · first
      | exact ⟨_, rfl, .inl ⟨hgood, g, rfl, by simpa [take] using hG⟩⟩
      | exact ⟨_, rfl, .inr ⟨hbad, rfl⟩⟩
  have hj5 : j < 4096 := by have := of_decide_eq_false h4; omega
  have hokd' : ((cods qs).take (j + 1)).Pairwise fun a b => sLt a.text b.text = true := pw_snoc (r := fun a b : Cod => sLt a.text b.text = true) (fun x y z h1 h2 => sLt_trans h1 h2) hokd hzt fun y h0 hy' => by
    first
      | (exfalso; have := of_decide_eq_false g12_2; omega)
      | (rw [hyt] at hy'; cases hy'
         simpa using g12_13)
  have htk : (cods qs).take (j + 1) = (cods qs).take j ++ [tz] := by rw [List.take_add_one, hzt]; rfl
  refine .skip ?_
  refine seqQ_n ?_
  refine .region ?_
  refine .q .move ?_
  refine .q (.loadA rfl) ?_
  refine TriOps.callM (gput_spec g _ _ T hG wz tz _ cz fz (by simp [gkv]; omega)) (fun u T2 hu => ?_)
  obtain ⟨rfl, hG2⟩ := hu
  have hset : kset tz.text tz (gkv ((cods qs).take j)) = gkv ((cods qs).take (j + 1)) := by
    rw [htk]
    unfold kset
    rw [kdel_none]
    · simp [gkv]
    · intro hm
      rw [htk, List.pairwise_append] at hokd'
      obtain ⟨p, hp, hpe⟩ := List.mem_map.1 hm
      obtain ⟨t, ht, rfl⟩ := List.mem_map.1 hp
      have := hokd'.2.2 t ht tz (by simp)
      simp only at hpe
      rw [hpe, sLt_irr] at this; cases this
  rw [hset] at hG2
  refine .nil ?_
  refine blkQ_n (seqQ_n ?_)
  refine .region ?_
  refine .q (.i64 ((j + 1 : Nat) : Int) .add ⟨by omega, by omega, by omega⟩) ?_
  refine .q .move ?_
  refine .nil ?_
  · exact loopQ_i (j + 1, T2) ⟨hlt, ⟨hj5, hokd'⟩, hG2⟩ (by simp only; omega) ((((((EnvLe.nil _).cons rfl).cons rfl).cons rfl).cons rfl).cons rfl) (HLe.pick [1] _)
  refine TriOps.gF g12_2 ?_
  refine TriOps.gF g12_2 ?_
  refine TriOps.gF g12_2 ?_
  refine TriOps.gF g12_2 ?_
  refine TriOps.gF g12_2 ?_
  refine TriOps.gF g12_2 ?_
  refine TriOps.gF g12_2 ?_
  refine TriOps.gF g12_2 ?_
  refine TriOps.gF g12_2 ?_
  refine .q (.pickFh g12_2) ?_
  refine .q .move ?_
  refine TriOps.gt rfl ?_
  refine .q .move ?_
  refine TriOps.gt rfl ?_
  refine .q .geq ?_
  refine .q .pickF ?_
  refine .nil (seqQ_n ?_)
  refine .cond rfl (fun h4 => ?_) (fun h4 => ?_)
  have hbad : rightG (cons_ ps) (cods qs) = false := by
    first
      | assumption
      | (unfold rightG
         rw [decide_eq_false (p := RightD (cods qs)), Bool.and_false]
         intro h9
         have h8 := h9.2
         have h7 := of_decide_eq_true h4
         omega)
  refine .seq (.region ?_)
  refine .q .assign ?_
  refine .q .assign ?_
  refine .nil (seqQ_n ?_)
  refine .ret (seqQ_r (blkQ_r (seqQ_r (loopQ_r (blkQ_r (seqQ_r (retQ_r _ (.two (.tmp rfl) (.tmp rfl)) (.one [0] _) ?_)))))))
  · first
      | exact ⟨_, rfl, .inl ⟨hgood, g, rfl, by simpa [take] using hG⟩⟩
      | exact ⟨_, rfl, .inr ⟨hbad, rfl⟩⟩
  have hj5 : j < 4096 := by have := of_decide_eq_false h4; omega
  have hokd' : ((cods qs).take (j + 1)).Pairwise fun a b => sLt a.text b.text = true := pw_snoc (r := fun a b : Cod => sLt a.text b.text = true) (fun x y z h1 h2 => sLt_trans h1 h2) hokd hzt fun y h0 hy' => by
    first
      | (exfalso; have := of_decide_eq_false g12_2; omega)
      | (rw [hyt] at hy'; cases hy'
         simpa using g12_13)
  have htk : (cods qs).take (j + 1) = (cods qs).take j ++ [tz] := by rw [List.take_add_one, hzt]; rfl
  refine .skip ?_
  refine seqQ_n ?_
  refine .region ?_
  refine .q .move ?_
  refine .q (.loadA rfl) ?_
  refine TriOps.callM (gput_spec g _ _ T hG wz tz _ cz fz (by simp [gkv]; omega)) (fun u T2 hu => ?_)
  obtain ⟨rfl, hG2⟩ := hu
  have hset : kset tz.text tz (gkv ((cods qs).take j)) = gkv ((cods qs).take (j + 1)) := by
    rw [htk]
    unfold kset
    rw [kdel_none]
    · simp [gkv]
    · intro hm
      rw [htk, List.pairwise_append] at hokd'
      obtain ⟨p, hp, hpe⟩ := List.mem_map.1 hm
      obtain ⟨t, ht, rfl⟩ := List.mem_map.1 hp
      have := hokd'.2.2 t ht tz (by simp)
      simp only at hpe
      rw [hpe, sLt_irr] at this; cases this
  rw [hset] at hG2
  refine .nil ?_
  refine blkQ_n (seqQ_n ?_)
  refine .region ?_
  refine .q (.i64 ((j + 1 : Nat) : Int) .add ⟨by omega, by omega, by omega⟩) ?_
  refine .q .move ?_
  refine .nil ?_
  · exact loopQ_i (j + 1, T2) ⟨hlt, ⟨hj5, hokd'⟩, hG2⟩ (by simp only; omega) ((((((EnvLe.nil _).cons rfl).cons rfl).cons rfl).cons rfl).cons rfl) (HLe.pick [1] _)
  have hin2 : j = qs.length := by have := of_decide_eq_false h3; omega
  rw [hin2, ← hql, List.take_length] at hokd hG
  have hgood : rightG (cons_ ps) (cods qs) = true := by
    unfold rightG
    rw [decide_eq_true hRC, decide_eq_true (p := RightD (cods qs)) ⟨hokd, by omega⟩]; rfl
  refine .exit (seqQ_x (loopQ_x (blkQ_x ?_)))
  refine seqQ_n ?_
  refine .seq (.region ?_)
  refine .q .move ?_
  refine .q .assign ?_
  refine .q .assign ?_
  refine .nil (seqQ_n ?_)
  refine .ret (retQ_r _ (.two (.tmp rfl) (.tmp rfl)) (.one [0] _) ?_)
  · first
      | exact ⟨_, rfl, .inl ⟨hgood, g, rfl, by simpa [take] using hG⟩⟩
      | exact ⟨_, rfl, .inr ⟨hbad, rfl⟩⟩
end Go.Proofs.YtpmhgpjcladbkaaGreatDoor
