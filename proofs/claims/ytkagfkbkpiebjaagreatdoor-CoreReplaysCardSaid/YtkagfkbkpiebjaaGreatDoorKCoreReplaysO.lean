/- What the law 'CoreReplays' uses of this prover's engine, facts and walks. No condition. -/
import Derived.Test.YtkagfkbkpiebjaaGreatDoorKCoreReplaysB
import Derived.Test.YtkagfkbkpiebjaaGreatDoorKCoreReplaysH
import Derived.Test.YtkagfkbkpiebjaaGreatDoorKCoreReplaysL
import Derived.Test.YtkagfkbkpiebjaaGreatDoorKCoreReplaysN
set_option linter.unusedVariables false
set_option maxRecDepth 4000
namespace Go.Proofs.YtkagfkbkpiebjaaGreatDoor
abbrev Rise (l : List ByteArray) : Prop := l.Pairwise fun a b => sLt a b = true
theorem rise_ext : ∀ {l m : List ByteArray}, Rise l → Rise m → (∀ s, s ∈ l ↔ s ∈ m) → l = m
 | [], [], _, _, _ => rfl
 | [], y :: m, _, _, h => by have := (h y).2 (by simp); simp at this
 | x :: l, [], _, _, h => by have := (h x).1 (by simp); simp at this
 | x :: l, y :: m, hl, hm, h => by
  have hl' := List.pairwise_cons.1 hl
  have hm' := List.pairwise_cons.1 hm
  have hxy : x = y := by
   rcases List.mem_cons.1 ((h x).1 (by simp)) with h1 | h1
   ·exact h1
   ·rcases List.mem_cons.1 ((h y).2 (by simp)) with h2 | h2
    ·exact h2.symm
    ·have h3 := hm'.1 x h1
     have h4 := hl'.1 y h2
     have := sLt_trans h3 h4
     rw [sLt_irr] at this; cases this
  subst hxy
  congr 1
  refine rise_ext hl'.2 hm'.2 fun s => ?_
  have hs := h s
  simp only [List.mem_cons] at hs
  constructor
  ·intro h1
   rcases hs.1 (.inr h1) with h2 | h2
   ·have h3 := hl'.1 s h1
    rw [h2, sLt_irr] at h3; cases h3
   ·exact h2
  ·intro h1
   rcases hs.2 (.inr h1) with h2 | h2
   ·have h3 := hm'.1 s h1
    rw [h2, sLt_irr] at h3; cases h3
   ·exact h2
theorem ltc_scmp (a b : ByteArray) : ltc scmp a b = sLt a b := by
 unfold ltc
 rw [Bool.eq_iff_iff, sLt_iff, decide_eq_true_eq]
theorem gc_get {MC : List (Who × WS)} {C : List (Who × List ByteArray)} {Td : Seg} (hn : (MC.map (·.1)).Nodup) (hI : ∀ p ∈ MC, RS (sg0 Td) 1 encS p.2.1 p.2.2) (hC : (kmap (fun p : WS => p.2) MC).Perm C) (k : Who) :
  ∃ w l, ((mget k MC).map fun p : WS => p.1).getD (.slice none 0 0) = w ∧ RS (sg0 Td) 1 encS w l ∧ (mget k C).getD [] = l ∧ (mget k MC).isSome = (mget k C).isSome := by
 have hg : mget k C = (mget k MC).map (·.2) := by rw [← mget_perm hC (by rw [kmap_keys]; exact hn), kmap_get]
 cases hm : mget k MC with
 | none => rw [hm] at hg; rw [hg]; exact ⟨_, _, rfl, RS.nil', rfl, rfl⟩
 | some p =>
  rw [hm] at hg; rw [hg]
  exact ⟨p.1, p.2, rfl, hI _ (mget_some hm), rfl, rfl⟩
theorem sg0_inr {R : Rds} {H : Segs} {Td : Seg} (hm : Td ∈ H) : ∀ b o, sg0 Td b o → Rx R H b o := fun b o hb => .inr (List.mem_flatten.2 ⟨Td, hm, hb.1⟩)
theorem gconsent_spec (g : Nat) (C : List (Who × List ByteArray)) (A : List (ByteArray × Cod)) (T : Seg) (h : GI g C A T) (user client : ByteArray) (vs : Value) (scopes : List ByteArray) (R : Rds) (hs : RS R 1 encS vs scopes) (hsl : scopes.length ≤ 100000) (hb : ∀ p ∈ C, p.2.length ≤ 1000000) :
  Spec Tryz.prog 88 [.pointer (some ⟨g, 0, none⟩), .string user, .string client, vs] R [T] fun u H' => ∃ T', H' = [T'] ∧ u = .tuple #[] ∧ ∃ l, Rise l ∧ (∀ s, s ∈ l ↔ s ∈ (mget (user, client) C).getD [] ∨ s ∈ scopes) ∧ l.length ≤ ((mget (user, client) C).getD []).length + scopes.length ∧ GI g (if l = [] then C else kset (user, client) l C) A T' := by
 have hnd := h.ndC
 have h0 := h
 obtain ⟨Td, _, rfl, vc, MC, vm, M, q, Tc, Tm, Tq, rfl, ⟨hMC, hIC, hC⟩, hM, hI, hA, hQ⟩ := h
 obtain ⟨bm, rfl⟩ : ∃ b, vm = .map (some b) := by obtain ⟨b, es, clock, h1, _⟩ := hM; exact ⟨b, h1⟩
 have ic : One vc := ⟨by obtain ⟨b, es, clock, h1, _⟩ := hMC; subst h1; rfl⟩
 have is := hs.oneCell
 obtain ⟨w0, l0, hw0, hr0, hl0, _⟩ := gc_get hMC.nd hIC hC (user, client)
 have i0 := hr0.oneCell
 have hl0l : l0.length ≤ 1000000 := by
  rw [← hl0]
  cases hm : mget (user, client) C with
  | none => simp
  | some x => exact hb _ (mget_some hm)
 rw [hl0]
 refine Spec.segs (H' := [[(g, .cells [vc, .map (some bm), .pointer (some ⟨q, 0, none⟩)].toArray 110 (0, 0))], Tc, Tm, Tq, Td]) (by simp) ?_
 refine Spec.body Tryz.func88 rfl Tryz.results88 Tryz.ntmps88 rfl ?_
 refine .seq<|.sr<|.mo rfl ?_
 refine .callR (gok_spec g bm _ _ _) (fun v hv => ?_)
 subst hv
 refine .q .not<|.zn<|.condF<|.kn<|.sr<|.mo rfl<|.nc rfl<|.fa rfl<|.lo rfl<|.mo rfl<|.mo rfl ?_
 refine .q .bld ?_
 refine .q (.lookupE (v := w0) hMC.rx rfl (show _ = some (Value.agg (encWho (user, client)).toArray) from rfl) hw0) ?_
 refine .callN (sclone_spec w0 l0 _ (hr0.mono (sg0_inr (by simp))) hl0l) (fun v1 T1 hO1 => ?_)
 have i1 := hO1.oneCell
 refine .mo rfl ?_
 refine .append hO1 hs.rx (by omega) (fun v2 T2 hO2 => ?_)
 have i2 := hO2.oneCell
 refine .ag rfl<|.z<|.mo rfl ?_
 refine .callM (SST.sort_spec (c := scmp) (ok := fun _ => True) v2 (l0 ++ scopes) T2 _ hO2 (by simp; omega) rfl (fun _ _ => trivial) scmp_ok.so) (fun u T3 hu => ?_)
 obtain ⟨rfl, ys, hO3, hpy, hsy⟩ := hu
 have hyl := hpy.length_eq
 rw [List.length_append] at hyl
 have hris := cpt_rise ys (hsy.ordered.imp fun {a b} hab => by rw [ltc_scmp] at hab; exact hab)
 have hcl := cpt_len ys
 have hmem : ∀ s, s ∈ cpt ys ↔ s ∈ l0 ∨ s ∈ scopes := fun s => by rw [cpt_mem, hpy.mem_iff, List.mem_append]
 refine .z<|.mo rfl ?_
 refine .callM (compact_spec v2 ys T3 _ hO3 (by omega)) (fun u T4 hO4 => ?_)
 have i4 := hO4.oneCell
 refine .ag rfl<|.z<|.mo rfl<|.q (.lenO hO4) ?_
 refine .q .gtr<|.zn ?_
 refine .cond rfl (fun h2 => ?_) (fun h2 => ?_)
 have hne : cpt ys ≠ [] := fun e => by rw [e] at h2; simp at h2
 refine .region<|.mo rfl<|.nc rfl<|.fa rfl<|.lo rfl<|.mo rfl<|.mo rfl ?_
 refine .q .bld ?_
 refine .mo rfl ?_
 refine .update (u := ((u, cpt ys) : WS)) hMC rfl (show _ = some (Value.agg (encWho (user, client)).toArray) from rfl) rfl (fun Tc2 hM2 _ => ?_)
 refine .nil<|retQ_n _ .none (.one [1, 1, 1, 1, 1, 0] _) ?_
 ·refine ⟨((g, .cells [vc, .map (some bm), .pointer (some ⟨q, 0, none⟩)].toArray 110 (0, 0)) :: (Tc2 ++ (Tm ++ Tq))) ++ (Td ++ T4), by simp [take, dropAt], rfl, cpt ys, hris, hmem, by omega, ?_⟩
  rw [if_neg hne]
  refine ⟨Td ++ T4, _, rfl, _, _, _, M, q, Tc2, Tm, Tq, rfl, ⟨hM2, fun p hp => ?_, ?_⟩, hM, fun p hp => ?_, hA, hQ⟩
  ·rcases mset_mem hMC.nd hp with hp | rfl
   ·exact (hIC p hp).mono fun b o hb => sg0_left hb
   ·exact hO4.sg0.mono fun b o hb => sg0_right hb
  ·exact (kmap_perm (mset_perm hMC.nd)).trans (by rw [kmap_set]; exact kset_perm hC)
  ·obtain ⟨q1, q2, q3⟩ := hI p hp
   exact ⟨q1, q2.mono fun b o hb => sg0_left hb, q3⟩
 have hno : cpt ys = [] := by
  rcases Nat.eq_zero_or_pos (cpt ys).length with h9 | h9
  ·exact List.length_eq_zero_iff.1 h9
  ·exfalso
   have := of_decide_eq_false h2
   omega
 refine .skip<|retQ_n _ .none (.one [1, 1, 1, 1, 1] _) ?_
 ·refine ⟨((g, .cells [vc, .map (some bm), .pointer (some ⟨q, 0, none⟩)].toArray 110 (0, 0)) :: (Tc ++ (Tm ++ Tq))) ++ Td, by simp [take, dropAt], rfl, cpt ys, hris, hmem, by omega, ?_⟩
  rw [if_pos hno]
  exact h0
theorem gscopes_spec (g : Nat) (C : List (Who × List ByteArray)) (A : List (ByteArray × Cod)) (T : Seg) (h : GI g C A T) (user client : ByteArray) (R : Rds) (hr : ∀ p ∈ T, R p.1 p.2) (hb : ∀ p ∈ C, p.2.length ≤ 1000000) :
  Spec Tryz.prog 18 [.pointer (some ⟨g, 0, none⟩), .string user, .string client] R [] fun u H' => ∃ T', H' = [T'] ∧ OS 9 1 encS u ((mget (user, client) C).getD []) T' := by
 obtain ⟨Td, _, rfl, vc, MC, vm, M, q, Tc, Tm, Tq, rfl, ⟨hMC, hIC, hC⟩, hM, hI, hA, hQ⟩ := h
 obtain ⟨bm, rfl⟩ : ∃ b, vm = .map (some b) := by obtain ⟨b, es, clock, h1, _⟩ := hM; exact ⟨b, h1⟩
 have ic : One vc := ⟨by obtain ⟨b, es, clock, h1, _⟩ := hMC; subst h1; rfl⟩
 have pq : PC R (.pointer (some ⟨g, 0, none⟩)) [vc, .map (some bm), .pointer (some ⟨q, 0, none⟩)] := PC.of (E := 110) (fr := (0, 0)) (hr (g, .cells [vc, .map (some bm), .pointer (some ⟨q, 0, none⟩)].toArray 110 (0, 0)) (by simp))
 have rm : ∀ H', RM (Rx R H') (fun k : Who => .agg (encWho k).toArray) (fun p : WS => p.1) vc MC := fun H' => hMC.rm fun p hp => .inl (hr p (by simp [hp]))
 have hT : ∀ b o, sg0 Td b o → R b o := fun b o hb => hr (b, o) (by have : (b, o) ∈ Td := hb.1; simp [this])
 obtain ⟨w0, l0, hw0, hr0, hl0, _⟩ := gc_get hMC.nd hIC hC (user, client)
 have i0 := hr0.oneCell
 have hl0l : l0.length ≤ 1000000 := by
  rw [← hl0]
  cases hm : mget (user, client) C with
  | none => simp
  | some x => exact hb _ (mget_some hm)
 rw [hl0]
 refine Spec.body Tryz.func18 rfl Tryz.results18 Tryz.ntmps18 rfl ?_
 refine .sr<|.ag rfl<|.zs<|.sr<|.mo rfl ?_
 refine .callR (gok_spec g bm _ _ _) (fun v hv => ?_)
 subst hv
 refine .q .not<|.zn<|.condF<|.kn<|.sr<|.mo rfl<|.nc rfl<|.fa rfl<|.lo rfl<|.mo rfl<|.mo rfl ?_
 refine .q .bld ?_
 refine .q (.lookupE (v := w0) (rm _) rfl (show _ = some (Value.agg (encWho (user, client)).toArray) from rfl) hw0) ?_
 refine .callN (sclone_spec w0 l0 _ (hr0.mono fun b o hb => .inl (hT b o hb)) hl0l) (fun v1 T1 hO1 => ?_)
 have i1 := hO1.oneCell
 refine .ag rfl<|.zn ?_
 refine .ret (retQ_r _ (.one (.tmp rfl)) (.one [0] _) ?_)
 ·exact ⟨T1, by simp [take], hO1⟩
def fcod (M : List (ByteArray × GP)) (k : ByteArray) : Cod := ((mget k M).map (·.2)).getD Cod.zero
theorem fcod_all {M : List (ByteArray × GP)} (hn : (M.map (·.1)).Nodup) : (M.map (·.1)).map (fcod M) = M.map (·.2.2) := by
 rw [List.map_map]
 refine List.map_congr_left fun p hp => ?_
 have : mget p.1 M = some p.2 := mget_of_mem hn (by exact hp)
 simp [fcod, this]
abbrev cods (ps : List GP) : List Cod := ps.map (·.2)
def gkv (L : List Cod) : List (ByteArray × Cod) := L.map fun t => (t.text, t)
theorem gkv_snd {A : List (ByteArray × Cod)} (h : ∀ p ∈ A, p.1 = p.2.text) : gkv (A.map (·.2)) = A := by
 unfold gkv
 rw [List.map_map]
 conv => rhs; rw [← List.map_id A]
 exact List.map_congr_left fun p hp => by rw [Function.comp, ← h p hp]; rfl
theorem gcodes_spec (g : Nat) (C : List (Who × List ByteArray)) (A : List (ByteArray × Cod)) (T : Seg) (h : GI g C A T) (hl : A.length ≤ 1000000) (R : Rds) (hr : ∀ p ∈ T, R p.1 p.2) :
  Spec Tryz.prog 14 [.pointer (some ⟨g, 0, none⟩)] R [] fun v H' => ∃ T', H' = [T'] ∧ ∃ ps To Ti, T' = To ++ Ti ∧ OS 53 9 encG v ps To ∧ (∀ p ∈ ps, CodR (sg0 Ti) p) ∧ (gkv (cods ps)).Perm A ∧ ps.Pairwise (fun p q => sLt q.2.text p.2.text = false) := by
 have hkeys := h.keys
 obtain ⟨Td, _, rfl, vc, MC, vm, M, q, Tc, Tm, Tq, rfl, ⟨hMC, hIC, hC⟩, hM, hI, hA, hQ⟩ := h
 obtain ⟨bm, rfl⟩ : ∃ b, vm = .map (some b) := by obtain ⟨b, es, clock, h1, _⟩ := hM; exact ⟨b, h1⟩
 have ic : One vc := ⟨by obtain ⟨b, es, clock, h1, _⟩ := hMC; subst h1; rfl⟩
 have pq : PC R (.pointer (some ⟨g, 0, none⟩)) [vc, .map (some bm), .pointer (some ⟨q, 0, none⟩)] := PC.of (E := 110) (fr := (0, 0)) (hr (g, .cells [vc, .map (some bm), .pointer (some ⟨q, 0, none⟩)].toArray 110 (0, 0)) (by simp))
 have rm : RM R (fun s : ByteArray => .string s) (fun p : GP => .agg (encG p).toArray) (.map (some bm)) M := hM.rm fun p hp => hr p (by simp [hp])
 have hT : ∀ b o, sg0 Td b o → R b o := fun b o hb => hr (b, o) (by have : (b, o) ∈ Td := hb.1; simp [this])
 have hAs : (M.map (·.2.2)).Perm (A.map (·.2)) := by
  have := hA.map (·.2)
  unfold kmap at this
  rw [List.map_map] at this
  exact this
 have hMl : M.length = A.length := by simpa using hAs.length_eq
 refine Spec.segs (H' := [[], []]) (by simp) ?_
 refine Spec.body Tryz.func14 rfl Tryz.results14 Tryz.ntmps14 rfl ?_
 refine .sr<|.ag rfl<|.zs<|.sr<|.mo rfl ?_
 refine .callR (gok_spec g bm _ _ _) (fun v hv => ?_)
 subst hv
 refine .q .not<|.zn<|.condF<|.kn<|.sr<|.ag rfl<|.zs<|.sr<|.mo rfl<|.nc rfl<|.fa rfl<|.lo rfl ?_
 refine .range rm (fun _ _ => .inl) rfl (fun it Ti0 hit0 => ?_)
 refine .zn<|.block ?_
 refine .loop (X := List GP × List ByteArray × Value × Seg × Seg × Seg) (fun y => (∀ p ∈ y.1, CodR (sg0 y.2.2.2.2.1) p) ∧ y.2.1.Nodup ∧ (cods y.1 ++ y.2.1.map (fcod M)).Perm (A.map (·.2)) ∧ OS 53 9 encG y.2.2.1 y.1 y.2.2.2.1 ∧ It R (fun s : ByteArray => .string s) (fun p : GP => .agg (encG p).toArray) (.map (some bm)) M it y.2.1 y.2.2.2.2.2) (fun y => [(0, .pointer (some ⟨g, 0, none⟩)), (3, y.2.2.1), (13, it)]) (fun y => [y.2.2.2.2.2, y.2.2.2.1, y.2.2.2.2.1]) (fun y => y.2.1.length) ([], M.map (·.1), .slice none 0 0, [], [], Ti0) ⟨by simp, hM.nd, by rw [fcod_all hM.nd]; exact hAs, OS.nil, hit0⟩ (EnvLe.k3 rfl rfl rfl) (HLe.refl _) ?_
 rintro ⟨ps, todo, vo, To, Td2, Ti⟩ ⟨hps, hnd, hpm, hO, hit⟩
 simp only at hps hnd hpm hO hit ⊢
 have i2 := hO.oneCell
 have hlen := hpm.length_eq
 simp only [List.length_append, List.length_map] at hlen
 refine .sr ?_
 refine .nextB hit (fun _ _ => .inl) rfl (fun b rest Ti2 hf ht => ?_)
 refine .q .extract<|.zs ?_
 refine .cond rfl (fun h2 => ?_) (fun h2 => ?_)
 obtain ⟨k, ⟨w0, t0⟩, hk, hku, hitc⟩ := ht h2
 obtain ⟨_, hc0, hf0⟩ := hI (k, (w0, t0)) (mget_some hku)
 have i3 : Ones (encG (w0, t0)) := ⟨hc0.ones⟩
 have hfk : fcod M k = t0 := by simp [fcod, hku]
 have hft := filter_one hnd hk
 refine .kn<|.block<|.sr ?_
 refine .q (.entry hitc (fun _ _ => .inl) rfl) ?_
 refine .q .extract ?_
 refine .allocA (fun b5 => ?_)
 refine .storeA rfl rfl<|.zn<|.region<|.mo rfl<|.q (.loadA rfl) ?_
 refine .callN (gcopied_spec w0 t0 _ (hc0.mono fun b o hb => .inl (hT b o hb)) hf0) (fun v T1 hv => ?_)
 obtain ⟨w1, rfl, hc1⟩ := hv
 have i4 : Ones (encG (w1, t0)) := ⟨hc1.ones⟩
 refine .buildSlice1A (fun b21 => ?_)
 refine .append hO (RS.lits (xs := [((w1, t0) : GP)]) rfl (by simp [encG]) (by have := hc1.ones; simpa using this)) (by simp; omega) (fun v5 T5 hO5 => ?_)
 refine .ag rfl<|.nil<|blkQ_n ?_
 ·refine loopQ_i (ps ++ [(w1, t0)], todo.filter fun k' => decide (k' ≠ k), v5, T5, T1 ++ Td2, Ti2) ⟨fun p hp => ?_, hnd.sublist List.filter_sublist, ?_, hO5, hitc.it⟩ ?_ (EnvLe.k3 rfl rfl rfl) ((HLe.pick [3, 3, 1, 2] _).trans (HLe.ofPerm (by simp [take, dropAt])))
  ·simp only
   rcases List.mem_append.1 hp with hp | hp
   ·exact (hps p hp).mono fun b o hb => sg0_right hb
   ·simp only [List.mem_singleton] at hp; subst hp
    exact hc1.mono fun b o hb => sg0_left hb
  ·simp only
   refine List.Perm.trans ?_ hpm
   rw [cods, List.map_append, List.append_assoc]
   refine List.Perm.append_left _ ?_
   have := (hft.map (fcod M)).symm
   rw [List.map_cons, hfk] at this
   exact this
  ·have := hft.length_eq
   simp only [List.length_cons] at this
   simp only; omega
 have ht0 := hf h2
 subst ht0
 simp only [List.map_nil, List.append_nil] at hpm
 have hfc : FnC Tryz.prog 53 [] R (fun p : GP => Value.agg (encG p).toArray) gcmp GPok := fun x y hx hy R2 _ => gcmp_spec x y R2 hx hy
 refine .exit<|seqQ_x<|loopQ_x<|blkQ_x<|seqQ_n<|.sr<|.mo rfl ?_
 refine .callM (SGC.sort_spec (caps := []) vo ps To _ hO (by simp at hlen; omega) hfc (fun p hp => (hps p hp).ones) gcmp_so) (fun u T3 hu => ?_)
 obtain ⟨rfl, ys, hO3, hpy, hsy⟩ := hu
 have i5 := hO3.oneCell
 refine .z<|.mo rfl<|.ag rfl<|.zn ?_
 refine .ret (retQ_r _ (.one (.tmp rfl)) ((HLe.pick [1, 1] _).trans (HLe.ofPerm (H' := [T3 ++ Td2]) (by simp [take, dropAt]))) ?_)
 ·refine ⟨_, rfl, ys, T3, Td2, rfl, hO3, fun p hp => hps p (hpy.mem_iff.1 hp), ?_, hsy.ordered.imp fun {a b} hab => by rw [ltc_gcmp] at hab; exact hab⟩
  have h7 := ((hpy.map (·.2)).trans hpm).map fun t : Cod => (t.text, t)
  have h8 := gkv_snd hkeys
  unfold gkv at h8
  rw [h8] at h7
  exact h7
end Go.Proofs.YtkagfkbkpiebjaaGreatDoor
