/- Tokens: List. No condition. -/
import Derived.Test.YtkepgbimlolemaaSTK
set_option linter.unusedVariables false
set_option maxRecDepth 4000
namespace Go.Proofs.Ytkepgbimlolemaa
def ftok (M : List (ByteArray × TP)) (k : ByteArray) : Tok := ((mget k M).map (·.2)).getD Tok.zero
theorem ftok_all {M : List (ByteArray × TP)} (hn : (M.map (·.1)).Nodup) : (M.map (·.1)).map (ftok M) = M.map (·.2.2) := by
  rw [List.map_map]
  refine List.map_congr_left fun p hp => ?_
  have : mget p.1 M = some p.2 := mget_of_mem hn (by exact hp)
  simp [ftok, this]
abbrev toks (ps : List TP) : List Tok := ps.map (·.2)
def kv (L : List Tok) : List (ByteArray × Tok) := L.map fun t => (t.text, t)
theorem kv_snd {A : List (ByteArray × Tok)} (h : ∀ p ∈ A, p.1 = p.2.text) : kv (A.map (·.2)) = A := by
  unfold kv
  rw [List.map_map]
  conv => rhs; rw [← List.map_id A]
  exact List.map_congr_left fun p hp => by rw [Function.comp, ← h p hp]; rfl
theorem vlist_spec (g : Nat) (A : List (ByteArray × Tok)) (last : Int) (T : Seg) (h : VI g A last T) (hl : A.length ≤ 1000000) (R : Rds) (hr : ∀ p ∈ T, R p.1 p.2) :
    Spec Try.prog 14 [.pointer (some ⟨g, 0, none⟩)] R [] fun v H' => ∃ T', H' = [T'] ∧ ∃ ps To Ti, T' = To ++ Ti ∧ OS 34 9 encT v ps To ∧ (∀ p ∈ ps, TokR (sg0 Ti) p) ∧ (kv (toks ps)).Perm A ∧ ps.Pairwise (fun p q => sLt q.2.text p.2.text = false) := by
  have hkeys := h.keys
  obtain ⟨Td, _, rfl, vm, M, q, Tm, Tq, rfl, hM, hI, hA, hQ⟩ := h
  obtain ⟨bm, rfl⟩ : ∃ b, vm = .map (some b) := by obtain ⟨b, es, clock, h1, _⟩ := hM; exact ⟨b, h1⟩
  have pq : PC R (.pointer (some ⟨g, 0, none⟩)) [.map (some bm), .pointer (some ⟨q, 0, none⟩), .int .i64 last] := PC.of (E := 65) (fr := (0, 0)) (hr (g, .cells [.map (some bm), .pointer (some ⟨q, 0, none⟩), .int .i64 last].toArray 65 (0, 0)) (by simp))
  have rm : RM R (fun s : ByteArray => .string s) (fun p : TP => .agg (encT p).toArray) (.map (some bm)) M := hM.rm fun p hp => hr p (by simp [hp])
  have hT : ∀ b o, sg0 Td b o → R b o := fun b o hb => hr (b, o) (by have : (b, o) ∈ Td := hb.1; simp [this])
  have hAs : (M.map (·.2.2)).Perm (A.map (·.2)) := by
    have := hA.map (·.2)
    unfold kmap at this
    rw [List.map_map] at this
    exact this
  have hMl : M.length = A.length := by simpa using hAs.length_eq
  refine Spec.segs (H' := [[], []]) (by simp) ?_
  refine Spec.body Try.func14 rfl Try.results14 Try.ntmps14 rfl ?_
  refine .seq ?_
  refine .region ?_
  refine TriOps.q .assign ?_
  refine .nil ?_
  refine seqQ_n ?_
  refine .seq ?_
  refine .seq ?_
  refine .region ?_
  refine TriOps.q .move ?_
  refine TriOps.callR (vok_spec g bm _ _ _) (fun v hv => ?_)
  subst hv
  refine TriOps.q .not ?_
  refine .nil ?_
  refine seqQ_n ?_
  refine .condF ?_
  refine .skip ?_
  refine seqQ_n ?_
  refine .seq ?_
  refine .region ?_
  refine TriOps.q .assign ?_
  refine .nil ?_
  refine seqQ_n ?_
  refine .seq ?_
  refine .seq ?_
  refine .region ?_
  refine TriOps.q .move ?_
  refine TriOps.q (.nilCheck rfl) ?_
  refine TriOps.q (.fieldAddr rfl) ?_
  refine TriOps.q (.load1 rfl) ?_
  refine TriOps.range rm (fun _ _ => .inl) rfl (fun it Ti0 hit0 => ?_)
  refine .nil ?_
  refine seqQ_n ?_
  refine .block ?_
  refine .loop (X := List TP × List ByteArray × Value × Seg × Seg × Seg) (fun y => (∀ p ∈ y.1, TokR (sg0 y.2.2.2.2.1) p) ∧ y.2.1.Nodup ∧ (toks y.1 ++ y.2.1.map (ftok M)).Perm (A.map (·.2)) ∧ OS 34 9 encT y.2.2.1 y.1 y.2.2.2.1 ∧ It R (fun s : ByteArray => .string s) (fun p : TP => .agg (encT p).toArray) (.map (some bm)) M it y.2.1 y.2.2.2.2.2) (fun y => [(0, .pointer (some ⟨g, 0, none⟩)), (3, y.2.2.1), (13, it)]) (fun y => [y.2.2.2.2.2, y.2.2.2.1, y.2.2.2.2.1]) (fun y => y.2.1.length) ([], M.map (·.1), .slice none 0 0, [], [], Ti0) ⟨by simp, hM.nd, by rw [ftok_all hM.nd]; exact hAs, OS.nil, hit0⟩ ((((EnvLe.nil _).cons rfl).cons rfl).cons rfl) (HLe.refl _) ?_
  rintro ⟨ps, todo, vo, To, Td2, Ti⟩ ⟨hps, hnd, hpm, hO, hit⟩
  simp only at hps hnd hpm hO hit ⊢
  have i2 := hO.oneCell
  have hlen := hpm.length_eq
  simp only [List.length_append, List.length_map] at hlen
  refine .seq ?_
  refine .region ?_
  refine TriOps.nextB hit (fun _ _ => .inl) rfl (fun b rest Ti2 hf ht => ?_)
  refine TriOps.q .extract ?_
  refine .nil ?_
  refine seqQ_n ?_
  refine .seq ?_
  refine .cond rfl (fun h2 => ?_) (fun h2 => ?_)
  · skip
    obtain ⟨k, ⟨w0, t0⟩, hk, hku, hitc⟩ := ht h2
    obtain ⟨_, hc0, hf0⟩ := hI (k, (w0, t0)) (mget_some hku)
    have i3 : Ones (encT (w0, t0)) := ⟨hc0.ones⟩
    have hfk : ftok M k = t0 := by simp [ftok, hku]
    have hft := filter_one hnd hk
    refine .skip ?_
    refine seqQ_n ?_
    refine .block ?_
    refine .seq ?_
    refine .region ?_
    refine TriOps.q (.entry hitc (fun _ _ => .inl) rfl) ?_
    refine TriOps.q .extract ?_
    refine TriOps.allocA (fun b5 => ?_)
    refine TriOps.storeA rfl rfl ?_
    refine .nil ?_
    refine seqQ_n ?_
    refine .region ?_
    refine TriOps.q .move ?_
    refine TriOps.q (.loadA rfl) ?_
    refine TriOps.callN (tcopied_spec w0 t0 _ (hc0.mono fun b o hb => .inl (hT b o hb)) hf0) (fun v T1 hv => ?_)
    obtain ⟨w1, rfl, hc1⟩ := hv
    have i4 : Ones (encT (w1, t0)) := ⟨hc1.ones⟩
    refine TriOps.buildSlice1A (fun b21 => ?_)
    refine TriOps.append hO (RS.lits (xs := [((w1, t0) : TP)]) rfl (by simp [encT]) (by have := hc1.ones; simpa using this)) (by simp; omega) (fun v5 T5 hO5 => ?_)
    refine TriOps.q .assign ?_
    refine .nil ?_
    refine blkQ_n ?_
    refine loopQ_i (ps ++ [(w1, t0)], todo.filter fun k' => decide (k' ≠ k), v5, T5, T1 ++ Td2, Ti2) ⟨fun p hp => ?_, hnd.sublist List.filter_sublist, ?_, hO5, hitc.it⟩ ?_ ((((EnvLe.nil _).cons rfl).cons rfl).cons rfl) ((HLe.pick [3, 3, 1, 2] _).trans (HLe.ofPerm (by simp [take, dropAt])))
    · simp only
      rcases List.mem_append.1 hp with hp | hp
      · exact (hps p hp).mono fun b o hb => sg0_right hb
      · simp only [List.mem_singleton] at hp; subst hp
        exact hc1.mono fun b o hb => sg0_left hb
    · simp only
      refine List.Perm.trans ?_ hpm
      rw [toks, List.map_append, List.append_assoc]
      refine List.Perm.append_left _ ?_
      have := (hft.map (ftok M)).symm
      rw [List.map_cons, hfk] at this
      exact this
    · have := hft.length_eq
      simp only [List.length_cons] at this
      simp only; omega
  · skip
    have ht0 := hf h2
    subst ht0
    simp only [List.map_nil, List.append_nil] at hpm
    have hfc : FnC Try.prog 55 [] R (fun p : TP => Value.agg (encT p).toArray) tcmp TPok := fun x y hx hy R2 _ => tcmp_spec x y R2 hx hy
    refine .exit (seqQ_x (loopQ_x (blkQ_x ?_)))
    refine seqQ_n ?_
    refine .seq ?_
    refine .region ?_
    refine TriOps.q .move ?_
    refine TriOps.callM (STK.sort_spec (caps := []) vo ps To _ hO (by simp at hlen; omega) hfc (fun p hp => (hps p hp).ones) tcmp_so) (fun u T3 hu => ?_)
    obtain ⟨rfl, ys, hO3, hpy, hsy⟩ := hu
    have i5 := hO3.oneCell
    refine .nil ?_
    refine seqQ_n ?_
    refine .seq ?_
    refine .region ?_
    refine TriOps.q .move ?_
    refine TriOps.q .assign ?_
    refine .nil ?_
    refine seqQ_n ?_
    refine .ret (retQ_r _ (.one (.tmp rfl)) ((HLe.pick [1, 1] _).trans (HLe.ofPerm (H' := [T3 ++ Td2]) (by simp [take, dropAt]))) ?_)
    refine ⟨_, rfl, ys, T3, Td2, rfl, hO3, fun p hp => hps p (hpy.mem_iff.1 hp), ?_, hsy.ordered.imp fun {a b} hab => by rw [ltc_tcmp] at hab; exact hab⟩
    have h7 := ((hpy.map (·.2)).trans hpm).map fun t : Tok => (t.text, t)
    have h8 := kv_snd hkeys
    unfold kv at h8
    rw [h8] at h7
    exact h7
end Go.Proofs.Ytkepgbimlolemaa
