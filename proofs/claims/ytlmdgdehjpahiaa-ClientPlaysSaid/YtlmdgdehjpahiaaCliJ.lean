/- Clients: a registry's list, in order. No condition. -/
import Derived.Test.YtlmdgdehjpahiaaSCL
set_option linter.unusedVariables false
set_option maxRecDepth 4000
namespace Go.Proofs.Ytlmdgdehjpahiaa
def fcli (M : List (ByteArray × CP)) (k : ByteArray) : Cli := ((mget k M).map (·.2)).getD Cli.zero
theorem fcli_all {M : List (ByteArray × CP)} (hn : (M.map (·.1)).Nodup) : (M.map (·.1)).map (fcli M) = M.map (·.2.2) := by
  rw [List.map_map]
  refine List.map_congr_left fun p hp => ?_
  have : mget p.1 M = some p.2 := mget_of_mem hn (by exact hp)
  simp [fcli, this]
theorem filter_one {k : ByteArray} : ∀ {l : List ByteArray}, l.Nodup → k ∈ l → l.Perm (k :: l.filter fun k' => decide (k' ≠ k))
  | [], _, h => by cases h
  | x :: l, hn, h => by
    have hn' := List.nodup_cons.1 hn
    by_cases hx : x = k
    · subst hx
      have : l.filter (fun k' => decide (k' ≠ x)) = l := List.filter_eq_self.2 fun y hy => by
        have : y ≠ x := fun e => hn'.1 (e ▸ hy)
        simp [this]
      rw [List.filter_cons]
      simp only [ne_eq, not_true_eq_false, decide_false, Bool.false_eq_true, if_false]
      have h2 : l.filter (fun k' => !decide (k' = x)) = l := by simpa using this
      simp only [decide_not, h2]
      exact .refl _
    · have hk : k ∈ l := by
        rcases List.mem_cons.1 h with e | h
        · exact absurd e.symm hx
        · exact h
      have := (filter_one hn'.2 hk).cons x
      rw [List.filter_cons, if_pos (by simp [hx])]
      exact this.trans (List.Perm.swap k x _)
theorem clist_spec (g : Nat) (A : List Cli) (T : Seg) (h : RI g A T) (hl : A.length ≤ 1000000) (R : Rds) (hr : ∀ p ∈ T, R p.1 p.2) :
    Spec Try.prog 46 [.pointer (some ⟨g, 0, none⟩)] R [] fun v H' => ∃ T', H' = [T'] ∧ ∃ ps To Ti, T' = To ++ Ti ∧ OS 35 4 encC v ps To ∧ (∀ p ∈ ps, CliR (sg Ti) p.1 p.2) ∧ (ps.map (·.2)).Perm A ∧ ps.Pairwise (fun p q => ltc ccmp q p = false) := by
  obtain ⟨vm, M, Tm, Tj, rfl, hM, hI, hA⟩ := h
  obtain ⟨bm, rfl⟩ : ∃ b, vm = .map (some b) := by obtain ⟨b, es, clock, h1, _⟩ := hM; exact ⟨b, h1⟩
  have pq : PC R (.pointer (some ⟨g, 0, none⟩)) [.map (some bm)] := PC.of (E := 107) (fr := (0, 0)) (hr (g, .cells [.map (some bm)].toArray 107 (0, 0)) (by simp))
  have rm : RM R (fun s : ByteArray => .string s) (fun p : CR × Cli => .agg p.1.cells.toArray) (.map (some bm)) M := hM.rm fun p hp => hr p (by simp [hp])
  have hT : ∀ b o, sg Tj b o → R b o := fun b o hb => hr (b, o) (by have : (b, o) ∈ Tj := hb; simp [this])
  have hMl : M.length = A.length := by simpa using hA.length_eq
  refine Spec.segs (H' := [[], []]) (by simp) ?_
  refine Spec.body Try.func46 rfl Try.results46 Try.ntmps46 rfl ?_
  refine .seq ?_
  refine .region ?_
  refine TriOps.q .assign ?_
  refine .nil ?_
  refine seqQ_n ?_
  refine .seq ?_
  refine .seq ?_
  refine .region ?_
  refine TriOps.q .move ?_
  refine TriOps.callR (cok_spec g bm _) (fun v hv => ?_)
  subst hv
  refine TriOps.q .not ?_
  refine .nil ?_
  refine seqQ_n ?_
  refine .condF ?_
  refine .skip ?_
  refine seqQ_n ?_
  refine .seq ?_
  refine .region ?_
  refine TriOps.q .assign ?_
  refine .nil ?_
  refine seqQ_n ?_
  refine .seq ?_
  refine .seq ?_
  refine .region ?_
  refine TriOps.q .move ?_
  refine TriOps.q (.nilCheck rfl) ?_
  refine TriOps.q (.fieldAddr rfl) ?_
  refine TriOps.q (.load1 rfl) ?_
  refine TriOps.range rm (fun _ _ => .inl) rfl (fun it Ti0 hit0 => ?_)
  refine .nil ?_
  refine seqQ_n ?_
  refine .block ?_
  refine .loop (X := List CP × List ByteArray × Value × Seg × Seg × Seg) (fun y => (∀ p ∈ y.1, CliR (sg y.2.2.2.2.1) p.1 p.2) ∧ y.2.1.Nodup ∧ (y.1.map (·.2) ++ y.2.1.map (fcli M)).Perm A ∧ OS 35 4 encC y.2.2.1 y.1 y.2.2.2.1 ∧ It R (fun s : ByteArray => .string s) (fun p : CR × Cli => .agg p.1.cells.toArray) (.map (some bm)) M it y.2.1 y.2.2.2.2.2) (fun y => [(0, .pointer (some ⟨g, 0, none⟩)), (3, y.2.2.1), (13, it)]) (fun y => [y.2.2.2.2.2, y.2.2.2.1, y.2.2.2.2.1]) (fun y => y.2.1.length) ([], M.map (·.1), .slice none 0 0, [], [], Ti0) ⟨by simp, hM.nd, by rw [fcli_all hM.nd]; exact hA, OS.nil, hit0⟩ ((((EnvLe.nil _).cons rfl).cons rfl).cons rfl) (HLe.refl _) ?_
  rintro ⟨ps, todo, vo, To, Td, Ti⟩ ⟨hps, hnd, hpm, hO, hit⟩
  simp only at hps hnd hpm hO hit ⊢
  have i2 := hO.oneCell
  have hlen := hpm.length_eq
  simp only [List.length_append, List.length_map] at hlen
  refine .seq ?_
  refine .region ?_
  refine TriOps.nextB hit (fun _ _ => .inl) rfl (fun b rest Ti2 hf ht => ?_)
  refine TriOps.q .extract ?_
  refine .nil ?_
  refine seqQ_n ?_
  refine .seq ?_
  refine .cond rfl (fun h2 => ?_) (fun h2 => ?_)
  · skip
    obtain ⟨k, ⟨r0, c0⟩, hk, hku, hitc⟩ := ht h2
    obtain ⟨_, hc0, hf0⟩ := hI (k, (r0, c0)) (mget_some hku)
    have i3 : Ones r0.cells := ⟨hc0.ones⟩
    have hfk : fcli M k = c0 := by simp [fcli, hku]
    have hft := filter_one hnd hk
    refine .skip ?_
    refine seqQ_n ?_
    refine .block ?_
    refine .seq ?_
    refine .region ?_
    refine TriOps.q (.entry hitc (fun _ _ => .inl) rfl) ?_
    refine TriOps.q .extract ?_
    refine TriOps.allocA (fun b5 => ?_)
    refine TriOps.storeA rfl rfl ?_
    refine .nil ?_
    refine seqQ_n ?_
    refine .region ?_
    refine TriOps.q .move ?_
    refine TriOps.q (.loadA rfl) ?_
    refine TriOps.callN (copied_spec r0 c0 _ (hc0.mono fun b o hb => .inl (hT b o hb)) hf0) (fun v T1 hv => ?_)
    obtain ⟨r1, rfl, hc1⟩ := hv
    have i4 : Ones r1.cells := ⟨hc1.ones⟩
    refine TriOps.buildSlice1A (fun b21 => ?_)
    refine TriOps.append hO (RS.lits (xs := [(r1, c0)]) rfl (by simp [encC, CR.cells]) (by have := hc1.ones; simpa [encC] using this)) (by simp; omega) (fun v5 T5 hO5 => ?_)
    refine TriOps.q .assign ?_
    refine .nil ?_
    refine blkQ_n ?_
    refine loopQ_i (ps ++ [(r1, c0)], todo.filter fun k' => decide (k' ≠ k), v5, T5, T1 ++ Td, Ti2) ⟨fun p hp => ?_, hnd.sublist List.filter_sublist, ?_, hO5, hitc.it⟩ ?_ ((((EnvLe.nil _).cons rfl).cons rfl).cons rfl) ((HLe.pick [3, 3, 1, 2] _).trans (HLe.ofPerm (by simp [take, dropAt])))
    · simp only
      rcases List.mem_append.1 hp with hp | hp
      · exact (hps p hp).mono fun b o hb => sg_right hb
      · simp only [List.mem_singleton] at hp; subst hp
        exact hc1.mono fun b o hb => sg_left hb
    · simp only
      refine List.Perm.trans ?_ hpm
      rw [List.map_append, List.append_assoc]
      refine List.Perm.append_left _ ?_
      have := (hft.map (fcli M)).symm
      rw [List.map_cons, hfk] at this
      exact this
    · have := hft.length_eq
      simp only [List.length_cons] at this
      simp only; omega
  · skip
    have ht0 := hf h2
    subst ht0
    simp only [List.map_nil, List.append_nil] at hpm
    have hfc : FnC Try.prog 92 [] R (fun p : CP => Value.agg (encC p).toArray) ccmp CPok := fun x y hx hy R2 _ => ccmp_spec x y R2 hx hy
    refine .exit (seqQ_x (loopQ_x (blkQ_x ?_)))
    refine seqQ_n ?_
    refine .seq ?_
    refine .region ?_
    refine TriOps.q .move ?_
    refine TriOps.callM (SCL.sort_spec (caps := []) vo ps To _ hO (by simp at hlen; omega) hfc (fun p hp => (hps p hp).ones) ccmp_so) (fun u T3 hu => ?_)
    obtain ⟨rfl, ys, hO3, hpy, hsy⟩ := hu
    have i5 := hO3.oneCell
    refine .nil ?_
    refine seqQ_n ?_
    refine .seq ?_
    refine .region ?_
    refine TriOps.q .move ?_
    refine TriOps.q .assign ?_
    refine .nil ?_
    refine seqQ_n ?_
    refine .ret (retQ_r _ (.one (.tmp rfl)) ((HLe.pick [1, 1] _).trans (HLe.ofPerm (H' := [T3 ++ Td]) (by simp [take, dropAt]))) ?_)
    exact ⟨_, rfl, ys, T3, Td, rfl, hO3, fun p hp => hps p (hpy.mem_iff.1 hp), (hpy.map _).trans hpm, hsy.ordered⟩
end Go.Proofs.Ytlmdgdehjpahiaa
