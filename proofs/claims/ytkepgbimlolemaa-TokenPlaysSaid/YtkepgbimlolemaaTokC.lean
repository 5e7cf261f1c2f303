/- Tokens: what is let go: remove, Cut. No condition. -/
import Derived.Test.YtkepgbimlolemaaTokB
import Derived.Test.YtkepgbimlolemaaMot6
set_option linter.unusedVariables false
set_option maxRecDepth 4000
namespace Go.Proofs.Ytkepgbimlolemaa
/-- A function that tells of tokens. -/
def FnT (f : FuncId) (caps : List Value) (R : Rds) (p : Tok → Bool) : Prop := ∀ (w : Value) (t : Tok), One w → ∀ R', (∀ b o, R b o → R' b o) → Spec Try.prog f (.agg (encT (w, t)).toArray :: caps) R' [] fun u H' => u = .bool (p t) ∧ H' = []
theorem encT_ones {w : Value} {t : Tok} (h : One w) : Ones (encT (w, t)) := ⟨by
  have h1 := h.h
  intro u hu
  simp only [encT, List.mem_cons, List.not_mem_nil, or_false] at hu
  rcases hu with rfl | rfl | rfl | rfl | rfl | rfl | rfl | rfl | rfl <;> first | rfl | assumption⟩
theorem kmap_filter {κ β γ : Type} {f : β → γ} {q : γ → Bool} {A : List (κ × β)} : (kmap f A).filter (fun x => q x.2) = kmap f (A.filter fun x => q (f x.2)) := by unfold kmap; rw [List.filter_map]; rfl
theorem rm_hit {β : Type} {M : List (ByteArray × β)} (hn : (M.map (·.1)).Nodup) {todo : List ByteArray} {q : β → Bool} {k : ByteArray} {x : β} (hk : k ∈ todo) (hx : (k, x) ∈ M) (hq : q x = true) :
    kdel k (M.filter fun y => decide (y.1 ∈ todo) || !q y.2) = M.filter fun y => decide (y.1 ∈ todo.filter fun k' => decide (k' ≠ k)) || !q y.2 := by
  unfold kdel
  rw [List.filter_filter]
  refine List.filter_congr fun y hy => ?_
  by_cases h : y.1 = k
  · have h1 : mget k M = some y.2 := mget_of_mem hn (by rw [← h]; exact hy)
    have h2 : mget k M = some x := mget_of_mem hn hx
    rw [h1] at h2
    simp only [Option.some.injEq] at h2
    simp [h, h2, hq]
  · simp [h, List.mem_filter]
theorem rm_miss {β : Type} {M : List (ByteArray × β)} (hn : (M.map (·.1)).Nodup) {todo : List ByteArray} {q : β → Bool} {k : ByteArray} {x : β} (hk : k ∈ todo) (hx : (k, x) ∈ M) (hq : q x = false) :
    (M.filter fun y => decide (y.1 ∈ todo) || !q y.2) = M.filter fun y => decide (y.1 ∈ todo.filter fun k' => decide (k' ≠ k)) || !q y.2 := by
  refine List.filter_congr fun y hy => ?_
  by_cases h : y.1 = k
  · have h1 : mget k M = some y.2 := mget_of_mem hn (by rw [← h]; exact hy)
    have h2 : mget k M = some x := mget_of_mem hn hx
    rw [h1] at h2
    simp only [Option.some.injEq] at h2
    simp [h, h2, hq]
  · simp [h, List.mem_filter]
theorem filter_ne_twice {l : List ByteArray} {k : ByteArray} : ((l.filter fun k' => decide (k' ≠ k)).filter fun k' => decide (k' ≠ k)) = l.filter fun k' => decide (k' ≠ k) := by
  rw [List.filter_filter]; exact List.filter_congr fun x _ => Bool.and_self _
theorem filter_ne_lt {l : List ByteArray} {k : ByteArray} (h : k ∈ l) : (l.filter fun k' => decide (k' ≠ k)).length < l.length := by
  refine Nat.lt_of_le_of_ne (List.length_filter_le _ _) fun e => ?_
  have := List.length_filter_eq_length_iff.1 e k h
  simp at this
theorem filter_parts {α : Type} (q : α → Bool) : ∀ l : List α, l.length = (l.filter q).length + (l.filter fun x => !q x).length
  | [] => rfl
  | x :: l => by
    have := filter_parts q l
    rw [List.filter_cons, List.filter_cons]
    cases h : q x <;> simp <;> omega
theorem vremove_spec (g : Nat) (A : List (ByteArray × Tok)) (last : Int) (Td T : Seg) (h : VJ g A last Td T) (f : FuncId) (caps : List Value) [e : Ent Try.prog f] (p : Tok → Bool) (R : Rds) (hf : FnT f caps R p) :
    Spec Try.prog 57 [.pointer (some ⟨g, 0, none⟩), .func (.func f) #[] caps.toArray] R [T] fun v H' => ∃ T', H' = [T'] ∧ v = .int .i64 ((A.filter fun x => p x.2).length : Nat) ∧ VJ g (A.filter fun x => !p x.2) last Td T' := by
  obtain ⟨vm, M, q, Tm, Tq, rfl, hM, hI, hA, hQ⟩ := h
  obtain ⟨bm, rfl⟩ : ∃ b, vm = .map (some b) := by obtain ⟨b, es, clock, h1, _⟩ := hM; exact ⟨b, h1⟩
  have hQ0 := hQ.perm (kmap_perm hA.symm)
  have hql := hQ.len
  rw [kmap_length] at hql
  have hlen : M.length = A.length := by simpa [kmap_length] using hA.length_eq
  refine Spec.segs (H' := [[(g, .cells [.map (some bm), .pointer (some ⟨q, 0, none⟩), .int .i64 last].toArray 65 (0, 0))], Tm, Tq]) (by simp) ?_
  refine Spec.body Try.func57 rfl Try.results57 Try.ntmps57 rfl ?_
  refine .seq ?_
  refine .region ?_
  refine TriOps.q .assign ?_
  refine .nil ?_
  refine seqQ_n ?_
  refine .seq ?_
  refine .region ?_
  refine TriOps.q .assign ?_
  refine .nil ?_
  refine seqQ_n ?_
  refine .seq ?_
  refine .seq ?_
  refine .region ?_
  refine TriOps.q .move ?_
  refine TriOps.q (.nilCheck rfl) ?_
  refine TriOps.q (.fieldAddr rfl) ?_
  refine TriOps.q (.load1 rfl) ?_
  refine TriOps.range (hM.rm (R := sg Tm) fun p hp => hp) (fun b o hb => .inr (by have hb' : (b, o) ∈ Tm := hb; simp [hb'])) rfl (fun it Ti0 hit0 => ?_)
  refine .nil ?_
  refine seqQ_n ?_
  refine .block ?_
  refine .loop (X := List ByteArray × List (ByteArray × TP) × Nat × Seg × Seg × Seg) (fun y => (y.1.Nodup ∧ y.2.2.1 + y.2.1.length = M.length) ∧ (y.2.1 = M.filter fun x => decide (x.1 ∈ y.1) || !p x.2.2) ∧ MS (fun s : ByteArray => .string s) (fun p : TP => .agg (encT p).toArray) (.map (some bm)) y.2.1 y.2.2.2.1 ∧ It (sg y.2.2.2.1) (fun s : ByteArray => .string s) (fun p : TP => .agg (encT p).toArray) (.map (some bm)) y.2.1 it y.1 y.2.2.2.2.2 ∧ QI q (kmap (fun t : Tok => t.expires) (kmap (fun p : TP => p.2) y.2.1)) y.2.2.2.2.1) (fun y => [(0, .pointer (some ⟨g, 0, none⟩)), (1, .func (.func f) #[] caps.toArray), (5, .int .i64 (y.2.2.1 : Nat)), (12, it)]) (fun y => [y.2.2.2.2.2, [(g, .cells [.map (some bm), .pointer (some ⟨q, 0, none⟩), .int .i64 last].toArray 65 (0, 0))], y.2.2.2.1, y.2.2.2.2.1]) (fun y => y.1.length) (M.map (·.1), M, 0, Tm, Tq, Ti0) ⟨⟨hM.nd, by simp⟩, (List.filter_eq_self.2 fun x hx => by
    have hx' : x.1 ∈ M.map (·.1) := List.mem_map.2 ⟨x, hx, rfl⟩
    show (decide (x.1 ∈ M.map (·.1)) || _) = true
    rw [decide_eq_true hx']; rfl).symm, hM, hit0, hQ0⟩ (((((EnvLe.nil _).cons rfl).cons rfl).cons rfl).cons rfl) (HLe.refl _) ?_
  rintro ⟨todo, M1, n, Tm1, Tq1, Ti1⟩ ⟨⟨hnd, hnl⟩, hM1e, hM1, hit, hQ1⟩
  simp only at hnd hnl hM1e hM1 hit hQ1 ⊢
  refine .seq ?_
  refine .region ?_
  refine TriOps.nextB hit (fun b o hb => .inr (by have hb' : (b, o) ∈ Tm1 := hb; simp [hb'])) rfl (fun b rest Ti2 hfe ht => ?_)
  refine TriOps.q .extract ?_
  refine .nil ?_
  refine seqQ_n ?_
  refine .seq ?_
  refine .cond rfl (fun h1 => ?_) (fun h1 => ?_)
  · skip
    obtain ⟨k, ⟨w0, t0⟩, hk, hku, hitc⟩ := ht h1
    have hkM : (k, ((w0, t0) : TP)) ∈ M := (List.mem_filter.1 (hM1e ▸ mget_some hku)).1
    obtain ⟨_, hc0, hf0⟩ := hI _ hkM
    have i0 : Ones (encT (w0, t0)) := ⟨hc0.ones⟩
    have iw0 : One w0 := hc0.oneCell
    have hnd2 : (todo.filter fun k' => decide (k' ≠ k)).Nodup := hnd.sublist List.filter_sublist
    have hlt := filter_ne_lt hk
    refine .skip ?_
    refine seqQ_n ?_
    refine .block ?_
    refine .seq ?_
    refine .region ?_
    refine TriOps.q (.entry hitc (fun b o hb => .inr (by have hb' : (b, o) ∈ Tm1 := hb; simp [hb'])) rfl) ?_
    refine TriOps.q .extract ?_
    refine TriOps.q .extract ?_
    refine TriOps.allocA (fun b7 => ?_)
    refine TriOps.q .assign ?_
    refine TriOps.storeA rfl rfl ?_
    refine .nil ?_
    refine seqQ_n ?_
    refine .seq ?_
    refine .region ?_
    refine TriOps.q .move ?_
    refine TriOps.q (.loadA rfl) ?_
    refine TriOps.callRV (first := []) (captured := caps) (vs := [.agg (encT (w0, t0)).toArray]) (hf w0 t0 iw0 _ fun b o hb => .inl hb) (fun u hu => ?_)
    subst hu
    refine .nil ?_
    refine seqQ_n ?_
    refine .cond rfl (fun h2 => ?_) (fun h2 => ?_)
    · skip
      refine .seq ?_
      refine .region ?_
      refine TriOps.q .move ?_
      refine TriOps.q (.nilCheck rfl) ?_
      refine TriOps.q (.fieldAddr rfl) ?_
      refine TriOps.q (.load1 rfl) ?_
      refine TriOps.q .move ?_
      refine TriOps.delete hM1 rfl (show _ = some (Value.string k) from rfl) (fun Tm2 hM2 hit2 => ?_)
      have hit3 := hit2 it _ Ti2 hitc.it
      rw [filter_ne_twice] at hit3
      have hdel : mdel k M1 = kdel k M1 := mdel_kdel hM1.nd
      have hM2e := rm_hit (q := fun x : TP => p x.2) hM.nd hk hkM h2
      rw [← hM1e, ← hdel] at hM2e
      have hM2l : (mdel k M1).length + 1 = M1.length := by
        rw [mdel_length, hku]
        have : 0 < M1.length := List.length_pos_of_mem (mget_some hku)
        simp; omega
      refine .nil ?_
      refine seqQ_n ?_
      refine .seq ?_
      refine .region ?_
      refine TriOps.q .move ?_
      refine TriOps.q (.nilCheck rfl) ?_
      refine TriOps.q (.fieldAddr rfl) ?_
      refine TriOps.q (.load1 rfl) ?_
      refine TriOps.q .move ?_
      refine TriOps.callM (qdrop_spec q _ Tq1 hQ1 k _) (fun v Tq2 hv => ?_)
      obtain ⟨rfl, hQ2⟩ := hv
      rw [← kmap_del, ← kmap_del, ← hdel] at hQ2
      refine .nil ?_
      refine seqQ_n ?_
      refine .region ?_
      refine TriOps.q .move ?_
      refine TriOps.q (.i64 ((n + 1 : Nat) : Int) .add ⟨by omega, by omega, by omega⟩) ?_
      refine TriOps.q .assign ?_
      refine .nil ?_
      refine blkQ_n ?_
      first
        | exact loopQ_i (todo.filter fun k' => decide (k' ≠ k), mdel k M1, n + 1, Tm2, Tq2, Ti2) ⟨⟨hnd2, by simp only; omega⟩, hM2e, hM2, hit3, hQ2⟩ hlt (((((EnvLe.nil _).cons rfl).cons rfl).cons rfl).cons rfl) (HLe.pick [1, 1, 1, 1] _)
        | exact loopQ_i (todo.filter fun k' => decide (k' ≠ k), M1, n, Tm1, Tq1, Ti2) ⟨⟨hnd2, hnl⟩, hM1e2, hM1, hitc.it, hQ1⟩ hlt (((((EnvLe.nil _).cons rfl).cons rfl).cons rfl).cons rfl) (HLe.pick [1, 1, 1, 1] _)
    · skip
      have hM1e2 := rm_miss (q := fun x : TP => p x.2) hM.nd hk hkM h2
      rw [← hM1e] at hM1e2
      refine .skip ?_
      refine blkQ_n ?_
      first
        | exact loopQ_i (todo.filter fun k' => decide (k' ≠ k), mdel k M1, n + 1, Tm2, Tq2, Ti2) ⟨⟨hnd2, by simp only; omega⟩, hM2e, hM2, hit3, hQ2⟩ hlt (((((EnvLe.nil _).cons rfl).cons rfl).cons rfl).cons rfl) (HLe.pick [1, 1, 1, 1] _)
        | exact loopQ_i (todo.filter fun k' => decide (k' ≠ k), M1, n, Tm1, Tq1, Ti2) ⟨⟨hnd2, hnl⟩, hM1e2, hM1, hitc.it, hQ1⟩ hlt (((((EnvLe.nil _).cons rfl).cons rfl).cons rfl).cons rfl) (HLe.pick [1, 1, 1, 1] _)
  · skip
    have ht0 := hfe h1
    subst ht0
    have hM1f : M1 = M.filter fun x => !p x.2.2 := by rw [hM1e]; exact List.filter_congr fun x _ => by simp
    have hn2 : n = (A.filter fun x => p x.2).length := by
      have h3 := (hA.filter fun x => p x.2).length_eq
      rw [kmap_filter, kmap_length] at h3
      have h4 := filter_parts (fun x : ByteArray × TP => p x.2.2) M
      rw [← hM1f] at h4
      omega
    refine .exit (seqQ_x (loopQ_x (blkQ_x ?_)))
    refine seqQ_n ?_
    refine .seq ?_
    refine .region ?_
    refine TriOps.q .move ?_
    refine TriOps.q .assign ?_
    refine .nil ?_
    refine seqQ_n ?_
    refine .ret (retQ_r _ (.one (.tmp rfl)) (.one [1, 1, 1] _) ?_)
    refine ⟨(g, .cells [.map (some bm), .pointer (some ⟨q, 0, none⟩), .int .i64 last].toArray 65 (0, 0)) :: (Tm1 ++ Tq1), by simp [take, dropAt], by rw [hn2], _, M1, q, Tm1, Tq1, rfl, hM1, fun x hx => hI x (List.mem_filter.1 (hM1f ▸ hx)).1, ?_, ?_⟩
    · rw [hM1f, ← kmap_filter (q := fun t => !p t)]
      exact hA.filter _
    · refine hQ1.perm (kmap_perm ?_)
      rw [hM1f, ← kmap_filter (q := fun t => !p t)]
      exact hA.filter _
theorem tcut1_spec (fam : Int) (b : Nat) (w : Value) (t : Tok) (hw : One w) (R : Rds) [pc : PC R (.pointer (some ⟨b, 0, none⟩)) [.int .i64 fam]] :
    Spec Try.prog 59 [.agg (encT (w, t)).toArray, .pointer (some ⟨b, 0, none⟩)] R [] fun v H' => v = .bool (t.family == fam) ∧ H' = [] := by
  have i0 := encT_ones (t := t) hw
  refine Spec.body Try.func59 rfl Try.results59 Try.ntmps59 rfl ?_
  refine .seq ?_
  refine .region ?_
  refine TriOps.boxA rfl (fun b2 => ?_)
  refine TriOps.q .assign ?_
  refine .nil ?_
  refine seqQ_n ?_
  refine .seq ?_
  refine .region ?_
  refine TriOps.q (.fieldAddr rfl) ?_
  refine TriOps.q (.load1 rfl) ?_
  refine TriOps.q (.load1 rfl) ?_
  refine TriOps.q .eqI ?_
  refine TriOps.q .assign ?_
  refine .nil ?_
  refine seqQ_n ?_
  refine .ret (retQ_r _ (.one (.tmp rfl)) (.none _) ?_)
  exact ⟨rfl, rfl⟩
theorem vcut_spec (g : Nat) (A : List (ByteArray × Tok)) (last : Int) (Td T : Seg) (h : VJ g A last Td T) (fam : Int) (R : Rds) :
    Spec Try.prog 16 [.pointer (some ⟨g, 0, none⟩), .int .i64 fam] R [T] fun v H' => ∃ T', H' = [T'] ∧ v = .int .i64 ((A.filter fun x => x.2.family == fam).length : Nat) ∧ VJ g (A.filter fun x => !(x.2.family == fam)) last Td T' := by
  have h0 := h
  obtain ⟨vm, M, q, Tm, Tq, hT, hM, hI, hA, hQ⟩ := h
  obtain ⟨bm, rfl⟩ : ∃ b, vm = .map (some b) := by obtain ⟨b, es, clock, h1, _⟩ := hM; exact ⟨b, h1⟩
  have ps : PS T (.pointer (some ⟨g, 0, none⟩)) [.map (some bm), .pointer (some ⟨q, 0, none⟩), .int .i64 last] := PS.of (E := 65) (fr := (0, 0)) (by rw [hT]; simp)
  refine Spec.body Try.func16 rfl Try.results16 Try.ntmps16 rfl ?_
  refine .seq ?_
  refine .region ?_
  refine TriOps.box1 rfl (fun b3 => ?_)
  refine TriOps.q .assign ?_
  refine .nil ?_
  refine seqQ_n ?_
  refine .seq ?_
  refine .seq ?_
  refine .region ?_
  refine TriOps.q .move ?_
  refine TriOps.callR (vok_spec g bm _ _ _) (fun v hv => ?_)
  subst hv
  refine TriOps.q .not ?_
  refine .nil ?_
  refine seqQ_n ?_
  refine .condF ?_
  refine .skip ?_
  refine seqQ_n ?_
  refine .seq ?_
  refine .region ?_
  refine TriOps.q .move ?_
  refine TriOps.q .makeFunc ?_
  refine TriOps.callW (vremove_spec g A last Td T h0 59 [.pointer (some ⟨b3, 0, none⟩)] (fun t => t.family == fam) _ (fun w t hw R' hR => by
    have : PC R' (.pointer (some ⟨b3, 0, none⟩)) [.int .i64 fam] := PC.of (E := 3) (fr := (0, 0)) (hR _ _ (.inr (by simp)))
    exact tcut1_spec fam b3 w t hw R')) (fun v T2 hv => ?_)
  obtain ⟨rfl, hV2⟩ := hv
  refine TriOps.q .assign ?_
  refine .nil ?_
  refine seqQ_n ?_
  refine .ret (retQ_r _ (.one (.tmp rfl)) (.one [1] _) ?_)
  exact ⟨T2, by simp [take], rfl, hV2⟩
end Go.Proofs.Ytkepgbimlolemaa
