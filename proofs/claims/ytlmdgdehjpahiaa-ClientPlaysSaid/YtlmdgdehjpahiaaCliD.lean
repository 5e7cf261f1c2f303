/- Clients: Add, Remove. No condition. -/
import Derived.Test.YtlmdgdehjpahiaaKv
import Derived.Test.YtlmdgdehjpahiaaCliC
set_option linter.unusedVariables false
set_option maxRecDepth 4000
namespace Go.Proofs.Ytlmdgdehjpahiaa

def cadd (A : List Cli) (c : Cli) : Int × List Cli := if c.check ≠ 0 then (c.check, A) else if (cget c.id A).isSome then (10, A) else if 64 ≤ A.length then (8, A) else (0, A ++ [c])
def cdel (id : ByteArray) (A : List Cli) : List Cli := A.filter fun c => decide (c.id ≠ id)
theorem cadd_spec (g : Nat) (A : List Cli) (T : Seg) (h : RI g A T) (r : CR) (c : Cli) (R : Rds) (hc : CliR R r c) (hf : c.fits) (hw : c.few) :
    Spec Try.prog 24 [.pointer (some ⟨g, 0, none⟩), .agg r.cells.toArray] R [T] fun v H' => ∃ T', H' = [T'] ∧ v = .int .i64 (cadd A c).1 ∧ RI g (cadd A c).2 T' := by
  have hRI := h
  obtain ⟨vm, M, Tm, Ti, rfl, hM, hI, hA⟩ := h
  obtain ⟨bm, rfl⟩ : ∃ b, vm = .map (some b) := by obtain ⟨b, es, clock, h1, _⟩ := hM; exact ⟨b, h1⟩
  have hg := ri_get hM.nd hI hA c.id
  have hlen : M.length = A.length := by simpa using hA.length_eq
  obtain ⟨r0, hr0, i0, hs0⟩ : ∃ r0 : CR, ((mget c.id M).map fun p : CR × Cli => Value.agg p.1.cells.toArray).getD (.agg CR.zero.cells.toArray) = .agg r0.cells.toArray ∧ Ones r0.cells ∧ (mget c.id M).isSome = (cget c.id A).isSome := by
    rcases hg with ⟨h1, h2, _⟩ | ⟨r, c, h1, h2, _, h3, h4, _⟩
    · rw [h1, h2]; exact ⟨CR.zero, rfl, ⟨(CliR.zero (fun _ _ => False)).ones⟩, rfl⟩
    · rw [h1, h2]; exact ⟨r, rfl, ⟨h3.ones⟩, rfl⟩
  have io : Ones r.cells := ⟨hc.ones⟩
  have hid := hc.id
  refine Spec.segs (H' := [[(g, .cells [.map (some bm)].toArray 107 (0, 0))], Tm, Ti]) (by simp) ?_
  refine Spec.body Try.func24 rfl Try.results24 Try.ntmps24 rfl ?_
  refine .seq ?_
  refine .region ?_
  refine TriOps.boxA rfl (fun b3 => ?_)
  refine TriOps.q .assign ?_
  refine .nil ?_
  refine seqQ_n ?_
  refine .seq ?_
  refine .seq ?_
  refine .region ?_
  refine TriOps.q .move ?_
  refine TriOps.callR (cok_spec g bm _) (fun v hv => ?_)
  subst hv
  refine TriOps.q .not ?_
  refine .nil ?_
  refine seqQ_n ?_
  refine .condF ?_
  refine .skip ?_
  refine seqQ_n ?_
  refine .seq ?_
  refine .seq ?_
  refine .region ?_
  refine TriOps.q (.loadA rfl) ?_
  refine TriOps.callR (check_spec r c _ (hc.mono fun b o hb => .inl hb) hf) (fun v hv => ?_)
  subst hv
  refine TriOps.q .assign ?_
  refine .nil ?_
  refine seqQ_n ?_
  refine .seq ?_
  refine .region ?_
  refine TriOps.q .move ?_
  refine TriOps.q .neI ?_
  refine .nil ?_
  refine seqQ_n ?_
  refine .cond rfl (fun h2 => ?_) (fun h2 => ?_)
  · skip
    refine .seq ?_
    refine .region ?_
    refine TriOps.q .move ?_
    refine TriOps.q .assign ?_
    refine .nil ?_
    refine seqQ_n ?_
    refine .ret (seqQ_r (retQ_r _ (.one (.tmp rfl)) (.one [1, 1, 1] _) ?_))
    refine ⟨(g, .cells [.map (some bm)].toArray 107 (0, 0)) :: (Tm ++ Ti), by simp [take, dropAt], ?_⟩
    have e : cadd A c = (c.check, A) := by unfold cadd; rw [if_pos (by simpa using h2)]
    rw [e]; exact ⟨rfl, hRI⟩
  · skip
    refine .skip ?_
    refine seqQ_n ?_
    refine .seq ?_
    refine .seq ?_
    refine .region_all [11] mixed ?_
    refine RA.takeO 0 rfl .move (by kernel_rfl) ?_
    refine RA.takeO 1 rfl (.nilCheck rfl) (by kernel_rfl) ?_
    refine RA.takeO 2 rfl (.fieldAddr rfl) (by kernel_rfl) ?_
    refine RA.takeO 3 rfl (.load1 rfl) (by kernel_rfl) ?_
    refine RA.takeO 4 rfl (.fieldAddr rfl) (by kernel_rfl) ?_
    refine RA.takeO 5 rfl (.load1 rfl) (by kernel_rfl) ?_
    refine RA.takeO 6 rfl (Quiet.cast (v' := .tuple [.agg r0.cells.toArray, .bool (cget c.id A).isSome].toArray) (.lookup2 hM.rx rfl (show _ = some (Value.string r.id) from rfl)) (by rw [hid, ← hs0, ← hr0]; rfl)) (by kernel_rfl) ?_
    refine RA.takeO 7 rfl .move (by kernel_rfl) ?_
    refine RA.takeO 8 rfl .extract (by kernel_rfl) ?_
    refine RA.take 9 rfl .extract (by kernel_rfl) ?_
    refine RA.step 10 rfl (by kernel_rfl) rfl ?_
    refine TriOps.allocA (fun b6 => ?_)
    refine .nil (Next.sub ?_)
    refine RA.step 11 rfl (by kernel_rfl) rfl ?_
    refine TriOps.storeA rfl rfl ?_
    refine .nil (Next.mod rfl ?_)
    refine RA.take 12 rfl .assign (by kernel_rfl) ?_
    refine RA.nil (by kernel_rfl) ?_
    refine seqQ_n ?_
    refine .seq ?_
    refine .region ?_
    refine TriOps.q .move ?_
    refine .nil ?_
    refine seqQ_n ?_
    refine .cond rfl (fun h3 => ?_) (fun h3 => ?_)
    · skip
      refine .seq ?_
      refine .region ?_
      refine TriOps.q .assign ?_
      refine .nil ?_
      refine seqQ_n ?_
      refine .ret (seqQ_r (retQ_r _ (.one (.tmp rfl)) (.one [2, 2, 2] _) ?_))
      refine ⟨(g, .cells [.map (some bm)].toArray 107 (0, 0)) :: (Tm ++ Ti), by simp [take, dropAt], ?_⟩
      have e : cadd A c = (10, A) := by unfold cadd; rw [if_neg (by simpa using h2), if_pos h3]
      rw [e]; exact ⟨rfl, hRI⟩
    · skip
      refine .skip ?_
      refine seqQ_n ?_
      refine .seq ?_
      refine .seq ?_
      refine .region ?_
      refine TriOps.q .move ?_
      refine TriOps.q (.nilCheck rfl) ?_
      refine TriOps.q (.fieldAddr rfl) ?_
      refine TriOps.q (.load1 rfl) ?_
      refine TriOps.q (.lenM hM.rx rfl) ?_
      refine TriOps.q .geq ?_
      refine .nil ?_
      refine seqQ_n ?_
      refine .cond rfl (fun h4 => ?_) (fun h4 => ?_)
      · skip
        refine .seq ?_
        refine .region ?_
        refine TriOps.q .assign ?_
        refine .nil ?_
        refine seqQ_n ?_
        refine .ret (seqQ_r (retQ_r _ (.one (.tmp rfl)) (.one [2, 2, 2] _) ?_))
        refine ⟨(g, .cells [.map (some bm)].toArray 107 (0, 0)) :: (Tm ++ Ti), by simp [take, dropAt], ?_⟩
        have e : cadd A c = (8, A) := by unfold cadd; rw [if_neg (by simpa using h2), if_neg (by rw [h3]; simp), if_pos (by have := of_decide_eq_true h4; omega)]
        rw [e]; exact ⟨rfl, hRI⟩
      · skip
        refine .skip ?_
        refine seqQ_n ?_
        refine .seq ?_
        refine .region_all [8] mixed ?_
        refine RA.takeO 0 rfl .move (by kernel_rfl) ?_
        refine RA.takeO 1 rfl (.nilCheck rfl) (by kernel_rfl) ?_
        refine RA.takeO 2 rfl (.fieldAddr rfl) (by kernel_rfl) ?_
        refine RA.takeO 3 rfl (.load1 rfl) (by kernel_rfl) ?_
        refine RA.takeO 4 rfl (.fieldAddr rfl) (by kernel_rfl) ?_
        refine RA.takeO 5 rfl (.load1 rfl) (by kernel_rfl) ?_
        refine RA.takeO 6 rfl (.loadA rfl) (by kernel_rfl) ?_
        refine RA.step 7 rfl (by kernel_rfl) rfl ?_
        refine TriOps.callN (copied_spec r c _ (hc.mono fun b o hb => .inl hb) hw) (fun v T1 hv => ?_)
        obtain ⟨r1, rfl, hc1⟩ := hv
        refine .nil (Next.sub ?_)
        refine RA.step 8 rfl (by kernel_rfl) rfl ?_
        refine TriOps.update (u := (r1, c)) hM rfl (show _ = some (Value.string r.id) from rfl) rfl (fun Tm2 hM2 _ => ?_)
        refine .nil (Next.mod rfl ?_)
        refine RA.nil (by kernel_rfl) ?_
        refine seqQ_n ?_
        refine .seq ?_
        refine .region ?_
        refine TriOps.q .assign ?_
        refine .nil ?_
        refine seqQ_n ?_
        refine .ret (retQ_r _ (.one (.tmp rfl)) (.one [3, 3, 3, 0] _) ?_)
        refine ⟨(g, .cells [.map (some bm)].toArray 107 (0, 0)) :: (Tm2 ++ (Ti ++ T1)), by simp [take, dropAt], ?_⟩
        have e : cadd A c = (0, A ++ [c]) := by unfold cadd; rw [if_neg (by simpa using h2), if_neg (by rw [h3]; simp), if_neg (by have := of_decide_eq_false h4; omega)]
        rw [e]
        have hno : mget c.id M = none := by
          rw [← Option.not_isSome_iff_eq_none, hs0, h3]; simp
        refine ⟨rfl, _, _, Tm2, Ti ++ T1, rfl, hM2, ?_, ?_⟩
        · rw [hid, mset_new (mget_none.1 hno)]
          intro p hp
          rcases List.mem_append.1 hp with hp | hp
          · obtain ⟨q1, q2, q3⟩ := hI p hp
            exact ⟨q1, q2.mono fun b o hb => List.mem_append_left _ hb, q3⟩
          · simp only [List.mem_singleton] at hp
            subst hp
            exact ⟨rfl, hc1.mono fun b o hb => List.mem_append_right _ hb, hw⟩
        · rw [hid, mset_new (mget_none.1 hno), List.map_append]
          exact hA.append_right _
theorem cdel_perm {M : List (ByteArray × (CR × Cli))} {A : List Cli} {id : ByteArray} (hn : (M.map (·.1)).Nodup) (hM : ∀ p ∈ M, p.1 = p.2.2.id) (hA : (M.map (·.2.2)).Perm A) : ((mdel id M).map (·.2.2)).Perm (cdel id A) := by
  rw [mdel_kdel hn]
  refine List.Perm.trans ?_ (hA.filter _)
  unfold kdel
  rw [List.filter_map]
  refine List.Perm.of_eq (congrArg _ (List.filter_congr fun p hp => ?_))
  simp [hM p hp]
theorem cremove_spec (g : Nat) (A : List Cli) (T : Seg) (h : RI g A T) (id : ByteArray) (R : Rds) :
    Spec Try.prog 26 [.pointer (some ⟨g, 0, none⟩), .string id] R [T] fun v H' => ∃ T', H' = [T'] ∧ v = .int .i64 (if (cget id A).isSome then 0 else 11) ∧ RI g (cdel id A) T' := by
  have hRI := h
  obtain ⟨vm, M, Tm, Ti, rfl, hM, hI, hA⟩ := h
  obtain ⟨bm, rfl⟩ : ∃ b, vm = .map (some b) := by obtain ⟨b, es, clock, h1, _⟩ := hM; exact ⟨b, h1⟩
  have hg := ri_get hM.nd hI hA id
  obtain ⟨r0, hr0, i0, hs0⟩ : ∃ r0 : CR, ((mget id M).map fun p : CR × Cli => Value.agg p.1.cells.toArray).getD (.agg CR.zero.cells.toArray) = .agg r0.cells.toArray ∧ Ones r0.cells ∧ (mget id M).isSome = (cget id A).isSome := by
    rcases hg with ⟨h1, h2, _⟩ | ⟨r, c, h1, h2, _, h3, h4, _⟩
    · rw [h1, h2]; exact ⟨CR.zero, rfl, ⟨(CliR.zero (fun _ _ => False)).ones⟩, rfl⟩
    · rw [h1, h2]; exact ⟨r, rfl, ⟨h3.ones⟩, rfl⟩
  refine Spec.segs (H' := [[(g, .cells [.map (some bm)].toArray 107 (0, 0))], Tm, Ti]) (by simp) ?_
  refine Spec.body Try.func26 rfl Try.results26 Try.ntmps26 rfl ?_
  refine .seq ?_
  refine .region ?_
  refine TriOps.q .assign ?_
  refine .nil ?_
  refine seqQ_n ?_
  refine .seq ?_
  refine .seq ?_
  refine .region ?_
  refine TriOps.q .move ?_
  refine TriOps.callR (cok_spec g bm _) (fun v hv => ?_)
  subst hv
  refine TriOps.q .not ?_
  refine .nil ?_
  refine seqQ_n ?_
  refine .condF ?_
  refine .skip ?_
  refine seqQ_n ?_
  refine .seq ?_
  refine .seq ?_
  refine .region ?_
  refine TriOps.q .move ?_
  refine TriOps.q (.nilCheck rfl) ?_
  refine TriOps.q (.fieldAddr rfl) ?_
  refine TriOps.q (.load1 rfl) ?_
  refine TriOps.q .move ?_
  refine TriOps.q (Quiet.cast (v' := .tuple [.agg r0.cells.toArray, .bool (cget id A).isSome].toArray) (.lookup2 hM.rx rfl (show _ = some (Value.string id) from rfl)) (by rw [← hs0, ← hr0]; rfl)) ?_
  refine TriOps.q .move ?_
  refine TriOps.q .extract ?_
  refine TriOps.q .extract ?_
  refine TriOps.allocA (fun b5 => ?_)
  refine TriOps.storeA rfl rfl ?_
  refine TriOps.q .assign ?_
  refine .nil ?_
  refine seqQ_n ?_
  refine .seq ?_
  refine .region ?_
  refine TriOps.q .move ?_
  refine TriOps.q .not ?_
  refine .nil ?_
  refine seqQ_n ?_
  refine .cond rfl (fun h2 => ?_) (fun h2 => ?_)
  · skip
    refine .seq ?_
    refine .region ?_
    refine TriOps.q .assign ?_
    refine .nil ?_
    refine seqQ_n ?_
    refine .ret (seqQ_r (retQ_r _ (.one (.tmp rfl)) (.one [1, 1, 1] _) ?_))
    have hno : (cget id A).isSome = false := by simpa using h2
    refine ⟨(g, .cells [.map (some bm)].toArray 107 (0, 0)) :: (Tm ++ Ti), by simp [take, dropAt], by rw [hno]; rfl, ?_⟩
    have e : cdel id A = A := by
      unfold cdel
      rw [List.filter_eq_self]
      intro c hc
      rcases hg with ⟨_, _, h3⟩ | ⟨r, c, _, h3, _⟩
      · simpa using h3 c hc
      · rw [h3] at hno; simp at hno
    rw [e]; exact hRI
  · skip
    refine .skip ?_
    refine seqQ_n ?_
    refine .seq ?_
    refine .region ?_
    refine TriOps.q .move ?_
    refine TriOps.q (.nilCheck rfl) ?_
    refine TriOps.q (.fieldAddr rfl) ?_
    refine TriOps.q (.load1 rfl) ?_
    refine TriOps.q .move ?_
    refine TriOps.delete hM rfl (show _ = some (Value.string id) from rfl) (fun Tm2 hM2 _ => ?_)
    refine .nil ?_
    refine seqQ_n ?_
    refine .seq ?_
    refine .region ?_
    refine TriOps.q .assign ?_
    refine .nil ?_
    refine seqQ_n ?_
    refine .ret (retQ_r _ (.one (.tmp rfl)) (.one [1, 1, 1] _) ?_)
    have hyes : (cget id A).isSome = true := by simpa using h2
    refine ⟨(g, .cells [.map (some bm)].toArray 107 (0, 0)) :: (Tm2 ++ Ti), by simp [take, dropAt], by rw [hyes]; rfl, _, _, Tm2, Ti, rfl, hM2, fun p hp => hI p (mdel_sub p hp), cdel_perm hM.nd (fun p hp => (hI p hp).1) hA⟩
end Go.Proofs.Ytlmdgdehjpahiaa
