/- A store: Collect's walk. No condition. -/
import Derived.Test.YtkepgbimlolemaaStoT
import Derived.Test.YtkepgbimlolemaaStoS
set_option linter.unusedVariables false
set_option linter.unusedSimpArgs false
set_option maxRecDepth 4000
namespace Go.Proofs.Ytkepgbimlolemaa
section
variable {κ : Type} [DecidableEq κ]
def cnt (key : SRow → κ) (todo : List κ) (qs : List RB) : Nat := (qs.filter fun p => decide (key p.2 ∉ todo)).length
theorem cnt_next {key : SRow → κ} {todo : List κ} {k : κ} (hk : k ∈ todo) (qs : List RB) : cnt key (todo.filter fun k' => decide (k' ≠ k)) qs = cnt key todo qs + (ids key k qs).length := by
  unfold cnt ids
  rw [List.length_map, ← List.length_append]
  refine (filter_two qs fun p _ => ?_).length_eq
  by_cases e : key p.2 = k
  · rw [e]; simp [hk]
  · simp [e]
theorem cnt_start {key : SRow → κ} {todo : List κ} {qs : List RB} (h : ∀ p ∈ qs, key p.2 ∈ todo) : cnt key todo qs = 0 := by
  unfold cnt
  rw [List.filter_eq_nil_iff.2 fun p hp => by simp [h p hp]]; rfl
theorem cnt_done {key : SRow → κ} {qs : List RB} : cnt key [] qs = qs.length := by
  unfold cnt
  rw [List.filter_eq_self.2 fun p _ => by simp]
theorem cnt_le {key : SRow → κ} {todo : List κ} {qs : List RB} : cnt key todo qs ≤ qs.length := List.length_filter_le _ _
theorem ids_keep {key : SRow → κ} {k : κ} {ps : List RB} {q : RB → Bool} : ids key k (ps.filter q) = ((frows key k ps).filter q).map (·.1) := by
  unfold ids frows
  rw [List.filter_filter, List.filter_filter]
  congr 1
  exact List.filter_congr fun p _ => Bool.and_comm _ _
end
theorem hle_rows (A : Seg) (ps : List RB) (q : RB → Bool) : HLe [A, rowSeg ps] [A ++ rowSeg (ps.filter q)] := ⟨rowSeg (ps.filter fun p => !q p), by
  simp only [List.flatten_cons, List.flatten_nil, List.append_nil, List.append_assoc]
  refine .append_left _ ?_
  unfold rowSeg
  rw [← List.map_append]
  exact (List.filter_append_perm q ps).symm.map _⟩
theorem collect_spec (g : Nat) (S : Sto) (T : Seg) (h : SI g S T) (hS : SOK S) (hh : Int) (R : Rds) :
    Spec Try.prog 43 [.pointer (some ⟨g, 0, none⟩), .int .u64 hh] R [T] fun u H' => ∃ T', H' = [T'] ∧ u = .int .i64 (if scan S hh then 0 else 12) ∧ SI g (scollect S hh) T' := by
  obtain ⟨_, _, _, _, _, hV, _⟩ := h.viewc (R := Rx R [T]) fun p hp => .inr (by simp [hp])
  have h0 := h
  obtain ⟨ps, vf, vr, Mf, Mr, Tf, Tr, Sf, Sr, hT, h1_, h2_, h3_⟩ := h
  have iof := h1_.ms.one
  have ior := h2_.ms.one
  have hpl : ps.length ≤ 4096 := by have := hS.len; rw [← h3_, List.length_map] at this; exact this
  obtain ⟨qs, hqs⟩ : ∃ qs, qs = ps.filter fun p => skeep hh p.2 := ⟨_, rfl⟩
  have hql : qs.length ≤ 4096 := by rw [hqs]; exact Nat.le_trans (List.length_filter_le _ _) hpl
  have hqm : ∀ x ∈ qs, x ∈ ps := fun x hx => by rw [hqs] at hx; exact (List.mem_filter.1 hx).1
  have hrow : ∀ p ∈ ps, PC (sg (rowSeg ps)) (.pointer (some ⟨p.1, 0, none⟩)) p.2.enc := fun p hp => PC.of (E := 132) (fr := (0, 0)) (show (p.1, rowObj p.2) ∈ rowSeg ps from List.mem_map.2 ⟨p, hp, rfl⟩)
  have hc0 : cnt (fun x : SRow => x.t.obr) (Mf.map (·.1)) qs = 0 := cnt_start fun p hp => h1_.al p (hqm p hp)
  refine Spec.body Try.func43 rfl Try.results43 Try.ntmps43 rfl ?_
  refine .seq ?_
  refine .region ?_
  refine TriOps.q .assign ?_
  refine .nil ?_
  refine seqQ_n ?_
  refine .seq ?_
  refine .block ?_
  refine .seq ?_
  refine .region ?_
  refine TriOps.q .move ?_
  refine TriOps.callR hV.ok (fun v hv => ?_)
  subst hv
  refine TriOps.q .not ?_
  refine TriOps.q .assign ?_
  refine .nil ?_
  refine seqQ_n ?_
  refine .condF ?_
  refine .seq ?_
  refine .region ?_
  refine TriOps.q .move ?_
  refine TriOps.q .move ?_
  refine TriOps.callR (hV.can hh) (fun v hv => ?_)
  subst hv
  refine TriOps.q .not ?_
  refine TriOps.q .assign ?_
  refine .nil ?_
  refine seqQ_n ?_
  refine .cond rfl (fun h2 => ?_) (fun h2 => ?_)
  · skip
    refine .seq ?_
    refine .region ?_
    refine TriOps.q .assign ?_
    refine .nil ?_
    refine seqQ_n ?_
    refine .ret (blkQ_r (seqQ_r (retQ_r _ (.one (.tmp rfl)) (.one [0] _) ?_)))
    have hsc : scan S hh = false := by simpa using h2
    exact ⟨T, by simp [take], by rw [hsc]; rfl, by unfold scollect; rw [hsc]; exact h0⟩
  · skip
    have hsc : scan S hh = true := by simpa using h2
    refine Tri.le (EnvLe.refl _) (H' := [[(g, .cells [.bool true, .int .u64 S.head, .int .u64 S.hor, .int .i64 (ps.length : Nat), vf, vr].toArray 98 (0, 0))], Tf, Sf, Tr, Sr, rowSeg ps]) (HLe.ofPerm (by rw [hT]; simp)) ?_
    refine .skip ?_
    refine blkQ_n (seqQ_n ?_)
    refine .seq ?_
    refine .region ?_
    refine TriOps.q .move ?_
    refine TriOps.q .move ?_
    refine TriOps.q (.nilCheck rfl) ?_
    refine TriOps.q (.fieldAddr rfl) ?_
    refine TriOps.store1 rfl rfl ?_
    refine .nil ?_
    refine seqQ_n ?_
    refine .seq ?_
    refine .region ?_
    refine TriOps.q .move ?_
    refine TriOps.q (.nilCheck rfl) ?_
    refine TriOps.q (.fieldAddr rfl) ?_
    refine TriOps.store1 rfl rfl ?_
    refine .nil ?_
    refine seqQ_n ?_
    refine .seq ?_
    refine .seq ?_
    refine .region ?_
    refine TriOps.q .move ?_
    refine TriOps.q (.nilCheck rfl) ?_
    refine TriOps.q (.fieldAddr rfl) ?_
    refine TriOps.q (.load1 rfl) ?_
    refine TriOps.range (h1_.ms.rm (R := sg Tf) fun p hp => hp) (fun b o hb => .inr (by have hb' : (b, o) ∈ Tf := hb; simp [hb'])) rfl (fun it Ti0 hit0 => ?_)
    refine .nil ?_
    refine seqQ_n ?_
    refine .block ?_
    refine .loop (X := List (Obr × (Value × Seg)) × List Obr × Seg × Seg × Seg) (fun y => CX (fun k : Obr => .agg k.enc.toArray) (fun x => x.t.obr) qs vf Mf y.1 y.2.1 y.2.2.1 y.2.2.2.1 ∧ It (sg y.2.2.1) (fun k : Obr => .agg k.enc.toArray) (fun p : Value × Seg => p.1) vf y.1 it y.2.1 y.2.2.2.2) (fun y => [(0, .pointer (some ⟨g, 0, none⟩)), (1, .int .u64 hh), (29, it)]) (fun y => [[(g, .cells [.bool true, .int .u64 S.head, .int .u64 hh, .int .i64 ((cnt (fun x => x.t.obr) y.2.1 qs : Nat) : Int), vf, vr].toArray 98 (0, 0))], y.2.2.1, Sf, y.2.2.2.1, y.2.2.2.2, Tr, Sr, rowSeg ps]) (fun y => y.2.1.length) (Mf, Mf.map (·.1), Tf, [], Ti0) ⟨CX.start h1_ hqm, hit0⟩ ((((EnvLe.nil _).cons rfl).cons rfl).cons rfl) ((HLe.pick [1, 1, 1, 0, 0, 0, 0] _).trans (HLe.ofPerm (by simp [take, dropAt, hc0, setL]))) ?_
    rintro ⟨M1, todo, Tm, Sn, Ti⟩ ⟨hcx, hit⟩
    simp only at hcx hit ⊢
    have hcl := cnt_le (key := fun x : SRow => x.t.obr) (todo := todo) (qs := qs)
    refine .seq ?_
    refine .region ?_
    refine TriOps.nextB hit (fun b o hb => .inr (by have hb' : (b, o) ∈ Tm := hb; simp [hb'])) rfl (fun b rest Ti2 hf ht => ?_)
    refine TriOps.q .extract ?_
    refine .nil ?_
    refine seqQ_n ?_
    refine .seq ?_
    refine .cond rfl (fun h3 => ?_) (fun h3 => ?_)
    · skip
      obtain ⟨k, ⟨v0, T0⟩, hk, hku, hitc⟩ := ht h3
      obtain ⟨pf, cf, hlk, hrs⟩ := h1_.look (R := sg Sf) (fun p hp => hp) k
      have hkm : k ∈ M1.map (·.1) := List.mem_map.2 ⟨_, mget_some hku, rfl⟩
      rw [hcx.td k hk] at hku
      rw [hku] at hlk
      simp only [Option.map_some, Option.getD_some] at hlk
      subst hlk
      have hft := filter_oneG hcx.nd hk
      have hF : RS (sg Sf) 1 encRB (.slice pf (ids (fun x => x.t.obr) k ps).length cf) (frows (fun x => x.t.obr) k ps) := RS.of_map (enc := encPt) (f := fun p : RB => p.1) hrs
      have hFl : (frows (fun x => x.t.obr) k ps).length ≤ 4096 := Nat.le_trans (List.length_filter_le _ _) hpl
      have hik : ids (fun x => x.t.obr) k qs = ((frows (fun x => x.t.obr) k ps).filter fun p => skeep hh p.2).map (·.1) := by rw [hqs]; exact ids_keep
      have hil : (ids (fun x => x.t.obr) k qs).length = ((frows (fun x => x.t.obr) k ps).filter fun p => skeep hh p.2).length := by rw [hik, List.length_map]
      have hcn := cnt_next (key := fun x : SRow => x.t.obr) hk qs
      have hcl2 := cnt_le (key := fun x : SRow => x.t.obr) (todo := todo.filter fun k' => decide (k' ≠ k)) (qs := qs)
      refine .skip ?_
      refine seqQ_n ?_
      refine .block ?_
      refine .seq ?_
      refine .region ?_
      refine TriOps.q (.entry hitc (fun b o hb => .inr (by have hb' : (b, o) ∈ Tm := hb; simp [hb'])) rfl) ?_
      refine TriOps.q .extract ?_
      refine TriOps.q .extract ?_
      refine TriOps.allocA (fun b5 => ?_)
      refine TriOps.storeA rfl rfl ?_
      refine TriOps.q .assign ?_
      refine .nil ?_
      refine seqQ_n ?_
      refine .seq ?_
      refine .region_all [8] mixed ?_
      refine RA.takeO 0 rfl .move (by kernel_rfl) ?_
      refine RA.takeO 1 rfl (.nilCheck rfl) (by kernel_rfl) ?_
      refine RA.takeO 2 rfl (.fieldAddr rfl) (by kernel_rfl) ?_
      refine RA.takeO 3 rfl (.load1 rfl) (by kernel_rfl) ?_
      refine RA.takeO 4 rfl (.loadA rfl) (by kernel_rfl) ?_
      refine RA.takeO 5 rfl .move (by kernel_rfl) ?_
      refine RA.takeO 6 rfl .move (by kernel_rfl) ?_
      refine RA.step 7 rfl (by kernel_rfl) rfl ?_
      refine TriOps.callN (prune_spec _ (frows (fun x => x.t.obr) k ps) hh _ (hF.mono fun b o hb => .inr (by have hb' : (b, o) ∈ Sf := hb; simp [hb'])) (fun p hp => (hrow p (List.mem_filter.1 hp).1).mono fun b o hb => .inr (by have hb' : (b, o) ∈ rowSeg ps := hb; simp [hb'])) (by omega)) (fun u T1 hO => ?_)
      have iu := hO.oneCell
      refine .nil (Next.sub ?_)
      refine RA.step 8 rfl (by kernel_rfl) rfl ?_
      refine TriOps.update (key := k) (u := (u, T1)) hcx.ms rfl rfl rfl (fun Tm2 hM2 hit2 => ?_)
      refine .nil (Next.mod rfl ?_)
      refine RA.nil (by kernel_rfl) ?_
      refine seqQ_n ?_
      refine .seq ?_
      refine .region_tail 14 mixed (by kernel_rfl) ?_
      conv => arg 6; dsimp only [List.take]
      refine TriOps.q .move ?_
      refine TriOps.q (.nilCheck rfl) ?_
      refine TriOps.q (.fieldAddr rfl) ?_
      refine TriOps.q (.load1 rfl) ?_
      refine TriOps.q .move ?_
      refine TriOps.q (.nilCheck rfl) ?_
      refine TriOps.q (.fieldAddr rfl) ?_
      refine TriOps.q (.load1 rfl) ?_
      refine TriOps.q (.loadA rfl) ?_
      refine TriOps.q (.lookupE hM2.rx rfl (key := k) rfl (show _ = u from by rw [mget_mset, if_pos rfl]; rfl)) ?_
      refine TriOps.q (.lenO hO) ?_
      refine TriOps.q (.i64 ((cnt (fun x : SRow => x.t.obr) todo qs + ((frows (fun x => x.t.obr) k ps).filter fun p => skeep hh p.2).length : Nat) : Int) .add ⟨by omega, by omega, by omega⟩) ?_
      refine TriOps.q (.nilCheck rfl) ?_
      refine TriOps.q (.fieldAddr rfl) ?_
      refine .nil ?_
      refine TriOps.store1 rfl rfl ?_
      refine .nil ?_
      refine seqQ_n ?_
      refine .seq ?_
      refine .region_still mixed (by kernel_rfl) ?_
      refine TriOps.q .move ?_
      refine TriOps.q (.nilCheck rfl) ?_
      refine TriOps.q (.fieldAddr rfl) ?_
      refine TriOps.q (.load1 rfl) ?_
      refine TriOps.q (.loadA rfl) ?_
      refine TriOps.q (.lookupE hM2.rx rfl (key := k) rfl (show _ = u from by rw [mget_mset, if_pos rfl]; rfl)) ?_
      refine TriOps.q (.lenO hO) ?_
      refine TriOps.q .eqI ?_
      refine .nil ?_
      refine seqQ_n ?_
      refine .cond rfl (fun h4 => ?_) (fun h4 => ?_)
      · skip
        refine .region_tail 5 mixed (by kernel_rfl) ?_
        conv => arg 6; dsimp only [List.take]
        refine TriOps.q .move ?_
        refine TriOps.q (.nilCheck rfl) ?_
        refine TriOps.q (.fieldAddr rfl) ?_
        refine TriOps.q (.load1 rfl) ?_
        refine TriOps.q (.loadA rfl) ?_
        refine .nil ?_
        refine TriOps.delete (key := k) hM2 rfl rfl (fun Tm3 hM3 hit3 => ?_)
        refine .nil ?_
        refine blkQ_n ?_
        first
          | refine loopQ_i (mdel k (mset k (u, T1) M1), todo.filter fun k' => decide (k' ≠ k), Tm3, Sn, Ti2) ⟨hcx.drop hk hM3 (List.eq_nil_of_length_eq_zero (by have := eq_of_beq h4; omega)), by have h9 := hit3 _ _ _ (hit2 hkm _ _ _ hitc.it); rwa [List.filter_filter, show (fun a => decide (a ≠ k) && decide (a ≠ k)) = fun a : Obr => decide (a ≠ k) from funext fun a => Bool.and_self _] at h9⟩ (by have := hft.length_eq; simp only [List.length_cons] at this; simp only; omega) ((((EnvLe.nil _).cons rfl).cons rfl).cons rfl) (by simp only [hcn, hil]; exact (HLe.pick [2, 2, 2, 2, 2, 2, 2, 2] _).trans (HLe.ofPerm (by simp [take, dropAt, setL])))
          | refine loopQ_i (mset k (u, T1) M1, todo.filter fun k' => decide (k' ≠ k), Tm2, T1 ++ Sn, Ti2) ⟨hcx.keep hk hM2 (by rw [hik]; exact OS.to_map (enc := encPt) (f := fun p : RB => p.1) hO) (fun e => by have h7 := beq_eq_false_iff_ne.1 h4; have h8 : (ids (fun x => x.t.obr) k qs).length = 0 := (congrArg List.length e); omega), hit2 hkm _ _ _ hitc.it⟩ (by have := hft.length_eq; simp only [List.length_cons] at this; simp only; omega) ((((EnvLe.nil _).cons rfl).cons rfl).cons rfl) (by simp only [hcn, hil]; exact (HLe.pick [2, 2, 2, 0, 1, 1, 1, 1, 1] _).trans (HLe.ofPerm (by simp [take, dropAt, setL])))
      · skip
        refine .skip ?_
        refine blkQ_n ?_
        first
          | refine loopQ_i (mdel k (mset k (u, T1) M1), todo.filter fun k' => decide (k' ≠ k), Tm3, Sn, Ti2) ⟨hcx.drop hk hM3 (List.eq_nil_of_length_eq_zero (by have := eq_of_beq h4; omega)), by have h9 := hit3 _ _ _ (hit2 hkm _ _ _ hitc.it); rwa [List.filter_filter, show (fun a => decide (a ≠ k) && decide (a ≠ k)) = fun a : Obr => decide (a ≠ k) from funext fun a => Bool.and_self _] at h9⟩ (by have := hft.length_eq; simp only [List.length_cons] at this; simp only; omega) ((((EnvLe.nil _).cons rfl).cons rfl).cons rfl) (by simp only [hcn, hil]; exact (HLe.pick [2, 2, 2, 2, 2, 2, 2, 2] _).trans (HLe.ofPerm (by simp [take, dropAt, setL])))
          | refine loopQ_i (mset k (u, T1) M1, todo.filter fun k' => decide (k' ≠ k), Tm2, T1 ++ Sn, Ti2) ⟨hcx.keep hk hM2 (by rw [hik]; exact OS.to_map (enc := encPt) (f := fun p : RB => p.1) hO) (fun e => by have h7 := beq_eq_false_iff_ne.1 h4; have h8 : (ids (fun x => x.t.obr) k qs).length = 0 := (congrArg List.length e); omega), hit2 hkm _ _ _ hitc.it⟩ (by have := hft.length_eq; simp only [List.length_cons] at this; simp only; omega) ((((EnvLe.nil _).cons rfl).cons rfl).cons rfl) (by simp only [hcn, hil]; exact (HLe.pick [2, 2, 2, 0, 1, 1, 1, 1, 1] _).trans (HLe.ofPerm (by simp [take, dropAt, setL])))
    · skip
      have ht0 := hf h3
      subst ht0
      have h1n := hcx.done
      rw [cnt_done]
      refine .exit (seqQ_x (loopQ_x (blkQ_x ?_)))
      refine seqQ_n ?_
      refine .seq ?_
      refine .seq ?_
      refine .region ?_
      refine TriOps.q .move ?_
      refine TriOps.q (.nilCheck rfl) ?_
      refine TriOps.q (.fieldAddr rfl) ?_
      refine TriOps.q (.load1 rfl) ?_
      refine TriOps.range (h2_.ms.rm (R := sg Tr) fun p hp => hp) (fun b o hb => .inr (by have hb' : (b, o) ∈ Tr := hb; simp [hb'])) rfl (fun it2 Ti3 hit3 => ?_)
      refine .nil ?_
      refine seqQ_n ?_
      refine .block ?_
      refine .loop (X := List (Sub × (Value × Seg)) × List Sub × Seg × Seg × Seg) (fun y => CX (fun k : Sub => .agg k.enc.toArray) (fun x => x.t.sub) qs vr Mr y.1 y.2.1 y.2.2.1 y.2.2.2.1 ∧ It (sg y.2.2.1) (fun k : Sub => .agg k.enc.toArray) (fun p : Value × Seg => p.1) vr y.1 it2 y.2.1 y.2.2.2.2) (fun y => [(0, .pointer (some ⟨g, 0, none⟩)), (1, .int .u64 hh), (74, it2)]) (fun y => [[(g, .cells [.bool true, .int .u64 S.head, .int .u64 hh, .int .i64 (qs.length : Nat), vf, vr].toArray 98 (0, 0))], Tm, Sn, y.2.2.1, Sr, y.2.2.2.1, y.2.2.2.2, rowSeg ps]) (fun y => y.2.1.length) (Mr, Mr.map (·.1), Tr, [], Ti3) ⟨CX.start h2_ hqm, hit3⟩ ((((EnvLe.nil _).cons rfl).cons rfl).cons rfl) ((HLe.pick [1, 1, 2, 3, 3, 0, 2] _).trans (HLe.ofPerm (by simp [take, dropAt]))) ?_
      rintro ⟨N1, todo, Tm4, Sn4, Ti4⟩ ⟨hcx4, hit4⟩
      simp only at hcx4 hit4 ⊢
      refine .seq ?_
      refine .region ?_
      refine TriOps.nextB hit4 (fun b o hb => .inr (by have hb' : (b, o) ∈ Tm4 := hb; simp [hb'])) rfl (fun b rest Ti2 hf ht => ?_)
      refine TriOps.q .extract ?_
      refine .nil ?_
      refine seqQ_n ?_
      refine .seq ?_
      refine .cond rfl (fun h5 => ?_) (fun h5 => ?_)
      · skip
        obtain ⟨k, ⟨v0, T0⟩, hk, hku, hitc⟩ := ht h5
        obtain ⟨pf, cf, hlk, hrs⟩ := h2_.look (R := sg Sr) (fun p hp => hp) k
        have hkm : k ∈ N1.map (·.1) := List.mem_map.2 ⟨_, mget_some hku, rfl⟩
        rw [hcx4.td k hk] at hku
        rw [hku] at hlk
        simp only [Option.map_some, Option.getD_some] at hlk
        subst hlk
        have hft := filter_oneG hcx4.nd hk
        have hF : RS (sg Sr) 1 encRB (.slice pf (ids (fun x => x.t.sub) k ps).length cf) (frows (fun x => x.t.sub) k ps) := RS.of_map (enc := encPt) (f := fun p : RB => p.1) hrs
        have hFl : (frows (fun x => x.t.sub) k ps).length ≤ 4096 := Nat.le_trans (List.length_filter_le _ _) hpl
        have hik : ids (fun x => x.t.sub) k qs = ((frows (fun x => x.t.sub) k ps).filter fun p => skeep hh p.2).map (·.1) := by rw [hqs]; exact ids_keep
        have hil : (ids (fun x => x.t.sub) k qs).length = ((frows (fun x => x.t.sub) k ps).filter fun p => skeep hh p.2).length := by rw [hik, List.length_map]
        refine .skip ?_
        refine seqQ_n ?_
        refine .block ?_
        refine .seq ?_
        refine .region ?_
        refine TriOps.q (.entry hitc (fun b o hb => .inr (by have hb' : (b, o) ∈ Tm4 := hb; simp [hb'])) rfl) ?_
        refine TriOps.q .extract ?_
        refine TriOps.q .extract ?_
        refine TriOps.allocA (fun b7 => ?_)
        refine TriOps.storeA rfl rfl ?_
        refine TriOps.q .assign ?_
        refine .nil ?_
        refine seqQ_n ?_
        refine .seq ?_
        refine .region_all [8] mixed ?_
        refine RA.takeO 0 rfl .move (by kernel_rfl) ?_
        refine RA.takeO 1 rfl (.nilCheck rfl) (by kernel_rfl) ?_
        refine RA.takeO 2 rfl (.fieldAddr rfl) (by kernel_rfl) ?_
        refine RA.takeO 3 rfl (.load1 rfl) (by kernel_rfl) ?_
        refine RA.takeO 4 rfl (.loadA rfl) (by kernel_rfl) ?_
        refine RA.takeO 5 rfl .move (by kernel_rfl) ?_
        refine RA.takeO 6 rfl .move (by kernel_rfl) ?_
        refine RA.step 7 rfl (by kernel_rfl) rfl ?_
        refine TriOps.callN (prune_spec _ (frows (fun x => x.t.sub) k ps) hh _ (hF.mono fun b o hb => .inr (by have hb' : (b, o) ∈ Sr := hb; simp [hb'])) (fun p hp => (hrow p (List.mem_filter.1 hp).1).mono fun b o hb => .inr (by have hb' : (b, o) ∈ rowSeg ps := hb; simp [hb'])) (by omega)) (fun u T1 hO => ?_)
        have iu := hO.oneCell
        refine .nil (Next.sub ?_)
        refine RA.step 8 rfl (by kernel_rfl) rfl ?_
        refine TriOps.update (key := k) (u := (u, T1)) hcx4.ms rfl rfl rfl (fun Tm2 hM2 hit2 => ?_)
        refine .nil (Next.mod rfl ?_)
        refine RA.nil (by kernel_rfl) ?_
        refine seqQ_n ?_
        refine .seq ?_
        refine .region_still mixed (by kernel_rfl) ?_
        refine TriOps.q .move ?_
        refine TriOps.q (.nilCheck rfl) ?_
        refine TriOps.q (.fieldAddr rfl) ?_
        refine TriOps.q (.load1 rfl) ?_
        refine TriOps.q (.loadA rfl) ?_
        refine TriOps.q (.lookupE hM2.rx rfl (key := k) rfl (show _ = u from by rw [mget_mset, if_pos rfl]; rfl)) ?_
        refine TriOps.q (.lenO hO) ?_
        refine TriOps.q .eqI ?_
        refine .nil ?_
        refine seqQ_n ?_
        refine .cond rfl (fun h6 => ?_) (fun h6 => ?_)
        · skip
          refine .region_tail 5 mixed (by kernel_rfl) ?_
          conv => arg 6; dsimp only [List.take]
          refine TriOps.q .move ?_
          refine TriOps.q (.nilCheck rfl) ?_
          refine TriOps.q (.fieldAddr rfl) ?_
          refine TriOps.q (.load1 rfl) ?_
          refine TriOps.q (.loadA rfl) ?_
          refine .nil ?_
          refine TriOps.delete (key := k) hM2 rfl rfl (fun Tm3 hM3 hit5 => ?_)
          refine .nil ?_
          refine blkQ_n ?_
          first
            | refine loopQ_i (mdel k (mset k (u, T1) N1), todo.filter fun k' => decide (k' ≠ k), Tm3, Sn4, Ti2) ⟨hcx4.drop hk hM3 (List.eq_nil_of_length_eq_zero (by have := eq_of_beq h6; omega)), by have h9 := hit5 _ _ _ (hit2 hkm _ _ _ hitc.it); rwa [List.filter_filter, show (fun a => decide (a ≠ k) && decide (a ≠ k)) = fun a : Sub => decide (a ≠ k) from funext fun a => Bool.and_self _] at h9⟩ (by have := hft.length_eq; simp only [List.length_cons] at this; simp only; omega) ((((EnvLe.nil _).cons rfl).cons rfl).cons rfl) (HLe.pick [2, 2, 2, 2, 2, 2, 2, 2] _)
            | refine loopQ_i (mset k (u, T1) N1, todo.filter fun k' => decide (k' ≠ k), Tm2, T1 ++ Sn4, Ti2) ⟨hcx4.keep hk hM2 (by rw [hik]; exact OS.to_map (enc := encPt) (f := fun p : RB => p.1) hO) (fun e => by have h7 := beq_eq_false_iff_ne.1 h6; have h8 : (ids (fun x => x.t.sub) k qs).length = 0 := (congrArg List.length e); omega), hit2 hkm _ _ _ hitc.it⟩ (by have := hft.length_eq; simp only [List.length_cons] at this; simp only; omega) ((((EnvLe.nil _).cons rfl).cons rfl).cons rfl) ((HLe.pick [2, 2, 2, 2, 2, 0, 1, 1, 1] _).trans (HLe.ofPerm (by simp [take, dropAt])))
        · skip
          refine .skip ?_
          refine blkQ_n ?_
          first
            | refine loopQ_i (mdel k (mset k (u, T1) N1), todo.filter fun k' => decide (k' ≠ k), Tm3, Sn4, Ti2) ⟨hcx4.drop hk hM3 (List.eq_nil_of_length_eq_zero (by have := eq_of_beq h6; omega)), by have h9 := hit5 _ _ _ (hit2 hkm _ _ _ hitc.it); rwa [List.filter_filter, show (fun a => decide (a ≠ k) && decide (a ≠ k)) = fun a : Sub => decide (a ≠ k) from funext fun a => Bool.and_self _] at h9⟩ (by have := hft.length_eq; simp only [List.length_cons] at this; simp only; omega) ((((EnvLe.nil _).cons rfl).cons rfl).cons rfl) (HLe.pick [2, 2, 2, 2, 2, 2, 2, 2] _)
            | refine loopQ_i (mset k (u, T1) N1, todo.filter fun k' => decide (k' ≠ k), Tm2, T1 ++ Sn4, Ti2) ⟨hcx4.keep hk hM2 (by rw [hik]; exact OS.to_map (enc := encPt) (f := fun p : RB => p.1) hO) (fun e => by have h7 := beq_eq_false_iff_ne.1 h6; have h8 : (ids (fun x => x.t.sub) k qs).length = 0 := (congrArg List.length e); omega), hit2 hkm _ _ _ hitc.it⟩ (by have := hft.length_eq; simp only [List.length_cons] at this; simp only; omega) ((((EnvLe.nil _).cons rfl).cons rfl).cons rfl) ((HLe.pick [2, 2, 2, 2, 2, 0, 1, 1, 1] _).trans (HLe.ofPerm (by simp [take, dropAt])))
      · skip
        have ht0 := hf h5
        subst ht0
        have h2n := hcx4.done
        refine .exit (seqQ_x (loopQ_x (blkQ_x ?_)))
        refine seqQ_n ?_
        refine .seq ?_
        refine .region ?_
        refine TriOps.q .assign ?_
        refine .nil ?_
        refine seqQ_n ?_
        refine .ret (retQ_r _ (.one (.tmp rfl)) ((HLe.pick [0, 0, 0, 0, 1, 2] _).trans ((HLe.ofPerm (H' := [(g, .cells [.bool true, .int .u64 S.head, .int .u64 hh, .int .i64 (qs.length : Nat), vf, vr].toArray 98 (0, 0)) :: (Tm ++ (Sn ++ (Tm4 ++ Sn4))), rowSeg ps]) (by simp [take, dropAt])).trans ((hle_rows _ ps fun p => skeep hh p.2).trans (HLe.ofPerm (H' := [(g, .cells [.bool true, .int .u64 S.head, .int .u64 hh, .int .i64 (qs.length : Nat), vf, vr].toArray 98 (0, 0)) :: (Tm ++ (Sn ++ (Tm4 ++ (Sn4 ++ rowSeg qs))))]) (by rw [hqs]; simp))))) ?_)
        refine ⟨_, rfl, by rw [hsc]; rfl, ?_⟩
        unfold scollect
        rw [if_pos hsc]
        exact ⟨qs, vf, vr, _, _, Tm, Tm4, Sn, Sn4, rfl, h1n, h2n, by rw [hqs, ← h3_, List.filter_map]; rfl⟩
end Go.Proofs.Ytkepgbimlolemaa
