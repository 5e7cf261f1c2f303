/- What the law 'WM' uses of this prover's engine, facts and walks. No condition. -/
import Derived.Test.YtconfddhmnipjaaGreatKWMD
import Derived.Test.YtconfddhmnipjaaGreatKWMG
import Derived.Test.YtconfddhmnipjaaGreatKWMI
import Derived.Test.YtconfddhmnipjaaGreatKWMN
set_option linter.unusedVariables false
set_option linter.unusedSimpArgs false
set_option maxRecDepth 4000
namespace Go.Proofs.YtconfddhmnipjaaGreat
theorem take_rep {α : Type} {l : List α} {i m : Nat} {z : α} (hi : i ≤ l.length) : (l.take i ++ List.replicate m z).take i = l.take i := by
  have h : (l.take i).length = i := by rw [List.length_take]; omega
  rw [List.take_append_of_le_length (by omega), List.take_of_length_le (by omega)]
theorem ins_grow {α : Type} {l : List α} {i : Nat} {x z : α} (hi : i < l.length) :
    let A := l.take i ++ List.replicate (l.length + 1 - i) z
    let B := A.take i ++ [x] ++ A.drop (i + 1)
    A.length = l.length + 1 ∧ B.length = l.length + 1 ∧ (B.take (i + 1) ++ l.drop i ++ B.drop (i + 1 + (l.drop i).length)).length = l.length + 1 ∧ (B.take (i + 1) ++ l.drop i ++ B.drop (i + 1 + (l.drop i).length)) = l.take i ++ [x] ++ l.drop i := by
  intro A B
  have h : (l.take i).length = i := by rw [List.length_take]; omega
  have hA : A.length = l.length + 1 := by
    show (l.take i ++ List.replicate (l.length + 1 - i) z).length = _
    rw [List.length_append, List.length_replicate, h]; omega
  have e1 : A.take i = l.take i := take_rep (by omega)
  have hB2 : B = l.take i ++ [x] ++ A.drop (i + 1) := by show A.take i ++ [x] ++ _ = _; rw [e1]
  have hB : B.length = l.length + 1 := by
    rw [hB2, List.length_append, List.length_append, List.length_drop, hA, h]
    simp only [List.length_singleton]; omega
  have hx : (l.take i ++ [x]).length = i + 1 := by rw [List.length_append, h]; rfl
  have ht : B.take (i + 1) = l.take i ++ [x] := by
    rw [hB2, List.take_append_of_le_length (by rw [hx]; exact Nat.le_refl _)]
    exact List.take_of_length_le (by rw [hx]; exact Nat.le_refl _)
  have hd : B.drop (i + 1 + (l.drop i).length) = [] := List.drop_of_length_le (by rw [hB, List.length_drop]; omega)
  have he : (B.take (i + 1) ++ l.drop i ++ B.drop (i + 1 + (l.drop i).length)) = l.take i ++ [x] ++ l.drop i := by rw [ht, hd, List.append_nil]
  refine ⟨hA, hB, ?_, he⟩
  rw [he, List.length_append, hx, List.length_drop]; omega
theorem ins_room {α : Type} {l : List α} {i : Nat} {x : α} (hi : i < l.length) :
    let A := l.take (i + 1) ++ l.drop i ++ l.drop (i + 1 + (l.drop i).length)
    A.length = l.length + 1 ∧ (A.take i ++ [x] ++ A.drop (i + 1)).length = l.length + 1 ∧ (A.take i ++ [x] ++ A.drop (i + 1)) = l.take i ++ [x] ++ l.drop i := by
  intro A
  have h : (l.take (i + 1)).length = i + 1 := by rw [List.length_take]; omega
  have hd : l.drop (i + 1 + (l.drop i).length) = [] := List.drop_of_length_le (by rw [List.length_drop]; omega)
  have hA : A = l.take (i + 1) ++ l.drop i := by show l.take (i + 1) ++ l.drop i ++ l.drop (i + 1 + (l.drop i).length) = _; rw [hd, List.append_nil]
  have e1 : A.take i = l.take i := by
    rw [hA, List.take_append_of_le_length (by omega), List.take_take]
    congr 1; omega
  have e2 : A.drop (i + 1) = l.drop i := by
    rw [hA, List.drop_append_of_le_length (by omega), List.drop_of_length_le (by omega), List.nil_append]
  have h2 : (l.take i).length = i := by rw [List.length_take]; omega
  refine ⟨by rw [hA, List.length_append, h, List.length_drop]; omega, ?_, by rw [e1, e2]⟩
  rw [e1, e2, List.length_append, List.length_append, h2, List.length_drop]
  simp only [List.length_singleton]; omega
theorem insert_spec (v : Value) (l : List Tpl) (T : Seg) (i : Nat) (x : Tpl) (bq : Nat) (R : Rds) (h : OS 70 7 Tpl.enc v l T) (hi : i ≤ l.length) (hl : l.length ≤ 100000) (hq : R bq (.cells x.enc.toArray 70 (0, 0))) :
    Spec Tryz.prog 30 [v, .int .i64 (i : Nat), .slice (some ⟨bq, 0, none⟩) 1 1] R [T] fun u H' => ∃ T', H' = [T'] ∧ OS 70 7 Tpl.enc u (l.take i ++ [x] ++ l.drop i) T' := by
  have hvs : RS R 7 Tpl.enc (.slice (some ⟨bq, 0, none⟩) 1 1) [x] := RS.litB (E := 70) (fr := (0, 0)) hq (by simp) (by simp [Tpl.enc]) (by simp [Tpl.enc, oneCell])
  obtain ⟨p, cap, rfl, hcap⟩ := h.shape
  refine Spec.body Tryz.func30 rfl Tryz.results30 Tryz.ntmps30 rfl ?_
  refine .seq (.region ?_)
  refine .q .assign ?_
  refine .nil (seqQ_n ?_)
  refine .seq (.region ?_)
  refine .q .move ?_
  refine .q .move ?_
  refine .q (.sliceE (sz := 7) i l.length ⟨_, rfl⟩ rfl (by omega) (by omega)) ?_
  refine .nil (seqQ_n ?_)
  refine .seq (.region ?_)
  refine .q .move ?_
  refine .q (.lenR hvs) ?_
  rw [List.length_singleton]
  refine .q .assign ?_
  refine .nil (seqQ_n ?_)
  refine .seq ?_
  refine .seq (.region ?_)
  refine .q .move ?_
  refine .q .eqI ?_
  refine .nil (seqQ_n ?_)
  refine .cond rfl (fun h1 => ?_) (fun h1 => ?_)
  · simp at h1
  refine .skip ?_
  refine seqQ_n ?_
  refine .seq (.region ?_)
  refine .q .move ?_
  refine .q (.lenO h) ?_
  refine .q .assign ?_
  refine .nil (seqQ_n ?_)
  refine .seq ?_
  refine .seq (.region ?_)
  refine .q .move ?_
  refine .q .move ?_
  refine .q .eqI ?_
  refine .nil (seqQ_n ?_)
  refine .cond rfl (fun h2 => ?_) (fun h2 => ?_)
  have hil : i = l.length := by have := eq_of_beq h2; omega
  subst hil
  refine .seq (.region ?_)
  refine .q .move ?_
  refine .q .move ?_
  refine TriOps.append h hvs.rx (by simp only [List.length_singleton]; omega) (fun v5 T5 hO5 => ?_)
  refine .q .assign ?_
  refine .nil (seqQ_n ?_)
  refine .ret (seqQ_r (retQ_r _ (.one (.tmp rfl)) (.one [0] _) ?_))
  · exact ⟨T5, by simp [take], by rw [List.take_length, List.drop_length, List.append_nil]; exact hO5⟩
  have hil : i < l.length := by have := beq_eq_false_iff_ne.1 h2; omega
  obtain ⟨b, off, rfl⟩ : ∃ b off, p = some ⟨b, off, none⟩ := by
    rcases h.h with ⟨_, h2, _⟩ | ⟨b, off, _, _, h1, _⟩
    · rw [h2] at hil; simp at hil
    · cases h1; exact ⟨b, off, rfl⟩
  have hdl : (l.drop i).length = l.length - i := List.length_drop
  have htl : (l.take i).length = i := by rw [List.length_take]; omega
  have htail := h.tailRS (R' := Rx R [T]) (fun p hp => .inr (by simp [hp])) i hi
  refine .skip ?_
  refine seqQ_n ?_
  refine .seq ?_
  refine .seq (.region ?_)
  refine .q .move ?_
  refine .q .move ?_
  refine .q (.i64 ((l.length + 1 : Nat) : Int) .add ⟨by omega, by omega, by omega⟩) ?_
  refine .q .move ?_
  refine .q .capV ?_
  refine .q .gtr ?_
  refine .nil (seqQ_n ?_)
  refine .cond rfl (fun h3 => ?_) (fun h3 => ?_)
  have hgr : ¬ l.length + 1 ≤ cap := by have := of_decide_eq_true h3; omega
  obtain ⟨k1, k2, k3, k4⟩ := ins_grow (x := x) (z := (⟨⟨#[]⟩, ⟨#[]⟩, ⟨#[]⟩, ⟨#[]⟩, ⟨#[]⟩, ⟨#[]⟩, ⟨#[]⟩⟩ : Tpl)) hil
  refine .seq (.region ?_)
  refine .q .move ?_
  refine .q .move ?_
  refine .q (.sliceE (sz := 7) (n := l.length) (cap := cap) (p := some ⟨b, off, none⟩) 0 i rfl ⟨_, rfl⟩ (by omega) (by omega)) ?_
  rw [pieceV_zero]
  refine .q .move ?_
  refine .q .move ?_
  refine .q (.i64 ((l.length + 1 : Nat) : Int) .add ⟨by omega, by omega, by omega⟩) ?_
  refine .q .move ?_
  refine .q (.i64 ((l.length + 1 - i : Nat) : Int) .sub ⟨by omega, by omega, by omega⟩) ?_
  refine TriOps.appendZ (xs := l.take i) (cap := cap) (p := some ⟨b, off, none⟩) (⟨⟨#[]⟩, ⟨#[]⟩, ⟨#[]⟩, ⟨#[]⟩, ⟨#[]⟩, ⟨#[]⟩, ⟨#[]⟩⟩ : Tpl) (by have := h.head i hi; rw [pieceV_zero] at this; rw [htl]; exact this) (by omega) (by rw [htl]; omega) (by rw [htl]; omega) (by simp [Tpl.enc, oneCell]) (fun v2 T2 hO2 => ?_) (by rw [htl]; rfl) rfl
  have hO2a := hO2
  obtain ⟨p2, cap2, rfl, hcap2⟩ := hO2.shape
  obtain ⟨b2, off2, rfl⟩ : ∃ b off, p2 = some ⟨b, off, none⟩ := by
    rcases hO2.h with ⟨_, h2, _⟩ | ⟨b, off, _, _, h1, _⟩
    · have := congrArg List.length h2
      rw [k1] at this; simp at this
    · cases h1; exact ⟨b, off, rfl⟩
  have k1' := k1
  rw [k1] at hcap2
  refine .q .assign ?_
  refine .nil (seqQ_n ?_)
  refine .seq (.region ?_)
  refine .q .move ?_
  refine .q .move ?_
  rw [k1]
  refine .q (.sliceE (sz := 7) (n := l.length + 1) (cap := cap2) (p := some ⟨b2, off2, none⟩) i (l.length + 1) ⟨_, rfl⟩ rfl (by omega) (by omega)) ?_
  rw [pieceV_some (by omega)]
  refine .q .move ?_
  refine TriOps.copyO (lo := i) (ys := [x]) (n := l.length + 1) hO2 hvs.rx rfl (by simp only [List.length_singleton, Nat.min_def]; split <;> omega) (by rw [k1]; omega) (by simp only [List.length_singleton]; omega) k2 (by omega) rfl rfl (fun T3 hO3 => ?_)
  refine .nil (seqQ_n ?_)
  refine .seq ?_
  refine .region_tail 8 mixed (by kernel_rfl) ?_
  conv => arg 6; dsimp only [List.take]
  refine .q .move ?_
  refine .q .move ?_
  refine .q .move ?_
  refine .q (.i64 ((i + 1 : Nat) : Int) .add ⟨by omega, by omega, by omega⟩) ?_
  have hO3' : OS 70 7 Tpl.enc (.slice (some ⟨b2, off2, none⟩) ((l.take i ++ List.replicate (l.length + 1 - i) (⟨⟨#[]⟩, ⟨#[]⟩, ⟨#[]⟩, ⟨#[]⟩, ⟨#[]⟩, ⟨#[]⟩, ⟨#[]⟩⟩ : Tpl)).take i ++ [x] ++ (l.take i ++ List.replicate (l.length + 1 - i) (⟨⟨#[]⟩, ⟨#[]⟩, ⟨#[]⟩, ⟨#[]⟩, ⟨#[]⟩, ⟨#[]⟩, ⟨#[]⟩⟩ : Tpl)).drop (i + 1)).length cap2) ((l.take i ++ List.replicate (l.length + 1 - i) (⟨⟨#[]⟩, ⟨#[]⟩, ⟨#[]⟩, ⟨#[]⟩, ⟨#[]⟩, ⟨#[]⟩, ⟨#[]⟩⟩ : Tpl)).take i ++ [x] ++ (l.take i ++ List.replicate (l.length + 1 - i) (⟨⟨#[]⟩, ⟨#[]⟩, ⟨#[]⟩, ⟨#[]⟩, ⟨#[]⟩, ⟨#[]⟩, ⟨#[]⟩⟩ : Tpl)).drop (i + 1)) T3 := by rw [k2]; exact hO3
  refine .q (.sliceE (sz := 7) (n := l.length + 1) (cap := cap2) (p := some ⟨b2, off2, none⟩) (i + 1) (l.length + 1) ⟨_, rfl⟩ rfl (by omega) (by omega)) ?_
  rw [pieceV_some (by omega)]
  refine .q .move ?_
  refine .q .move ?_
  refine .q (.sliceE (sz := 7) (n := l.length) (cap := cap) (p := some ⟨b, off, none⟩) i l.length ⟨_, rfl⟩ rfl (by omega) (by omega)) ?_
  rw [pieceV_some (by omega)]
  refine .nil ?_
  refine TriOps.copyO (lo := i + 1) (ys := l.drop i) (n := l.length + 1) hO3' (htail.mono fun b o hb => hb.imp id fun hb => by simp at hb; simp [hb]) rfl (by rw [hdl]; simp only [Nat.min_def]; split <;> omega) (by rw [k2]; omega) (by rw [hdl]; omega) k3 (by omega) rfl rfl (fun T4 hO4 => ?_)
  rw [k4] at hO4
  refine .nil (seqQ_n ?_)
  refine .seq (.region ?_)
  refine .q .move ?_
  refine .q .assign ?_
  refine .nil (seqQ_n ?_)
  refine .ret (seqQ_r (retQ_r _ (.one (.tmp rfl)) ((HLe.pick [0] _)) ?_))
  · exact ⟨T4, by simp [take, dropAt], hO4⟩
  have hroom : l.length + 1 ≤ cap := by have := of_decide_eq_false h3; omega
  obtain ⟨k1, k2, k3⟩ := ins_room (x := x) hil
  have hsz : ∃ c, T = [(b, .cells c 70 (0, 0))] ∧ c.size ≠ 0 := by
    rcases h.h with ⟨h1, _, _⟩ | ⟨b', off', c, cap', h1, h2, h3, h4, h5, _⟩
    · cases h1
    · cases h1
      exact ⟨c, h2, by omega⟩
  obtain ⟨c, hTc, hcs⟩ := hsz
  refine .skip ?_
  refine seqQ_n ?_
  refine .seq (.region ?_)
  refine .q .move ?_
  refine .q .move ?_
  refine .q .move ?_
  refine .q (.i64 ((l.length + 1 : Nat) : Int) .add ⟨by omega, by omega, by omega⟩) ?_
  refine .q (.sliceE (sz := 7) (n := l.length) (cap := cap) (p := some ⟨b, off, none⟩) 0 (l.length + 1) rfl ⟨_, rfl⟩ (by omega) (by omega)) ?_
  rw [pieceV_zero]
  refine .q .assign ?_
  refine .nil (seqQ_n ?_)
  refine .seq ?_
  refine .seq (.region ?_)
  refine .q .move ?_
  refine .q .move ?_
  refine .q .move ?_
  refine .q .move ?_
  refine .q (.i64 ((i + 1 : Nat) : Int) .add ⟨by omega, by omega, by omega⟩) ?_
  refine .q (.sliceE (sz := 7) (n := l.length + 1) (cap := cap) (p := some ⟨b, off, none⟩) (i + 1) (l.length + 1) ⟨_, rfl⟩ rfl (by omega) (by omega)) ?_
  rw [pieceV_some (by omega)]
  refine .q (.overlaps (tR := 4) (b := b) (fr := (0, 0)) Tryz.func52 (by kernel_rfl) (by kernel_rfl) (by kernel_rfl) (by kernel_rfl) fU28 inferInstance hq (by rw [hTc]; simp; rfl) hcs rfl rfl) ?_
  refine .q .not ?_
  refine .nil (seqQ_n ?_)
  refine .condT ?_
  refine .seq ?_
  refine .region_tail 8 mixed (by kernel_rfl) ?_
  conv => arg 6; dsimp only [List.take]
  refine .q .move ?_
  refine .q .move ?_
  refine .q .move ?_
  refine .q (.i64 ((i + 1 : Nat) : Int) .add ⟨by omega, by omega, by omega⟩) ?_
  refine .q (.sliceE (sz := 7) (n := l.length + 1) (cap := cap) (p := some ⟨b, off, none⟩) (i + 1) (l.length + 1) ⟨_, rfl⟩ rfl (by omega) (by omega)) ?_
  rw [pieceV_some (by omega)]
  refine .q .move ?_
  refine .q .move ?_
  refine .q (.sliceE (sz := 7) (n := l.length + 1) (cap := cap) (p := some ⟨b, off, none⟩) i (l.length + 1) ⟨_, rfl⟩ rfl (by omega) (by omega)) ?_
  rw [pieceV_some (by omega)]
  refine .nil ?_
  refine TriOps.copyO (lo := i + 1) (ys := l.drop i) (n := l.length + 1) h htail rfl (by rw [hdl]; simp only [Nat.min_def]; split <;> omega) (by omega) (by rw [hdl]; omega) k1 hroom rfl rfl (fun T3 hO3 => ?_)
  have hO3' : OS 70 7 Tpl.enc (.slice (some ⟨b, off, none⟩) (l.take (i + 1) ++ l.drop i ++ l.drop (i + 1 + (l.drop i).length)).length cap) (l.take (i + 1) ++ l.drop i ++ l.drop (i + 1 + (l.drop i).length)) T3 := by rw [k1]; exact hO3
  refine .nil (seqQ_n ?_)
  refine .seq (.region ?_)
  refine .q .move ?_
  refine .q .move ?_
  refine .q (.sliceE (sz := 7) (n := l.length + 1) (cap := cap) (p := some ⟨b, off, none⟩) i (l.length + 1) ⟨_, rfl⟩ rfl (by omega) (by omega)) ?_
  rw [pieceV_some (by omega)]
  refine .q .move ?_
  refine TriOps.copyO (lo := i) (ys := [x]) (n := l.length + 1) hO3' hvs.rx rfl (by simp only [List.length_singleton, Nat.min_def]; split <;> omega) (by rw [k1]; omega) (by simp only [List.length_singleton]; omega) k2 hroom rfl rfl (fun T4 hO4 => ?_)
  rw [List.length_singleton, k3] at hO4
  refine .nil (seqQ_n ?_)
  refine .seq (.region ?_)
  refine .q .move ?_
  refine .q .assign ?_
  refine .nil (seqQ_n ?_)
  refine .ret (seqQ_r (retQ_r _ (.one (.tmp rfl)) (.one [0] _) ?_))
  · exact ⟨T4, by simp [take, dropAt], hO4⟩
theorem del_list {α : Type} {l : List α} {i : Nat} (hi : i < l.length) :
    (l.take i ++ l.drop (i + 1) ++ l.drop (i + (l.drop (i + 1)).length)).length = l.length ∧ (l.take i ++ l.drop (i + 1) ++ l.drop (i + (l.drop (i + 1)).length)).take (l.length - 1) = l.take i ++ l.drop (i + 1) := by
  have h : (l.take i).length = i := by rw [List.length_take]; omega
  refine ⟨by simp only [List.length_append, h, List.length_drop]; omega, ?_⟩
  rw [List.take_append_of_le_length (by simp only [List.length_append, h, List.length_drop]; omega)]
  exact List.take_of_length_le (by simp only [List.length_append, h, List.length_drop]; omega)
theorem delete_spec (v : Value) (l : List Tpl) (T : Seg) (i : Nat) (R : Rds) (h : OS 70 7 Tpl.enc v l T) (hi : i < l.length) (hl : l.length ≤ 100000) :
    Spec Tryz.prog 31 [v, .int .i64 (i : Nat), .int .i64 ((i + 1 : Nat) : Int)] R [T] fun u H' => ∃ T', H' = [T'] ∧ OS 70 7 Tpl.enc u (l.take i ++ l.drop (i + 1)) T' := by
  obtain ⟨p, cap, rfl, hcap⟩ := h.shape
  obtain ⟨b, off, rfl⟩ : ∃ b off, p = some ⟨b, off, none⟩ := by
    rcases h.h with ⟨_, h2, _⟩ | ⟨b, off, _, _, h1, _⟩
    · rw [h2] at hi; simp at hi
    · cases h1; exact ⟨b, off, rfl⟩
  obtain ⟨k1, k2⟩ := del_list hi
  have hdl : (l.drop (i + 1)).length = l.length - (i + 1) := List.length_drop
  have htk : (l.drop (i + 1)).take (l.length - (i + 1)) = l.drop (i + 1) := List.take_of_length_le (by rw [hdl]; exact Nat.le_refl _)
  refine Spec.body Tryz.func31 rfl Tryz.results31 Tryz.ntmps31 rfl ?_
  refine .seq (.region ?_)
  refine .q .assign ?_
  refine .nil (seqQ_n ?_)
  refine .seq (.region ?_)
  refine .q .move ?_
  refine .q .move ?_
  refine .q .move ?_
  refine .q .move ?_
  refine .q (.lenO h) ?_
  refine .q (.sliceM (sz := 7) (n := l.length) (cap := cap) (p := some ⟨b, off, none⟩) i (i + 1) l.length rfl rfl rfl (by omega) (by omega) (by omega)) ?_
  refine .nil (seqQ_n ?_)
  refine .seq ?_
  refine .seq (.region ?_)
  refine .q .move ?_
  refine .q .move ?_
  refine .q .eqI ?_
  refine .nil (seqQ_n ?_)
  refine .cond rfl (fun h1 => ?_) (fun h1 => ?_)
  · exfalso; have := eq_of_beq h1; omega
  refine .skip ?_
  refine seqQ_n ?_
  refine .seq (.region ?_)
  refine .q .move ?_
  refine .q (.lenO h) ?_
  refine .q .assign ?_
  refine .nil (seqQ_n ?_)
  refine .seq ?_
  refine .region_tail 6 mixed (by kernel_rfl) ?_
  conv => arg 6; dsimp only [List.take]
  refine .q .move ?_
  refine .q .move ?_
  refine .q (.sliceE (sz := 7) (n := l.length) (cap := cap) (p := some ⟨b, off, none⟩) 0 i rfl ⟨_, rfl⟩ (by omega) (by omega)) ?_
  rw [pieceV_zero]
  refine .q .move ?_
  refine .q .move ?_
  refine TriOps.sliceO (i + 1) l.length h ⟨_, rfl⟩ rfl (by omega) (by omega) (fun v2 hv2 => ?_)
  rw [htk] at hv2
  have i2 := hv2.oneCell
  refine .nil ?_
  refine TriOps.appendIn (n := l.length) i h hv2.rx (by omega) (by rw [hdl]; omega) k1 (by omega) rfl rfl (fun T2 hO2 => ?_)
  have e9 : i + (l.drop (i + 1)).length = l.length - 1 := by rw [hdl]; omega
  have k1' := k1
  rw [e9] at hO2 k2 k1' ⊢
  have hhd := hO2.head (l.length - 1) (by rw [k1']; omega)
  rw [pieceV_zero] at hhd
  have hl1 : ((l.take i ++ l.drop (i + 1) ++ l.drop (l.length - 1)).take (l.length - 1)).length = l.length - 1 := by rw [List.length_take, k1']; omega
  refine .q .assign ?_
  refine .nil (seqQ_n ?_)
  refine .seq (.region ?_)
  refine .q .move ?_
  refine .q .move ?_
  refine .q (.lenO (xs := (l.take i ++ l.drop (i + 1) ++ l.drop (l.length - 1)).take (l.length - 1)) hhd) ?_
  rw [hl1]
  refine .q .move ?_
  refine .q (.sliceE (sz := 7) (n := l.length - 1) (cap := cap) (p := some ⟨b, off, none⟩) (l.length - 1) l.length ⟨_, rfl⟩ ⟨_, rfl⟩ (by omega) (by omega)) ?_
  refine TriOps.clearTail (l.length - 1) hO2 (by rw [k1']; omega) rfl (fun T3 hO3 => ?_)
  rw [k2, pieceV_zero] at hO3
  refine .nil (seqQ_n ?_)
  refine .seq (.region ?_)
  refine .q .move ?_
  refine .q .assign ?_
  refine .nil (seqQ_n ?_)
  refine .ret (retQ_r _ (.one (.tmp rfl)) (.one [0] _) ?_)
  · exact ⟨T3, by simp [take], hO3⟩
theorem half_fdiv {n : Nat} : ((n : Nat) : Int).fdiv (2 ^ min (Int.toNat 1) IntKind.u64.bits) = ((n / 2 : Nat) : Int) := by
  have h : min (Int.toNat 1) IntKind.u64.bits = 1 := by decide
  rw [h, Int.fdiv_eq_ediv_of_nonneg _ (by decide)]
  simp
theorem pos_tri {l : List Tpl} {t x y : Tpl} {m k : Nat} (hs : strict l) (hx : l[m]? = some x) (hy : l[k]? = some y) : (k ≤ m → tlt x t = true → tlt y t = true) ∧ (m ≤ k → tlt x t = false → tlt y t = false) := by
  obtain ⟨h1, h2⟩ := List.getElem?_eq_some_iff.1 hx
  obtain ⟨h3, h4⟩ := List.getElem?_eq_some_iff.1 hy
  have hp := List.pairwise_iff_getElem.1 hs
  constructor
  · intro h5 h6
    rcases Nat.lt_or_eq_of_le h5 with h7 | h7
    · have := hp k m h3 h1 h7
      rw [h2, h4] at this
      exact tlt_tr _ _ _ this h6
    · subst h7
      rw [hx] at hy; cases hy; exact h6
  · intro h5 h6
    rcases Nat.lt_or_eq_of_le h5 with h7 | h7
    · have := hp m k h1 h3 h7
      rw [h2, h4] at this
      cases h8 : tlt y t with
      | false => rfl
      | true => rw [tlt_tr _ _ _ this h8] at h6; cases h6
    · subst h7
      rw [hx] at hy; cases hy; exact h6
theorem bsearch_spec (v : Value) (l : List Tpl) (t : Tpl) (R : Rds) (h : RS R 7 Tpl.enc v l) (hs : strict l) (hl : l.length ≤ 100000) :
    Spec Tryz.prog 28 [v, .agg t.enc.toArray, .func (.func 29) #[] #[]] R [] fun u H' => (∃ (i : Nat) (β : Bool), u = .tuple [.int .i64 (i : Nat), .bool β].toArray ∧ i ≤ l.length ∧ (∀ k x, k < i → l[k]? = some x → tlt x t = true) ∧ (∀ k x, i ≤ k → l[k]? = some x → tlt x t = false) ∧ (β = true ↔ l[i]? = some t)) ∧ H' = [] := by
  obtain ⟨pv, kv_, rfl⟩ := h.val
  have hrs := h
  refine Spec.body Tryz.func28 rfl Tryz.results28 Tryz.ntmps28 rfl ?_
  refine .seq (.region ?_)
  refine TriOps.boxA rfl (fun b4 => ?_)
  refine .q .assign ?_
  refine .q .assign ?_
  refine .nil (seqQ_n ?_)
  refine .seq (.region ?_)
  refine .q .move ?_
  refine .q (.lenR hrs) ?_
  refine .q .assign ?_
  refine .nil (seqQ_n ?_)
  refine .seq (.region ?_)
  refine .q .move ?_
  refine .q .assign ?_
  refine .q .assign ?_
  refine .nil (seqQ_n ?_)
  refine .seq ?_
  refine .block ?_
  refine .loop (X := Nat × Nat) (fun y => (y.1 ≤ y.2 ∧ y.2 ≤ l.length) ∧ (∀ k x, k < y.1 → l[k]? = some x → tlt x t = true) ∧ (∀ k x, y.2 ≤ k → l[k]? = some x → tlt x t = false)) (fun y => [(0, .slice pv l.length kv_), (2, .func (.func 29) #[] #[]), (4, .pointer (some ⟨b4, 0, none⟩)), (8, .int .i64 (l.length : Nat)), (9, .int .i64 (y.1 : Nat)), (10, .int .i64 (y.2 : Nat))]) (fun _ => [[(b4, .cells t.enc.toArray 70 (0, 0))]]) (fun y => y.2 - y.1) (0, l.length) ⟨⟨Nat.zero_le _, Nat.le_refl _⟩, fun k x hk => absurd hk (Nat.not_lt_zero _), fun k x hk hx => absurd (List.getElem?_eq_some_iff.1 hx).1 (by omega)⟩ (((((((EnvLe.nil _).cons rfl).cons rfl).cons rfl).cons rfl).cons rfl).cons rfl) (HLe.refl _) ?_
  rintro ⟨i, j⟩ ⟨⟨hij, hjn⟩, hA, hB⟩
  simp only at hij hjn hA hB ⊢
  refine .seq ?_
  refine .seq (.region ?_)
  refine .q .move ?_
  refine .q .move ?_
  refine .q .lss ?_
  refine .nil (seqQ_n ?_)
  refine .cond rfl (fun h1 => ?_) (fun h1 => ?_)
  have hlt : i < j := by have := of_decide_eq_true h1; omega
  refine .skip ?_
  refine seqQ_n ?_
  refine .block ?_
  refine .seq (.region ?_)
  refine .q .move ?_
  refine .q .move ?_
  refine .q (.i64 ((i + j : Nat) : Int) .add ⟨by omega, by omega, by omega⟩) ?_
  refine .q (.u64 ((i + j : Nat) : Int) .convI ⟨rfl, by omega, by omega⟩) ?_
  refine .q .shrI ?_
  rw [half_fdiv]
  refine .q (.i64 (((i + j) / 2 : Nat) : Int) .convI ⟨rfl, by omega, by omega⟩) ?_
  obtain ⟨m, hm⟩ : ∃ m, m = (i + j) / 2 := ⟨_, rfl⟩
  rw [← hm]
  obtain ⟨x, hx⟩ : ∃ x, l[m]? = some x := ⟨_, List.getElem?_eq_getElem (by omega)⟩
  refine .q .assign ?_
  refine .nil (seqQ_n ?_)
  refine .seq ?_
  refine .region_tail 6 mixed (by kernel_rfl) ?_
  conv => arg 6; dsimp only [List.take]
  refine .q .move ?_
  refine .q .move ?_
  refine .q .move ?_
  refine TriOps.indexR m hrs hx (fun p27 => ?_)
  refine .q (.loadA rfl) ?_
  refine .q (.loadA rfl) ?_
  refine .nil ?_
  refine TriOps.callRV (first := []) (captured := []) (vs := [.agg x.enc.toArray, .agg t.enc.toArray]) (worder_spec x t _) (fun u hu => ?_)
  subst hu
  refine .q .lss ?_
  refine .nil (seqQ_n ?_)
  refine .cond rfl (fun h2 => ?_) (fun h2 => ?_)
  have hlx : tlt x t = true := by have := of_decide_eq_true h2; unfold tlt; rw [ordc_neg] at this; exact decide_eq_true this
  refine .region ?_
  refine .q .move ?_
  refine .q (.i64 ((m + 1 : Nat) : Int) .add ⟨by omega, by omega, by omega⟩) ?_
  refine .q .assign ?_
  refine .nil ?_
  refine blkQ_n ?_
  · first
      | exact loopQ_i (m + 1, j) ⟨⟨by simp only; omega, hjn⟩, fun k y hk hy => (pos_tri hs hx hy).1 (by simp only at hk; omega) hlx, hB⟩ (by simp only; omega) (((((((EnvLe.nil _).cons rfl).cons rfl).cons rfl).cons rfl).cons rfl).cons rfl) (HLe.refl _)
      | exact loopQ_i (i, m) ⟨⟨by simp only; omega, by simp only; omega⟩, hA, fun k y hk hy => (pos_tri hs hx hy).2 hk hlx⟩ (by simp only; omega) (((((((EnvLe.nil _).cons rfl).cons rfl).cons rfl).cons rfl).cons rfl).cons rfl) (HLe.refl _)
  have hlx : tlt x t = false := by have := of_decide_eq_false h2; unfold tlt; rw [ordc_neg] at this; exact decide_eq_false this
  refine .region ?_
  refine .q .move ?_
  refine .q .assign ?_
  refine .nil ?_
  refine blkQ_n ?_
  · first
      | exact loopQ_i (m + 1, j) ⟨⟨by simp only; omega, hjn⟩, fun k y hk hy => (pos_tri hs hx hy).1 (by simp only at hk; omega) hlx, hB⟩ (by simp only; omega) (((((((EnvLe.nil _).cons rfl).cons rfl).cons rfl).cons rfl).cons rfl).cons rfl) (HLe.refl _)
      | exact loopQ_i (i, m) ⟨⟨by simp only; omega, by simp only; omega⟩, hA, fun k y hk hy => (pos_tri hs hx hy).2 hk hlx⟩ (by simp only; omega) (((((((EnvLe.nil _).cons rfl).cons rfl).cons rfl).cons rfl).cons rfl).cons rfl) (HLe.refl _)
  have hij2 : i = j := by have := of_decide_eq_false h1; omega
  subst hij2
  refine .exit (seqQ_x (loopQ_x (blkQ_x ?_)))
  refine seqQ_n ?_
  refine .seq ?_
  refine .region_all [] mixed ?_
  refine .takeO 0 rfl .move (by kernel_rfl) ?_
  refine .takeO 1 rfl .move (by kernel_rfl) ?_
  refine .takeO 2 rfl .move (by kernel_rfl) ?_
  refine .takeO 3 rfl .lss (by kernel_rfl) ?_
  refine .takeO 4 rfl .move (by kernel_rfl) ?_
  refine RA.split (t := 39) rfl (fun g8_4 => ?_) (fun g8_4 => ?_)
  have hlt8 : i < l.length := by have := of_decide_eq_true g8_4; omega
  obtain ⟨x, hx⟩ : ∃ x, l[i]? = some x := ⟨_, List.getElem?_eq_getElem hlt8⟩
  have pxi := hrs.pc hx
  refine .takeGhO 5 rfl rfl g8_4 .move (by kernel_rfl) ?_
  refine .takeGhO 6 rfl rfl g8_4 .move (by kernel_rfl) ?_
  refine .takeGhO 7 rfl rfl g8_4 .move (by kernel_rfl) ?_
  refine .takeGhO 8 rfl rfl g8_4 (.indexR i hrs hx rfl rfl rfl) (by kernel_rfl) ?_
  refine .takeGhO 9 rfl rfl g8_4 (.loadA rfl) (by kernel_rfl) ?_
  refine .takeGhO 10 rfl rfl g8_4 (.loadA rfl) (by kernel_rfl) ?_
  refine RA.step 11 rfl (by kernel_rfl) rfl ?_
  refine TriOps.gT g8_4 ?_
  refine TriOps.callRV (first := []) (captured := []) (vs := [.agg x.enc.toArray, .agg t.enc.toArray]) (worder_spec x t _) (fun u hu => ?_)
  subst hu
  refine .nil (Next.sub ?_)
  refine .takeGhO 12 rfl rfl g8_4 .eqI (by kernel_rfl) ?_
  refine .takeO 13 rfl (.pickTh g8_4) (by kernel_rfl) ?_
  refine .takeO 14 rfl .assign (by kernel_rfl) ?_
  refine .takeO 15 rfl .assign (by kernel_rfl) ?_
  refine RA.nil (by kernel_rfl) ?_
  refine seqQ_n ?_
  refine .ret (retQ_r _ (.two (.tmp rfl) (.tmp rfl)) (.none _) ?_)
  · refine ⟨⟨i, _, rfl, hjn, hA, hB, ?_⟩, rfl⟩
    rw [hx, Option.some.injEq]
    constructor
    · exact fun h => ordc_zero (eq_of_beq h)
    · exact fun h => by rw [h]; exact beq_iff_eq.2 (ordc_ok.refl t)
  refine .takeFh 5 rfl rfl g8_4 rfl (by kernel_rfl) ?_
  refine .takeFh 6 rfl rfl g8_4 rfl (by kernel_rfl) ?_
  refine .takeFh 7 rfl rfl g8_4 rfl (by kernel_rfl) ?_
  refine .takeFh 8 rfl rfl g8_4 rfl (by kernel_rfl) ?_
  refine .takeFh 9 rfl rfl g8_4 rfl (by kernel_rfl) ?_
  refine .takeFh 10 rfl rfl g8_4 rfl (by kernel_rfl) ?_
  refine RA.step 11 rfl (by kernel_rfl) rfl ?_
  refine TriOps.gF g8_4 ?_
  refine .nil (Next.sub ?_)
  refine .takeFh 12 rfl rfl g8_4 rfl (by kernel_rfl) ?_
  refine .takeO 13 rfl (.pickFh g8_4) (by kernel_rfl) ?_
  refine .takeO 14 rfl .assign (by kernel_rfl) ?_
  refine .takeO 15 rfl .assign (by kernel_rfl) ?_
  refine RA.nil (by kernel_rfl) ?_
  refine seqQ_n ?_
  refine .ret (retQ_r _ (.two (.tmp rfl) (.tmp rfl)) (.none _) ?_)
  · refine ⟨⟨i, _, rfl, hjn, hA, hB, ?_⟩, rfl⟩
    have hge := of_decide_eq_false g8_4
    rw [List.getElem?_eq_none (by omega)]
    simp
/-- One event more. -/
def replay1 (l : List Tpl) (e : Ev) : List Tpl := if e.c.put then (if e.c.t ∈ l then l else gins tlt e.c.t l) else l.filter fun t => decide (t ≠ e.c.t)
theorem gins_at {l : List Tpl} {t : Tpl} : ∀ {i : Nat}, i ≤ l.length → (∀ k x, k < i → l[k]? = some x → tlt x t = true) → (∀ k x, i ≤ k → l[k]? = some x → tlt x t = false) → t ∉ l → gins tlt t l = l.take i ++ [t] ++ l.drop i := by
  induction l with
  | nil => intro i _ _ _ _; simp [gins]
  | cons y l ih =>
    intro i hi hA hB hn
    cases i with
    | zero =>
      have h1 := hB 0 y (Nat.le_refl _) rfl
      have h2 : tlt t y = true := by
        rcases tlt_tri (a := t) (b := y) (fun e => hn (by rw [e]; simp)) with h | h
        · exact h
        · rw [h1] at h; cases h
      simp [gins, h2]
    | succ i =>
      have h1 := hA 0 y (Nat.succ_pos _) rfl
      have h2 := ih (i := i) (by simpa using hi) (fun k x hk hx => hA (k + 1) x (by omega) (by simpa using hx)) (fun k x hk hx => hB (k + 1) x (by omega) (by simpa using hx)) (fun h => hn (by simp [h]))
      simp [gins, tlt_asym h1, h2]
theorem filter_at {l : List Tpl} {t : Tpl} {i : Nat} (hs : strict l) (h : l[i]? = some t) : l.filter (fun x => decide (x ≠ t)) = l.take i ++ l.drop (i + 1) := by
  obtain ⟨h1, h2⟩ := List.getElem?_eq_some_iff.1 h
  have hp := List.pairwise_iff_getElem.1 hs
  have e : l = l.take i ++ t :: l.drop (i + 1) := by
    rw [← h2, ← List.drop_eq_getElem_cons h1, List.take_append_drop]
  have hne : ∀ k y, k ≠ i → l[k]? = some y → y ≠ t := fun k y hk hy he => by
    obtain ⟨h3, h4⟩ := List.getElem?_eq_some_iff.1 hy
    rcases Nat.lt_or_gt_of_ne hk with h5 | h5
    · have := hp k i h3 h1 h5
      rw [h2, h4, he, tlt_irr] at this; cases this
    · have := hp i k h1 h3 h5
      rw [h2, h4, he, tlt_irr] at this; cases this
  conv => lhs; rw [e]
  rw [List.filter_append, List.filter_cons, if_neg (by simp)]
  congr 1
  · rw [List.filter_eq_self]
    intro y hy
    obtain ⟨k, hk, hky⟩ := List.mem_iff_getElem.1 hy
    rw [List.length_take] at hk
    rw [List.getElem_take] at hky
    exact decide_eq_true (hne k y (by omega) (by rw [← hky]; exact List.getElem?_eq_getElem (by omega)))
  · rw [List.filter_eq_self]
    intro y hy
    obtain ⟨k, hk, hky⟩ := List.mem_iff_getElem.1 hy
    rw [List.length_drop] at hk
    rw [List.getElem_drop] at hky
    exact decide_eq_true (hne (i + 1 + k) y (by omega) (by rw [← hky]; exact List.getElem?_eq_getElem (by omega)))
theorem replay1_strict {l : List Tpl} (h : strict l) (e : Ev) : strict (replay1 l e) := by
  unfold replay1
  split
  · split
    · exact h
    · rename_i h1
      exact gins_strict tlt_tr h fun y hy => tlt_tri fun e => h1 (e ▸ hy)
  · exact h.sublist List.filter_sublist
theorem replay1_len {l : List Tpl} (e : Ev) : (replay1 l e).length ≤ l.length + 1 := by
  unfold replay1
  split
  · split
    · omega
    · rw [gins_len]; exact Nat.le_refl _
  · exact Nat.le_trans (List.length_filter_le _ _) (by omega)
theorem replay1_same {L : List Tpl} {e : Ev} {β : Bool} (hm : β = true ↔ e.c.t ∈ L) (h1 : (e.c.put && !β) = false) (h2 : (!e.c.put && β) = false) : replay1 L e = L := by
  unfold replay1
  cases hp : e.c.put with
  | true =>
    rw [hp] at h1
    rw [if_pos rfl, if_pos (hm.1 (by simpa using h1))]
  | false =>
    rw [hp] at h2
    have hb : β = false := by simpa using h2
    have hn : e.c.t ∉ L := fun h => by rw [hm.2 h] at hb; cases hb
    rw [if_neg (by simp), List.filter_eq_self]
    intro y hy
    exact decide_eq_true fun e => hn (e ▸ hy)
theorem foldl_strict : ∀ {l : List Tpl}, strict l → ∀ es : List Ev, strict (es.foldl replay1 l)
  | _, h, [] => h
  | _, h, e :: es => foldl_strict (replay1_strict h e) es
theorem foldl_len : ∀ {l : List Tpl} (es : List Ev), (es.foldl replay1 l).length ≤ l.length + es.length
  | l, [] => by simp
  | l, e :: es => by
    have h1 := foldl_len (l := replay1 l e) es
    have h2 := replay1_len (l := l) e
    rw [List.foldl_cons, List.length_cons]
    omega
theorem replay_spec (v w : Value) (l : List Tpl) (es : List Ev) (R : Rds) (h : RS R 7 Tpl.enc v l) (hs : strict l) (hl : l.length ≤ 10000) (he : RS R 9 Ev.enc w es) (hel : es.length ≤ 20000) :
    Spec Tryz.prog 10 [v, w] R [] fun u H' => ∃ T, H' = [T] ∧ OS 70 7 Tpl.enc u (es.foldl replay1 l) T := by
  have iv := h.oneCell
  obtain ⟨pw, kw_, rfl⟩ := he.val
  have hrs := he
  refine Spec.body Tryz.func10 rfl Tryz.results10 Tryz.ntmps10 rfl ?_
  refine .seq (.region ?_)
  refine .q .assign ?_
  refine .nil (seqQ_n ?_)
  refine .seq (.region ?_)
  refine .q .move ?_
  refine TriOps.callN (LTP.clone_spec _ l _ h.rx (by omega)) (fun u T0 hO => ?_)
  have iu := hO.oneCell
  refine .q .assign ?_
  refine .nil (seqQ_n ?_)
  refine .seq ?_
  refine .seq (.region ?_)
  refine .q .move ?_
  refine .q (.lenR hrs) ?_
  refine .q .move ?_
  refine .nil (seqQ_n ?_)
  refine .block ?_
  refine .loop (X := Nat × Value × Seg) (fun y => y.1 ≤ es.length ∧ OS 70 7 Tpl.enc y.2.1 ((es.take y.1).foldl replay1 l) y.2.2) (fun y => [(5, y.2.1), (12, .slice pw es.length kw_), (13, .int .i64 (es.length : Nat)), (14, .int .i64 (y.1 : Nat))]) (fun y => [y.2.2]) (fun y => es.length - y.1) (0, u, T0) ⟨Nat.zero_le _, hO⟩ (((((EnvLe.nil _).cons rfl).cons rfl).cons rfl).cons rfl) (HLe.refl _) ?_
  rintro ⟨i, vo, To⟩ ⟨hi, hOo⟩
  simp only at hi hOo ⊢
  have io := hOo.oneCell
  obtain ⟨L, hL⟩ : ∃ L, L = (es.take i).foldl replay1 l := ⟨_, rfl⟩
  rw [← hL] at hOo
  have hsl : strict L := by rw [hL]; exact foldl_strict hs _
  have hll : L.length ≤ 30000 := by
    have := foldl_len (l := l) (es.take i)
    rw [List.length_take] at this
    rw [hL]; omega
  refine .seq (.region ?_)
  refine .q .lss ?_
  refine .nil (seqQ_n ?_)
  refine .seq ?_
  refine .cond rfl (fun h1 => ?_) (fun h1 => ?_)
  have hlt : i < es.length := by have := of_decide_eq_true h1; omega
  obtain ⟨e, hx⟩ : ∃ x, es[i]? = some x := ⟨_, List.getElem?_eq_getElem hlt⟩
  have htk : (es.take (i + 1)).foldl replay1 l = replay1 L e := by rw [List.take_add_one, hx, Option.toList_some, List.foldl_append, hL]; rfl
  refine .skip ?_
  refine seqQ_n ?_
  refine .seq ?_
  refine .block ?_
  refine .seq (.region ?_)
  refine TriOps.indexR i hrs hx (fun p16 => ?_)
  refine .q (.loadA rfl) ?_
  refine TriOps.allocA (fun b7 => ?_)
  refine TriOps.storeA rfl rfl ?_
  refine .nil (seqQ_n ?_)
  refine .seq (.region ?_)
  refine .q .move ?_
  refine .q (.fieldAddr rfl) ?_
  refine .q (.fieldAddr rfl) ?_
  refine .q (.loadT rfl) ?_
  refine TriOps.callR (bsearch_spec _ L e.c.t _ hOo.rx hsl (by omega)) (fun u hu => ?_)
  obtain ⟨j, β, rfl, hj, hA, hB, hβ⟩ := hu
  have hmem : β = true ↔ e.c.t ∈ L := by
    rw [hβ]
    constructor
    · exact fun h => List.mem_of_getElem? h
    · intro h
      obtain ⟨k, hk, hkt⟩ := List.mem_iff_getElem.1 h
      have h1 : L[k]? = some e.c.t := by rw [List.getElem?_eq_getElem hk, hkt]
      rcases Nat.lt_trichotomy k j with h2 | h2 | h2
      · have := hA k _ h2 h1
        rw [tlt_irr] at this; cases this
      · rw [← h2]; exact h1
      · obtain ⟨y, hy⟩ : ∃ y, L[j]? = some y := ⟨_, List.getElem?_eq_getElem (by omega)⟩
        have h3 := hB j y (Nat.le_refl _) hy
        obtain ⟨h4, h5⟩ := List.getElem?_eq_some_iff.1 hy
        have h6 := List.pairwise_iff_getElem.1 hsl j k h4 hk h2
        rw [h5, hkt, h3] at h6; cases h6
  refine .q .move ?_
  refine .q .extract ?_
  refine .q .extract ?_
  refine .q .assign ?_
  refine .q .assign ?_
  refine .nil (seqQ_n ?_)
  refine .block ?_
  refine .seq (.region ?_)
  refine .q (.fieldAddr rfl) ?_
  refine .q (.fieldAddr rfl) ?_
  refine .q (.load1 rfl) ?_
  refine .q .move ?_
  refine TriOps.split (t := 30) rfl (fun g6_3 => ?_) (fun g6_3 => ?_)
  refine TriOps.gT g6_3 ?_
  refine .q .move ?_
  refine TriOps.gT g6_3 ?_
  refine .q .not ?_
  refine .q (.pickTh g6_3) ?_
  refine .q .assign ?_
  refine .nil (seqQ_n ?_)
  refine .cond rfl (fun h2 => ?_) (fun h2 => ?_)
  have hnm : e.c.t ∉ L := fun h => by rw [hmem.2 h] at h2; cases h2
  have hres : replay1 L e = L.take j ++ [e.c.t] ++ L.drop j := by unfold replay1; rw [if_pos g6_3, if_neg hnm]; exact gins_at hj hA hB hnm
  refine .region ?_
  refine .q .move ?_
  refine .q .move ?_
  refine .q (.fieldAddr rfl) ?_
  refine .q (.fieldAddr rfl) ?_
  refine .q (.loadT rfl) ?_
  refine TriOps.buildSlice1A (fun b39 => ?_)
  refine TriOps.callW (insert_spec vo L To j e.c.t b39 _ hOo hj (by omega) (.inr (List.mem_flatten.2 ⟨_, List.mem_cons_self, List.mem_cons_self⟩))) (fun u7 T7 hO7 => ?_)
  have i7 := hO7.oneCell
  rw [← hres, ← htk] at hO7
  refine .q .assign ?_
  refine .nil ?_
  refine blkQ_n (blkQ_n (seqQ_n ?_))
  refine .region ?_
  refine .q (.i64 ((i + 1 : Nat) : Int) .add ⟨by omega, by omega, by omega⟩) ?_
  refine .q .move ?_
  refine .nil ?_
  · first
      | exact loopQ_i (i + 1, u7, T7) ⟨hlt, hO7⟩ (by simp only; omega) (((((EnvLe.nil _).cons rfl).cons rfl).cons rfl).cons rfl) (by first | exact HLe.pick [2] _ | exact HLe.pick [1] _)
      | exact loopQ_i (i + 1, vo, To) ⟨hlt, by simp only; rw [htk, replay1_same hmem (by simp_all) (by simp_all)]; exact hOo⟩ (by simp only; omega) (((((EnvLe.nil _).cons rfl).cons rfl).cons rfl).cons rfl) (HLe.pick [1] _)
  refine .seq (.region ?_)
  refine .q (.fieldAddr rfl) ?_
  refine .q (.fieldAddr rfl) ?_
  refine .q (.load1 rfl) ?_
  refine .q .not ?_
  refine .q .move ?_
  refine TriOps.split (t := 46) rfl (fun g8_4 => ?_) (fun g8_4 => ?_)
  have hpf : e.c.put = false := by simpa using g8_4
  refine TriOps.gT g8_4 ?_
  refine .q .move ?_
  refine .q (.pickTh g8_4) ?_
  refine .q .assign ?_
  refine .nil (seqQ_n ?_)
  refine .cond rfl (fun h3 => ?_) (fun h3 => ?_)
  have hb3 : β = true := by simpa using h3
  have hjt : L[j]? = some e.c.t := hβ.1 hb3
  have hjl : j < L.length := (List.getElem?_eq_some_iff.1 hjt).1
  refine .region ?_
  refine .q .move ?_
  refine .q .move ?_
  refine .q .move ?_
  refine .q (.i64 ((j + 1 : Nat) : Int) .add ⟨by omega, by omega, by omega⟩) ?_
  refine TriOps.callM (delete_spec vo L To j _ hOo hjl (by omega)) (fun u7 T7 hO7 => ?_)
  have i7 := hO7.oneCell
  have hres : replay1 L e = L.take j ++ L.drop (j + 1) := by unfold replay1; rw [if_neg (by rw [hpf]; simp)]; exact filter_at hsl hjt
  rw [← hres, ← htk] at hO7
  refine .q .assign ?_
  refine .nil ?_
  refine blkQ_n (blkQ_n (seqQ_n ?_))
  refine .region ?_
  refine .q (.i64 ((i + 1 : Nat) : Int) .add ⟨by omega, by omega, by omega⟩) ?_
  refine .q .move ?_
  refine .nil ?_
  · first
      | exact loopQ_i (i + 1, u7, T7) ⟨hlt, hO7⟩ (by simp only; omega) (((((EnvLe.nil _).cons rfl).cons rfl).cons rfl).cons rfl) (by first | exact HLe.pick [2] _ | exact HLe.pick [1] _)
      | exact loopQ_i (i + 1, vo, To) ⟨hlt, by simp only; rw [htk, replay1_same hmem (by simp_all) (by simp_all)]; exact hOo⟩ (by simp only; omega) (((((EnvLe.nil _).cons rfl).cons rfl).cons rfl).cons rfl) (HLe.pick [1] _)
  refine .skip ?_
  refine blkQ_n (blkQ_n (seqQ_n ?_))
  refine .region ?_
  refine .q (.i64 ((i + 1 : Nat) : Int) .add ⟨by omega, by omega, by omega⟩) ?_
  refine .q .move ?_
  refine .nil ?_
  · first
      | exact loopQ_i (i + 1, u7, T7) ⟨hlt, hO7⟩ (by simp only; omega) (((((EnvLe.nil _).cons rfl).cons rfl).cons rfl).cons rfl) (by first | exact HLe.pick [2] _ | exact HLe.pick [1] _)
      | exact loopQ_i (i + 1, vo, To) ⟨hlt, by simp only; rw [htk, replay1_same hmem (by simp_all) (by simp_all)]; exact hOo⟩ (by simp only; omega) (((((EnvLe.nil _).cons rfl).cons rfl).cons rfl).cons rfl) (HLe.pick [1] _)
  refine TriOps.gF g8_4 ?_
  refine .q (.pickFh g8_4) ?_
  refine .q .assign ?_
  refine .nil (seqQ_n ?_)
  refine .condF ?_
  refine .skip ?_
  refine blkQ_n (blkQ_n (seqQ_n ?_))
  refine .region ?_
  refine .q (.i64 ((i + 1 : Nat) : Int) .add ⟨by omega, by omega, by omega⟩) ?_
  refine .q .move ?_
  refine .nil ?_
  · first
      | exact loopQ_i (i + 1, u7, T7) ⟨hlt, hO7⟩ (by simp only; omega) (((((EnvLe.nil _).cons rfl).cons rfl).cons rfl).cons rfl) (by first | exact HLe.pick [2] _ | exact HLe.pick [1] _)
      | exact loopQ_i (i + 1, vo, To) ⟨hlt, by simp only; rw [htk, replay1_same hmem (by simp_all) (by simp_all)]; exact hOo⟩ (by simp only; omega) (((((EnvLe.nil _).cons rfl).cons rfl).cons rfl).cons rfl) (HLe.pick [1] _)
  refine TriOps.gF g6_3 ?_
  refine TriOps.gF g6_3 ?_
  refine .q (.pickFh g6_3) ?_
  refine .q .assign ?_
  refine .nil (seqQ_n ?_)
  refine .condF ?_
  refine .seq (.region ?_)
  refine .q (.fieldAddr rfl) ?_
  refine .q (.fieldAddr rfl) ?_
  refine .q (.load1 rfl) ?_
  refine .q .not ?_
  refine .q .move ?_
  refine TriOps.split (t := 46) rfl (fun g8_4 => ?_) (fun g8_4 => ?_)
  have hpf : e.c.put = false := by simpa using g8_4
  refine TriOps.gT g8_4 ?_
  refine .q .move ?_
  refine .q (.pickTh g8_4) ?_
  refine .q .assign ?_
  refine .nil (seqQ_n ?_)
  refine .cond rfl (fun h3 => ?_) (fun h3 => ?_)
  have hb3 : β = true := by simpa using h3
  have hjt : L[j]? = some e.c.t := hβ.1 hb3
  have hjl : j < L.length := (List.getElem?_eq_some_iff.1 hjt).1
  refine .region ?_
  refine .q .move ?_
  refine .q .move ?_
  refine .q .move ?_
  refine .q (.i64 ((j + 1 : Nat) : Int) .add ⟨by omega, by omega, by omega⟩) ?_
  refine TriOps.callM (delete_spec vo L To j _ hOo hjl (by omega)) (fun u7 T7 hO7 => ?_)
  have i7 := hO7.oneCell
  have hres : replay1 L e = L.take j ++ L.drop (j + 1) := by unfold replay1; rw [if_neg (by rw [hpf]; simp)]; exact filter_at hsl hjt
  rw [← hres, ← htk] at hO7
  refine .q .assign ?_
  refine .nil ?_
  refine blkQ_n (blkQ_n (seqQ_n ?_))
  refine .region ?_
  refine .q (.i64 ((i + 1 : Nat) : Int) .add ⟨by omega, by omega, by omega⟩) ?_
  refine .q .move ?_
  refine .nil ?_
  · first
      | exact loopQ_i (i + 1, u7, T7) ⟨hlt, hO7⟩ (by simp only; omega) (((((EnvLe.nil _).cons rfl).cons rfl).cons rfl).cons rfl) (by first | exact HLe.pick [2] _ | exact HLe.pick [1] _)
      | exact loopQ_i (i + 1, vo, To) ⟨hlt, by simp only; rw [htk, replay1_same hmem (by simp_all) (by simp_all)]; exact hOo⟩ (by simp only; omega) (((((EnvLe.nil _).cons rfl).cons rfl).cons rfl).cons rfl) (HLe.pick [1] _)
  refine .skip ?_
  refine blkQ_n (blkQ_n (seqQ_n ?_))
  refine .region ?_
  refine .q (.i64 ((i + 1 : Nat) : Int) .add ⟨by omega, by omega, by omega⟩) ?_
  refine .q .move ?_
  refine .nil ?_
  · first
      | exact loopQ_i (i + 1, u7, T7) ⟨hlt, hO7⟩ (by simp only; omega) (((((EnvLe.nil _).cons rfl).cons rfl).cons rfl).cons rfl) (by first | exact HLe.pick [2] _ | exact HLe.pick [1] _)
      | exact loopQ_i (i + 1, vo, To) ⟨hlt, by simp only; rw [htk, replay1_same hmem (by simp_all) (by simp_all)]; exact hOo⟩ (by simp only; omega) (((((EnvLe.nil _).cons rfl).cons rfl).cons rfl).cons rfl) (HLe.pick [1] _)
  refine TriOps.gF g8_4 ?_
  refine .q (.pickFh g8_4) ?_
  refine .q .assign ?_
  refine .nil (seqQ_n ?_)
  refine .condF ?_
  refine .skip ?_
  refine blkQ_n (blkQ_n (seqQ_n ?_))
  refine .region ?_
  refine .q (.i64 ((i + 1 : Nat) : Int) .add ⟨by omega, by omega, by omega⟩) ?_
  refine .q .move ?_
  refine .nil ?_
  · first
      | exact loopQ_i (i + 1, u7, T7) ⟨hlt, hO7⟩ (by simp only; omega) (((((EnvLe.nil _).cons rfl).cons rfl).cons rfl).cons rfl) (by first | exact HLe.pick [2] _ | exact HLe.pick [1] _)
      | exact loopQ_i (i + 1, vo, To) ⟨hlt, by simp only; rw [htk, replay1_same hmem (by simp_all) (by simp_all)]; exact hOo⟩ (by simp only; omega) (((((EnvLe.nil _).cons rfl).cons rfl).cons rfl).cons rfl) (HLe.pick [1] _)
  have hie : i = es.length := by have := of_decide_eq_false h1; omega
  subst hie
  rw [List.take_length] at hL
  refine .exit (seqQ_x (loopQ_x (blkQ_x ?_)))
  refine seqQ_n ?_
  refine .seq (.region ?_)
  refine .q .move ?_
  refine .q .assign ?_
  refine .nil (seqQ_n ?_)
  refine .ret (retQ_r _ (.one (.tmp rfl)) (.one [0] _) ?_)
  · exact ⟨To, by simp [take], by rw [← hL]; exact hOo⟩
end Go.Proofs.YtconfddhmnipjaaGreat
set_option linter.unusedVariables false
set_option linter.unusedSimpArgs false
set_option maxRecDepth 4000
namespace Go.Proofs.YtconfddhmnipjaaGreat
theorem replay1_mem_put {L : List Tpl} {e : Ev} {t : Tpl} (h : e.c.put = true) : t ∈ replay1 L e ↔ t = e.c.t ∨ t ∈ L := by
  unfold replay1
  rw [if_pos h]
  split
  · rename_i h2
    constructor
    · exact .inr
    · rintro (h3 | h3)
      · rw [h3]; exact h2
      · exact h3
  · rw [gins_perm.mem_iff, List.mem_cons]
theorem replay1_mem_del {L : List Tpl} {e : Ev} {t : Tpl} (h : e.c.put = false) : t ∈ replay1 L e ↔ t ∈ L ∧ t ≠ e.c.t := by
  unfold replay1
  rw [if_neg (by rw [h]; simp), List.mem_filter, decide_eq_true_eq]
theorem replay_mem : ∀ {ys : List Ev} {L : List Tpl} {t : Tpl}, (ys.Pairwise fun p q => p.c.t ≠ q.c.t) → (t ∈ ys.foldl replay1 L ↔ (∃ e ∈ ys, e.c.t = t ∧ e.c.put = true) ∨ (t ∈ L ∧ ∀ e ∈ ys, e.c.t = t → e.c.put = true))
  | [], L, t, _ => by simp
  | e :: es, L, t, hp => by
    rw [List.pairwise_cons] at hp
    rw [List.foldl_cons, replay_mem hp.2]
    by_cases ht : e.c.t = t
    · have hno : ∀ e' ∈ es, e'.c.t ≠ t := fun e' he' h => hp.1 e' he' (ht.trans h.symm)
      cases hput : e.c.put with
      | true =>
        constructor
        · intro _; exact .inl ⟨e, List.mem_cons_self, ht, hput⟩
        · intro _; exact .inr ⟨(replay1_mem_put hput).2 (.inl ht.symm), fun e' he' h => absurd h (hno e' he')⟩
      | false =>
        constructor
        · rintro (⟨e', he', h, _⟩ | ⟨h, _⟩)
          · exact absurd h (hno e' he')
          · exact absurd ht.symm ((replay1_mem_del hput).1 h).2
        · rintro (⟨e', he', h, h2⟩ | ⟨_, h⟩)
          · rcases List.mem_cons.1 he' with rfl | he'
            · rw [hput] at h2; cases h2
            · exact absurd h (hno e' he')
          · have := h e List.mem_cons_self ht
            rw [hput] at this; cases this
    · have hm : t ∈ replay1 L e ↔ t ∈ L := by
        cases hput : e.c.put with
        | true => rw [replay1_mem_put hput]; exact ⟨fun h => h.resolve_left fun h => ht h.symm, .inr⟩
        | false => rw [replay1_mem_del hput]; exact ⟨fun h => h.1, fun h => ⟨h, fun h => ht h.symm⟩⟩
      rw [hm]
      constructor
      · rintro (⟨e', he', h⟩ | ⟨h, h2⟩)
        · exact .inl ⟨e', List.mem_cons_of_mem _ he', h⟩
        · refine .inr ⟨h, fun e' he' h3 => ?_⟩
          rcases List.mem_cons.1 he' with rfl | he'
          · exact absurd h3 ht
          · exact h2 e' he' h3
      · rintro (⟨e', he', h⟩ | ⟨h, h2⟩)
        · rcases List.mem_cons.1 he' with rfl | he'
          · exact absurd h.1 ht
          · exact .inl ⟨e', he', h⟩
        · exact .inr ⟨h, fun e' he' h3 => h2 e' (List.mem_cons_of_mem _ he') h3⟩
/-- Whether a tuple is there at a revision. -/
def sat (S : Sto) (r : Int) (t : Tpl) : Prop := ∃ x ∈ S.rows, x.t = t ∧ x.there r = true
theorem there_iff {x : SRow} {r : Int} : x.there r = true ↔ x.fr ≤ r ∧ (x.to = 0 ∨ r < x.to) := by
  unfold SRow.there
  simp only [Bool.and_eq_true, decide_eq_true_eq, Bool.or_eq_true, beq_iff_eq]
theorem wev_iff {S : Sto} {a b : Int} {e : Ev} : e ∈ wev S a b ↔ ∃ x ∈ S.rows, e ∈ revs_of a b x := by
  unfold wev
  exact List.mem_flatMap
theorem sat_step {S : Sto} (hS : SOK S) {r : Int} {t : Tpl} (h0 : S.hor ≤ r) : sat S (r + 1) t ↔ (∃ e ∈ wev S r (r + 1), e.c.t = t ∧ e.c.put = true) ∨ (sat S r t ∧ ∀ e ∈ wev S r (r + 1), e.c.t = t → e.c.put = true) := by
  have g0 := hS.h0
  constructor
  · rintro ⟨x, hx, rfl, hth⟩
    obtain ⟨h1, h2⟩ := there_iff.1 hth
    by_cases h3 : x.fr = r + 1
    · refine .inl ⟨⟨x.fr, ⟨true, x.t⟩⟩, wev_iff.2 ⟨x, hx, ?_⟩, rfl, rfl⟩
      unfold revs_of
      rw [if_pos (by omega)]
      exact List.mem_append_left _ (List.mem_singleton.2 rfl)
    · refine .inr ⟨⟨x, hx, rfl, there_iff.2 ⟨by omega, by omega⟩⟩, fun e he het => ?_⟩
      obtain ⟨y, hy, hey⟩ := wev_iff.1 he
      obtain ⟨h4, h5, h6, h7⟩ := revs_of_mem hey
      rcases h7 with h7 | ⟨h7, _⟩
      · exact h7.2
      · exfalso
        obtain ⟨_, y1, y2, y3⟩ := hS.ok y hy
        obtain ⟨i, hi, hix⟩ := List.mem_iff_getElem.1 hx
        obtain ⟨j, hj, hjy⟩ := List.mem_iff_getElem.1 hy
        have hpw := List.pairwise_iff_getElem.1 hS.pw
        have hty : y.t = x.t := h4.symm.trans het
        rcases Nat.lt_trichotomy i j with hij | hij | hij
        · have := hpw i j hi hj hij
          rw [hix, hjy] at this
          have := this hty.symm
          omega
        · subst hij
          rw [hix] at hjy
          subst hjy
          omega
        · have := hpw j i hj hi hij
          rw [hix, hjy] at this
          have := this hty
          omega
  · rintro (⟨e, he, het, hput⟩ | ⟨⟨x, hx, rfl, hth⟩, hall⟩)
    · obtain ⟨y, hy, hey⟩ := wev_iff.1 he
      obtain ⟨h4, h5, h6, h7⟩ := revs_of_mem hey
      obtain ⟨_, y1, y2, y3⟩ := hS.ok y hy
      rcases h7 with ⟨h7, _⟩ | ⟨_, h7⟩
      · exact ⟨y, hy, h4.symm.trans het, there_iff.2 ⟨by omega, by omega⟩⟩
      · rw [hput] at h7; cases h7
    · obtain ⟨h1, h2⟩ := there_iff.1 hth
      by_cases h3 : x.to = r + 1
      · have := hall ⟨x.to, ⟨false, x.t⟩⟩ (wev_iff.2 ⟨x, hx, by
          unfold revs_of
          rw [if_pos (c := r < x.to ∧ x.to ≤ r + 1) (by omega)]
          exact List.mem_append_right _ (List.mem_singleton.2 rfl)⟩) rfl
        cases this
      · exact ⟨x, hx, rfl, there_iff.2 ⟨by omega, by omega⟩⟩
theorem one_dis {S : Sto} (hS : SOK S) (hP : SPL' S) {r : Int} (h0 : 0 ≤ r) {ys : List Ev} (h : EvOK S r (r + 1) ys) : ys.Pairwise fun p q => p.c.t ≠ q.c.t := by
  have h1 : (wev S r (r + 1)).Pairwise fun p q => p.c.t ≠ q.c.t := (wev_dis hS hP (b := r + 1) h0).imp_of_mem fun {p q} hp hq hpq he => by
    have := wev_mem hp
    have := wev_mem hq
    exact hpq ⟨by omega, he⟩
  exact (List.Perm.pairwise_iff (fun {x y} h he => h he.symm) h.pm).2 h1
theorem makes {S : Sto} (hS : SOK S) (hP : SPL' S) {L : List SRow} (hL : RL S L) {a : Int} (h0 : S.hor ≤ a) {was : List Tpl} (hw : ∀ t, t ∈ was ↔ sat S a t) :
    ∀ n : Nat, a + n ≤ S.head → ∃ ys, EvOK S a (a + n) ys ∧ ∀ t, t ∈ ys.foldl replay1 was ↔ sat S (a + n) t
  | 0, _ => ⟨[], by simpa using EvOK.nil, fun t => by simpa using hw t⟩
  | n + 1, h => by
    have g0 := hS.h0
    obtain ⟨ys, hE, hm⟩ := makes hS hP hL h0 hw n (by omega)
    have hE1 := EvOK.one hS hL (r := a + n)
    have e9 : a + ((n + 1 : Nat) : Int) = a + n + 1 := by omega
    rw [e9]
    refine ⟨ys ++ L.flatMap (revs_of (a + n) (a + n + 1)), hE.append hE1 (by omega) (by omega), fun t => ?_⟩
    rw [List.foldl_append, replay_mem (one_dis hS hP (by omega) hE1), sat_step hS (by omega), hm]
    simp only [hE1.pm.mem_iff]
theorem strict.nd {ys : List Tpl} (h : strict ys) : ys.Nodup := h.imp fun {p q} hpq he => by rw [he, tlt_irr] at hpq; cases hpq
theorem strict.uniq {ys zs : List Tpl} (h : strict ys) (h' : strict zs) (hm : ∀ t, t ∈ ys ↔ t ∈ zs) : ys = zs :=
  List.Perm.eq_of_pairwise (le := fun p q : Tpl => tlt p q = true) (fun p q _ _ h1 h2 => by rw [tlt_asym h1] at h2; cases h2) h h' ((List.perm_ext_iff_of_nodup h.nd h'.nd).2 hm)
theorem rd_mem {S : Sto} {r : Int} (hs : scan S r = true) {ys : List Tpl} (h : rdOK S (⟨⟨#[]⟩, ⟨#[]⟩, ⟨#[]⟩, ⟨#[]⟩, ⟨#[]⟩, ⟨#[]⟩, ⟨#[]⟩⟩ : Tpl) r ys) (t : Tpl) : t ∈ ys ↔ sat S r t := by
  have h1 := h.1
  rw [if_pos hs] at h1
  rw [h1.mem_iff, srd_mem]
  constructor
  · rintro ⟨x, hx, ht, h2, _⟩; exact ⟨x, hx, ht, h2⟩
  · rintro ⟨x, hx, ht, h2⟩; exact ⟨x, hx, ht, h2, tmatch_all _⟩
theorem rd_strict {S : Sto} (hS : SOK S) {f : Tpl} {r : Int} {ys : List Tpl} (h : rdOK S f r ys) : strict ys := by
  refine strict.of h.2 ?_
  rw [h.1.nodup_iff]
  split
  · exact hS.there_nd _ _
  · exact List.nodup_nil
theorem rd_len {S : Sto} (hS : SOK S) {f : Tpl} {r : Int} {ys : List Tpl} (h : rdOK S f r ys) : ys.length ≤ 4096 := by
  rw [h.1.length_eq]
  split
  · unfold srd
    rw [List.length_map]
    exact Nat.le_trans (List.length_filter_le _ _) hS.len
  · simp
/-- What was there at a revision, and the events since, make what is there at the last of them. -/
theorem makes_eq {S : Sto} (hS : SOK S) (hP : SPL' S) {L : List SRow} (hL : RL S L) {a b : Int} (h0 : S.hor ≤ a) (hab : a ≤ b) (hb : b ≤ S.head) {was now : List Tpl} {ys : List Ev} (hw : rdOK S (⟨⟨#[]⟩, ⟨#[]⟩, ⟨#[]⟩, ⟨#[]⟩, ⟨#[]⟩, ⟨#[]⟩, ⟨#[]⟩⟩ : Tpl) a was) (hE : EvOK S a b ys) (hn : rdOK S (⟨⟨#[]⟩, ⟨#[]⟩, ⟨#[]⟩, ⟨#[]⟩, ⟨#[]⟩, ⟨#[]⟩, ⟨#[]⟩⟩ : Tpl) b now) : ys.foldl replay1 was = now := by
  have g0 := hS.h0
  obtain ⟨zs, hE2, hm⟩ := makes hS hP hL h0 (rd_mem (scan_iff.2 ⟨h0, by omega⟩) hw) (b - a).toNat (by omega)
  have e9 : a + ((b - a).toNat : Int) = b := by omega
  rw [e9] at hE2 hm
  have hyz := EvOK.uniq hS hP (by omega) hE hE2
  subst hyz
  exact strict.uniq (foldl_strict (rd_strict hS hw) _) (rd_strict hS hn) fun t => (hm t).trans (rd_mem (scan_iff.2 ⟨by omega, hb⟩) hn t).symm
end Go.Proofs.YtconfddhmnipjaaGreat
set_option linter.unusedVariables false
set_option linter.unusedSimpArgs false
set_option maxRecDepth 4000
namespace Go.Proofs.YtconfddhmnipjaaGreat
theorem wmakes_spec (v : Value) (cs : List SCall) (from_ revs : Int) (hr : revs ≤ 9223372036854775807) (R : Rds) (h : RS R 12 SCall.enc v cs) (hD : ∀ c ∈ cs, c.is R) :
    Spec Tryz.prog 3 [v, .int .u64 from_, .int .i64 revs] R [] fun u H' => u = .bool true ∧ H' = [] := by
  have iv := h.oneCell
  refine Spec.body Tryz.func3 rfl Tryz.results3 Tryz.ntmps3 rfl ?_
  refine .seq (.region ?_)
  refine .q .assign ?_
  refine .nil (seqQ_n ?_)
  refine .seq (.region ?_)
  refine .q .move ?_
  refine TriOps.callN2 (played13_spec _ cs _ h.rx (fun c hc => (hD c hc).mono fun b o hb => .inl hb)) (fun u T T2 hu => ?_)
  obtain ⟨g, b, S, rfl, hI, hDO, hS, hSP, hh⟩ := hu
  obtain ⟨ps, vf, vr, Mf, Mr, hV⟩ := hI.view (R := sg T) fun p hp => hp
  obtain ⟨vL, L, hDV, hL⟩ := hDO.view (R := sg T2) fun p hp => hp
  have a0 := hS.h0
  have a1 := hS.h1
  refine .q .move ?_
  refine .q .extract ?_
  refine .q .extract ?_
  refine .q .assign ?_
  refine .q .assign ?_
  refine .nil (seqQ_n ?_)
  refine .seq (.region ?_)
  refine .q .move ?_
  refine .q .bld ?_
  refine .q .move ?_
  refine TriOps.callN (read_spec (hV.mono fun b o hb => .inr (by have hb' : (b, o) ∈ T := hb; simp [hb'])) hS.len (⟨⟨#[]⟩, ⟨#[]⟩, ⟨#[]⟩, ⟨#[]⟩, ⟨#[]⟩, ⟨#[]⟩, ⟨#[]⟩⟩ : Tpl) from_) (fun u T3 hu => ?_)
  obtain ⟨w3, was, rfl, hO3, hr3⟩ := hu
  have i3 := hO3.oneCell
  refine .q .move ?_
  refine .q .extract ?_
  refine .q .extract ?_
  refine .q .assign ?_
  refine .q .assign ?_
  refine .nil (seqQ_n ?_)
  refine .seq (.region ?_)
  refine .q .move ?_
  refine .q .move ?_
  refine .q .move ?_
  refine TriOps.callN (since_spec (hV.mono fun b o hb => .inr (by have hb' : (b, o) ∈ T := hb; simp [hb'])) hS from_ revs hr) (fun u T4 hu => ?_)
  obtain ⟨w4, last, ys, rfl, hO4, ht⟩ := hu
  have i4 := hO4.oneCell
  have hyl := told.len hS ht
  refine .q .move ?_
  refine .q .extract ?_
  refine .q .extract ?_
  refine .q .extract ?_
  refine .q .assign ?_
  refine .q .assign ?_
  refine .q .assign ?_
  refine .nil (seqQ_n ?_)
  refine .seq ?_
  refine .seq (.region ?_)
  refine .q .move ?_
  refine .q .neI ?_
  refine .q .move ?_
  refine TriOps.split (t := 38) rfl (fun g4_2 => ?_) (fun g4_2 => ?_)
  refine TriOps.gF g4_2 ?_
  refine TriOps.gF g4_2 ?_
  refine .q (.pickTh g4_2) ?_
  refine .nil (seqQ_n ?_)
  refine .condT ?_
  have hwc : ¬ wcode S from_ revs = 0 := by
    unfold wcode
    first
      | (have h1' : revs < 1 := of_decide_eq_true h1
         rw [if_pos h1']; decide)
      | (have hsc : scan S from_ = false := by
           cases hs : scan S from_ with
           | false => rfl
           | true => rw [hs] at g4_2; simp at g4_2
         rw [hsc]; split <;> simp)
  unfold told at ht
  rw [if_neg hwc] at ht
  obtain ⟨rfl, rfl⟩ := ht
  refine .seq (.region ?_)
  refine .q .move ?_
  refine .q .neI ?_
  refine .q .move ?_
  refine TriOps.split (t := 44) rfl (fun g5_2 => ?_) (fun g5_2 => ?_)
  refine TriOps.gT g5_2 ?_
  refine .q .move ?_
  refine TriOps.gT g5_2 ?_
  refine .q (.lenO hO4) ?_
  refine TriOps.gT g5_2 ?_
  refine .q .eqI ?_
  refine .q (.pickTh g5_2) ?_
  refine .q .move ?_
  refine TriOps.split (t := 49) rfl (fun g5_7 => ?_) (fun g5_7 => ?_)
  refine TriOps.gT g5_7 ?_
  refine .q .move ?_
  refine TriOps.gT g5_7 ?_
  refine .q .eqI ?_
  refine .q (.pickTh g5_7) ?_
  refine .q .move ?_
  refine TriOps.split (t := 53) rfl (fun g5_11 => ?_) (fun g5_11 => ?_)
  refine TriOps.gT g5_11 ?_
  refine TriOps.callR (lives13_spec _) (fun v hv => ?_)
  subst hv
  refine .q (.pickTh g5_11) ?_
  refine .q .assign ?_
  refine .nil (seqQ_n ?_)
  refine .ret (seqQ_r (retQ_r _ (.one (.tmp rfl)) (.none _) ?_))
  · exact ⟨rfl, rfl⟩
  · simp at g5_11
  · simp at g5_7
  · simp [hwc] at g5_2
  refine TriOps.gT g4_2 ?_
  refine .q .move ?_
  refine TriOps.gT g4_2 ?_
  refine .q .lss ?_
  refine .q (.pickFh g4_2) ?_
  refine .nil (seqQ_n ?_)
  refine .cond rfl (fun h1 => ?_) (fun h1 => ?_)
  have hwc : ¬ wcode S from_ revs = 0 := by
    unfold wcode
    first
      | (have h1' : revs < 1 := of_decide_eq_true h1
         rw [if_pos h1']; decide)
      | (have hsc : scan S from_ = false := by
           cases hs : scan S from_ with
           | false => rfl
           | true => rw [hs] at g4_2; simp at g4_2
         rw [hsc]; split <;> simp)
  unfold told at ht
  rw [if_neg hwc] at ht
  obtain ⟨rfl, rfl⟩ := ht
  refine .seq (.region ?_)
  refine .q .move ?_
  refine .q .neI ?_
  refine .q .move ?_
  refine TriOps.split (t := 44) rfl (fun g5_2 => ?_) (fun g5_2 => ?_)
  refine TriOps.gT g5_2 ?_
  refine .q .move ?_
  refine TriOps.gT g5_2 ?_
  refine .q (.lenO hO4) ?_
  refine TriOps.gT g5_2 ?_
  refine .q .eqI ?_
  refine .q (.pickTh g5_2) ?_
  refine .q .move ?_
  refine TriOps.split (t := 49) rfl (fun g5_7 => ?_) (fun g5_7 => ?_)
  refine TriOps.gT g5_7 ?_
  refine .q .move ?_
  refine TriOps.gT g5_7 ?_
  refine .q .eqI ?_
  refine .q (.pickTh g5_7) ?_
  refine .q .move ?_
  refine TriOps.split (t := 53) rfl (fun g5_11 => ?_) (fun g5_11 => ?_)
  refine TriOps.gT g5_11 ?_
  refine TriOps.callR (lives13_spec _) (fun v hv => ?_)
  subst hv
  refine .q (.pickTh g5_11) ?_
  refine .q .assign ?_
  refine .nil (seqQ_n ?_)
  refine .ret (seqQ_r (retQ_r _ (.one (.tmp rfl)) (.none _) ?_))
  · exact ⟨rfl, rfl⟩
  · simp at g5_11
  · simp at g5_7
  · simp [hwc] at g5_2
  have hrv : ¬ revs < 1 := of_decide_eq_false h1
  have hsc : scan S from_ = true := by
    cases hs : scan S from_ with
    | true => rfl
    | false => rw [hs] at g4_2; simp at g4_2
  have hsi := scan_iff.1 hsc
  have hwc : wcode S from_ revs = 0 := by unfold wcode; rw [if_neg hrv, if_pos hsc]
  unfold told at ht
  rw [if_pos hwc] at ht
  obtain ⟨hlast, hE⟩ := ht
  have hl2 : from_ ≤ last ∧ last ≤ S.head := by rw [hlast]; unfold wlast; split <;> omega
  have hsl : scan S last = true := scan_iff.2 ⟨by omega, hl2.2⟩
  refine .skip ?_
  refine seqQ_n ?_
  refine .seq (.region ?_)
  refine .q .move ?_
  refine .q .bld ?_
  refine .q .move ?_
  refine TriOps.callN (read_spec (hV.mono fun b o hb => .inr (by have hb' : (b, o) ∈ T := hb; simp [hb'])) hS.len (⟨⟨#[]⟩, ⟨#[]⟩, ⟨#[]⟩, ⟨#[]⟩, ⟨#[]⟩, ⟨#[]⟩, ⟨#[]⟩⟩ : Tpl) last) (fun u T5 hu => ?_)
  obtain ⟨w5, now, rfl, hO5, hr5⟩ := hu
  have i5 := hO5.oneCell
  refine .q .move ?_
  refine .q .extract ?_
  refine .q .extract ?_
  refine .q .assign ?_
  refine .q .assign ?_
  refine .nil (seqQ_n ?_)
  refine .seq (.region ?_)
  refine .q .move ?_
  refine .q .eqI ?_
  refine .q .move ?_
  refine TriOps.split (t := 65) rfl (fun g7_2 => ?_) (fun g7_2 => ?_)
  refine TriOps.gT g7_2 ?_
  refine .q .move ?_
  refine TriOps.gT g7_2 ?_
  refine .q .eqI ?_
  refine .q (.pickTh g7_2) ?_
  refine .q .move ?_
  refine TriOps.split (t := 69) rfl (fun g7_6 => ?_) (fun g7_6 => ?_)
  refine TriOps.gT g7_6 ?_
  refine .q .move ?_
  refine TriOps.gT g7_6 ?_
  refine .q .move ?_
  refine TriOps.gT g7_6 ?_
  refine .q .geq ?_
  refine .q (.pickTh g7_6) ?_
  refine .q .move ?_
  refine TriOps.split (t := 74) rfl (fun g7_11 => ?_) (fun g7_11 => ?_)
  refine TriOps.gT g7_11 ?_
  refine .q .move ?_
  refine TriOps.gT g7_11 ?_
  refine .q .move ?_
  refine TriOps.gT g7_11 ?_
  refine TriOps.callR (hV.mono fun b o hb => .inr (by have hb' : (b, o) ∈ T := hb; simp [hb'])).head (fun v hv => ?_)
  subst hv
  refine TriOps.gT g7_11 ?_
  refine .q .leq ?_
  refine .q (.pickTh g7_11) ?_
  refine .q .move ?_
  refine TriOps.split (t := 80) rfl (fun g7_17 => ?_) (fun g7_17 => ?_)
  refine TriOps.gT g7_17 ?_
  refine .q .move ?_
  refine TriOps.gT g7_17 ?_
  refine .q .move ?_
  refine TriOps.gT g7_17 ?_
  refine TriOps.callN (replay_spec w3 w4 was ys _ hO3.rx (rd_strict hS hr3) (by have := rd_len hS hr3; omega) hO4.rx (by omega)) (fun u7 T7 hO7 => ?_)
  have i7 := hO7.oneCell
  refine TriOps.gT g7_17 ?_
  refine .q .move ?_
  refine TriOps.gT g7_17 ?_
  refine TriOps.callR (same11_spec _ _ _ now _ hO7.rx hO5.rx) (fun v hv => ?_)
  subst hv
  rw [decide_eq_true (makes_eq hS hSP hL hsi.1 hl2.1 hl2.2 hr3 hE hr5)]
  refine .q (.pickTh g7_17) ?_
  refine .q .move ?_
  refine TriOps.gt rfl ?_
  refine TriOps.callR (lives13_spec _) (fun v hv => ?_)
  subst hv
  refine .q .pickT ?_
  refine .q .assign ?_
  refine .nil (seqQ_n ?_)
  refine .ret (retQ_r _ (.one (.tmp rfl)) (.none _) ?_)
  · exact ⟨rfl, rfl⟩
  · exact absurd (of_decide_eq_false g7_17) (by omega)
  · exact absurd (of_decide_eq_false g7_11) (by omega)
  · simp [hsl] at g7_6
  · simp [hwc] at g7_2
end Go.Proofs.YtconfddhmnipjaaGreat
