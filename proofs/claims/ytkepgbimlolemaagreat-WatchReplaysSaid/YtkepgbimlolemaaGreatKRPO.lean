/- What the law 'RP' uses of this prover's engine, facts and walks. No condition. -/
import Derived.Test.YtkepgbimlolemaaGreatKRPD
import Derived.Test.YtkepgbimlolemaaGreatKRPG
import Derived.Test.YtkepgbimlolemaaGreatKRPN
set_option linter.unusedVariables false
set_option linter.unusedSimpArgs false
set_option maxRecDepth 4000
namespace Go.Proofs.YtkepgbimlolemaaGreat
theorem take_rep {α : Type} {l : List α} {i m : Nat} {z : α} (hi : i ≤ l.length) : (l.take i ++ List.replicate m z).take i = l.take i := by
  have h : (l.take i).length = i := by rw [List.length_take]; omega
  rw [List.take_append_of_le_length (by omega), List.take_of_length_le (by omega)]
theorem ins_grow {α : Type} {l : List α} {i : Nat} {x z : α} (hi : i < l.length) :
    let A := l.take i ++ List.replicate (l.length + 1 - i) z
    let B := A.take i ++ [x] ++ A.drop (i + 1)
    A.length = l.length + 1 ∧ B.length = l.length + 1 ∧ (B.take (i + 1) ++ l.drop i ++ B.drop (i + 1 + (l.drop i).length)).length = l.length + 1 ∧ (B.take (i + 1) ++ l.drop i ++ B.drop (i + 1 + (l.drop i).length)) = l.take i ++ [x] ++ l.drop i := by
  intro A B
  have h : (l.take i).length = i := by rw [List.length_take]; omega
  have hA : A.length = l.length + 1 := by
    show (l.take i ++ List.replicate (l.length + 1 - i) z).length = _
    rw [List.length_append, List.length_replicate, h]; omega
  have e1 : A.take i = l.take i := take_rep (by omega)
  have hB2 : B = l.take i ++ [x] ++ A.drop (i + 1) := by show A.take i ++ [x] ++ _ = _; rw [e1]
  have hB : B.length = l.length + 1 := by
    rw [hB2, List.length_append, List.length_append, List.length_drop, hA, h]
    simp only [List.length_singleton]; omega
  have hx : (l.take i ++ [x]).length = i + 1 := by rw [List.length_append, h]; rfl
  have ht : B.take (i + 1) = l.take i ++ [x] := by
    rw [hB2, List.take_append_of_le_length (by rw [hx]; exact Nat.le_refl _)]
    exact List.take_of_length_le (by rw [hx]; exact Nat.le_refl _)
  have hd : B.drop (i + 1 + (l.drop i).length) = [] := List.drop_of_length_le (by rw [hB, List.length_drop]; omega)
  have he : (B.take (i + 1) ++ l.drop i ++ B.drop (i + 1 + (l.drop i).length)) = l.take i ++ [x] ++ l.drop i := by rw [ht, hd, List.append_nil]
  refine ⟨hA, hB, ?_, he⟩
  rw [he, List.length_append, hx, List.length_drop]; omega
theorem ins_room {α : Type} {l : List α} {i : Nat} {x : α} (hi : i < l.length) :
    let A := l.take (i + 1) ++ l.drop i ++ l.drop (i + 1 + (l.drop i).length)
    A.length = l.length + 1 ∧ (A.take i ++ [x] ++ A.drop (i + 1)).length = l.length + 1 ∧ (A.take i ++ [x] ++ A.drop (i + 1)) = l.take i ++ [x] ++ l.drop i := by
  intro A
  have h : (l.take (i + 1)).length = i + 1 := by rw [List.length_take]; omega
  have hd : l.drop (i + 1 + (l.drop i).length) = [] := List.drop_of_length_le (by rw [List.length_drop]; omega)
  have hA : A = l.take (i + 1) ++ l.drop i := by show l.take (i + 1) ++ l.drop i ++ l.drop (i + 1 + (l.drop i).length) = _; rw [hd, List.append_nil]
  have e1 : A.take i = l.take i := by
    rw [hA, List.take_append_of_le_length (by omega), List.take_take]
    congr 1; omega
  have e2 : A.drop (i + 1) = l.drop i := by
    rw [hA, List.drop_append_of_le_length (by omega), List.drop_of_length_le (by omega), List.nil_append]
  have h2 : (l.take i).length = i := by rw [List.length_take]; omega
  refine ⟨by rw [hA, List.length_append, h, List.length_drop]; omega, ?_, by rw [e1, e2]⟩
  rw [e1, e2, List.length_append, List.length_append, h2, List.length_drop]
  simp only [List.length_singleton]; omega
theorem insert_spec (v : Value) (l : List Tpl) (T : Seg) (i : Nat) (x : Tpl) (bq : Nat) (R : Rds) (h : OS 36 7 Tpl.enc v l T) (hi : i ≤ l.length) (hl : l.length ≤ 100000) (hq : R bq (.cells x.enc.toArray 36 (0, 0))) :
    Spec Tryz.prog 55 [v, .int .i64 (i : Nat), .slice (some ⟨bq, 0, none⟩) 1 1] R [T] fun u H' => ∃ T', H' = [T'] ∧ OS 36 7 Tpl.enc u (l.take i ++ [x] ++ l.drop i) T' := by
  have hvs : RS R 7 Tpl.enc (.slice (some ⟨bq, 0, none⟩) 1 1) [x] := RS.litB (E := 36) (fr := (0, 0)) hq (by simp) (by simp [Tpl.enc]) (by simp [Tpl.enc, oneCell])
  obtain ⟨p, cap, rfl, hcap⟩ := h.shape
  refine Spec.body Tryz.func55 rfl Tryz.results55 Tryz.ntmps55 rfl ?_
  refine .seq (.region ?_)
  refine .q .assign ?_
  refine .nil (seqQ_n ?_)
  refine .seq (.region ?_)
  refine .q .move ?_
  refine .q .move ?_
  refine .q (.sliceE (sz := 7) i l.length ⟨_, rfl⟩ rfl (by omega) (by omega)) ?_
  refine .nil (seqQ_n ?_)
  refine .seq (.region ?_)
  refine .q .move ?_
  refine .q (.lenR hvs) ?_
  rw [List.length_singleton]
  refine .q .assign ?_
  refine .nil (seqQ_n ?_)
  refine .seq ?_
  refine .seq (.region ?_)
  refine .q .move ?_
  refine .q .eqI ?_
  refine .nil (seqQ_n ?_)
  refine .cond rfl (fun h1 => ?_) (fun h1 => ?_)
  · simp at h1
  refine .skip ?_
  refine seqQ_n ?_
  refine .seq (.region ?_)
  refine .q .move ?_
  refine .q (.lenO h) ?_
  refine .q .assign ?_
  refine .nil (seqQ_n ?_)
  refine .seq ?_
  refine .seq (.region ?_)
  refine .q .move ?_
  refine .q .move ?_
  refine .q .eqI ?_
  refine .nil (seqQ_n ?_)
  refine .cond rfl (fun h2 => ?_) (fun h2 => ?_)
  have hil : i = l.length := by have := eq_of_beq h2; omega
  subst hil
  refine .seq (.region ?_)
  refine .q .move ?_
  refine .q .move ?_
  refine TriOps.append h hvs.rx (by simp only [List.length_singleton]; omega) (fun v5 T5 hO5 => ?_)
  refine .q .assign ?_
  refine .nil (seqQ_n ?_)
  refine .ret (seqQ_r (retQ_r _ (.one (.tmp rfl)) (.one [0] _) ?_))
  · exact ⟨T5, by simp [take], by rw [List.take_length, List.drop_length, List.append_nil]; exact hO5⟩
  have hil : i < l.length := by have := beq_eq_false_iff_ne.1 h2; omega
  obtain ⟨b, off, rfl⟩ : ∃ b off, p = some ⟨b, off, none⟩ := by
    rcases h.h with ⟨_, h2, _⟩ | ⟨b, off, _, _, h1, _⟩
    · rw [h2] at hil; simp at hil
    · cases h1; exact ⟨b, off, rfl⟩
  have hdl : (l.drop i).length = l.length - i := List.length_drop
  have htl : (l.take i).length = i := by rw [List.length_take]; omega
  have htail := h.tailRS (R' := Rx R [T]) (fun p hp => .inr (by simp [hp])) i hi
  refine .skip ?_
  refine seqQ_n ?_
  refine .seq ?_
  refine .seq (.region ?_)
  refine .q .move ?_
  refine .q .move ?_
  refine .q (.i64 ((l.length + 1 : Nat) : Int) .add ⟨by omega, by omega, by omega⟩) ?_
  refine .q .move ?_
  refine .q .capV ?_
  refine .q .gtr ?_
  refine .nil (seqQ_n ?_)
  refine .cond rfl (fun h3 => ?_) (fun h3 => ?_)
  have hgr : ¬ l.length + 1 ≤ cap := by have := of_decide_eq_true h3; omega
  obtain ⟨k1, k2, k3, k4⟩ := ins_grow (x := x) (z := (⟨⟨#[]⟩, ⟨#[]⟩, ⟨#[]⟩, ⟨#[]⟩, ⟨#[]⟩, ⟨#[]⟩, ⟨#[]⟩⟩ : Tpl)) hil
  refine .seq (.region ?_)
  refine .q .move ?_
  refine .q .move ?_
  refine .q (.sliceE (sz := 7) (n := l.length) (cap := cap) (p := some ⟨b, off, none⟩) 0 i rfl ⟨_, rfl⟩ (by omega) (by omega)) ?_
  rw [pieceV_zero]
  refine .q .move ?_
  refine .q .move ?_
  refine .q (.i64 ((l.length + 1 : Nat) : Int) .add ⟨by omega, by omega, by omega⟩) ?_
  refine .q .move ?_
  refine .q (.i64 ((l.length + 1 - i : Nat) : Int) .sub ⟨by omega, by omega, by omega⟩) ?_
  refine TriOps.appendZ (xs := l.take i) (cap := cap) (p := some ⟨b, off, none⟩) (⟨⟨#[]⟩, ⟨#[]⟩, ⟨#[]⟩, ⟨#[]⟩, ⟨#[]⟩, ⟨#[]⟩, ⟨#[]⟩⟩ : Tpl) (by have := h.head i hi; rw [pieceV_zero] at this; rw [htl]; exact this) (by omega) (by rw [htl]; omega) (by rw [htl]; omega) (by simp [Tpl.enc, oneCell]) (fun v2 T2 hO2 => ?_) (by rw [htl]; rfl) rfl
  have hO2a := hO2
  obtain ⟨p2, cap2, rfl, hcap2⟩ := hO2.shape
  obtain ⟨b2, off2, rfl⟩ : ∃ b off, p2 = some ⟨b, off, none⟩ := by
    rcases hO2.h with ⟨_, h2, _⟩ | ⟨b, off, _, _, h1, _⟩
    · have := congrArg List.length h2
      rw [k1] at this; simp at this
    · cases h1; exact ⟨b, off, rfl⟩
  have k1' := k1
  rw [k1] at hcap2
  refine .q .assign ?_
  refine .nil (seqQ_n ?_)
  refine .seq (.region ?_)
  refine .q .move ?_
  refine .q .move ?_
  rw [k1]
  refine .q (.sliceE (sz := 7) (n := l.length + 1) (cap := cap2) (p := some ⟨b2, off2, none⟩) i (l.length + 1) ⟨_, rfl⟩ rfl (by omega) (by omega)) ?_
  rw [pieceV_some (by omega)]
  refine .q .move ?_
  refine TriOps.copyO (lo := i) (ys := [x]) (n := l.length + 1) hO2 hvs.rx rfl (by simp only [List.length_singleton, Nat.min_def]; split <;> omega) (by rw [k1]; omega) (by simp only [List.length_singleton]; omega) k2 (by omega) rfl rfl (fun T3 hO3 => ?_)
  refine .nil (seqQ_n ?_)
  refine .seq ?_
  refine .region_tail 8 mixed (by kernel_rfl) ?_
  conv => arg 6; dsimp only [List.take]
  refine .q .move ?_
  refine .q .move ?_
  refine .q .move ?_
  refine .q (.i64 ((i + 1 : Nat) : Int) .add ⟨by omega, by omega, by omega⟩) ?_
  have hO3' : OS 36 7 Tpl.enc (.slice (some ⟨b2, off2, none⟩) ((l.take i ++ List.replicate (l.length + 1 - i) (⟨⟨#[]⟩, ⟨#[]⟩, ⟨#[]⟩, ⟨#[]⟩, ⟨#[]⟩, ⟨#[]⟩, ⟨#[]⟩⟩ : Tpl)).take i ++ [x] ++ (l.take i ++ List.replicate (l.length + 1 - i) (⟨⟨#[]⟩, ⟨#[]⟩, ⟨#[]⟩, ⟨#[]⟩, ⟨#[]⟩, ⟨#[]⟩, ⟨#[]⟩⟩ : Tpl)).drop (i + 1)).length cap2) ((l.take i ++ List.replicate (l.length + 1 - i) (⟨⟨#[]⟩, ⟨#[]⟩, ⟨#[]⟩, ⟨#[]⟩, ⟨#[]⟩, ⟨#[]⟩, ⟨#[]⟩⟩ : Tpl)).take i ++ [x] ++ (l.take i ++ List.replicate (l.length + 1 - i) (⟨⟨#[]⟩, ⟨#[]⟩, ⟨#[]⟩, ⟨#[]⟩, ⟨#[]⟩, ⟨#[]⟩, ⟨#[]⟩⟩ : Tpl)).drop (i + 1)) T3 := by rw [k2]; exact hO3
  refine .q (.sliceE (sz := 7) (n := l.length + 1) (cap := cap2) (p := some ⟨b2, off2, none⟩) (i + 1) (l.length + 1) ⟨_, rfl⟩ rfl (by omega) (by omega)) ?_
  rw [pieceV_some (by omega)]
  refine .q .move ?_
  refine .q .move ?_
  refine .q (.sliceE (sz := 7) (n := l.length) (cap := cap) (p := some ⟨b, off, none⟩) i l.length ⟨_, rfl⟩ rfl (by omega) (by omega)) ?_
  rw [pieceV_some (by omega)]
  refine .nil ?_
  refine TriOps.copyO (lo := i + 1) (ys := l.drop i) (n := l.length + 1) hO3' (htail.mono fun b o hb => hb.imp id fun hb => by simp at hb; simp [hb]) rfl (by rw [hdl]; simp only [Nat.min_def]; split <;> omega) (by rw [k2]; omega) (by rw [hdl]; omega) k3 (by omega) rfl rfl (fun T4 hO4 => ?_)
  rw [k4] at hO4
  refine .nil (seqQ_n ?_)
  refine .seq (.region ?_)
  refine .q .move ?_
  refine .q .assign ?_
  refine .nil (seqQ_n ?_)
  refine .ret (seqQ_r (retQ_r _ (.one (.tmp rfl)) ((HLe.pick [0] _)) ?_))
  · exact ⟨T4, by simp [take, dropAt], hO4⟩
  have hroom : l.length + 1 ≤ cap := by have := of_decide_eq_false h3; omega
  obtain ⟨k1, k2, k3⟩ := ins_room (x := x) hil
  have hsz : ∃ c, T = [(b, .cells c 36 (0, 0))] ∧ c.size ≠ 0 := by
    rcases h.h with ⟨h1, _, _⟩ | ⟨b', off', c, cap', h1, h2, h3, h4, h5, _⟩
    · cases h1
    · cases h1
      exact ⟨c, h2, by omega⟩
  obtain ⟨c, hTc, hcs⟩ := hsz
  refine .skip ?_
  refine seqQ_n ?_
  refine .seq (.region ?_)
  refine .q .move ?_
  refine .q .move ?_
  refine .q .move ?_
  refine .q (.i64 ((l.length + 1 : Nat) : Int) .add ⟨by omega, by omega, by omega⟩) ?_
  refine .q (.sliceE (sz := 7) (n := l.length) (cap := cap) (p := some ⟨b, off, none⟩) 0 (l.length + 1) rfl ⟨_, rfl⟩ (by omega) (by omega)) ?_
  rw [pieceV_zero]
  refine .q .assign ?_
  refine .nil (seqQ_n ?_)
  refine .seq ?_
  refine .seq (.region ?_)
  refine .q .move ?_
  refine .q .move ?_
  refine .q .move ?_
  refine .q .move ?_
  refine .q (.i64 ((i + 1 : Nat) : Int) .add ⟨by omega, by omega, by omega⟩) ?_
  refine .q (.sliceE (sz := 7) (n := l.length + 1) (cap := cap) (p := some ⟨b, off, none⟩) (i + 1) (l.length + 1) ⟨_, rfl⟩ rfl (by omega) (by omega)) ?_
  rw [pieceV_some (by omega)]
  refine .q (.overlaps (tR := 4) (b := b) (fr := (0, 0)) Tryz.func87 (by kernel_rfl) (by kernel_rfl) (by kernel_rfl) (by kernel_rfl) fU24 inferInstance hq (by rw [hTc]; simp; rfl) hcs rfl rfl) ?_
  refine .q .not ?_
  refine .nil (seqQ_n ?_)
  refine .condT ?_
  refine .seq ?_
  refine .region_tail 8 mixed (by kernel_rfl) ?_
  conv => arg 6; dsimp only [List.take]
  refine .q .move ?_
  refine .q .move ?_
  refine .q .move ?_
  refine .q (.i64 ((i + 1 : Nat) : Int) .add ⟨by omega, by omega, by omega⟩) ?_
  refine .q (.sliceE (sz := 7) (n := l.length + 1) (cap := cap) (p := some ⟨b, off, none⟩) (i + 1) (l.length + 1) ⟨_, rfl⟩ rfl (by omega) (by omega)) ?_
  rw [pieceV_some (by omega)]
  refine .q .move ?_
  refine .q .move ?_
  refine .q (.sliceE (sz := 7) (n := l.length + 1) (cap := cap) (p := some ⟨b, off, none⟩) i (l.length + 1) ⟨_, rfl⟩ rfl (by omega) (by omega)) ?_
  rw [pieceV_some (by omega)]
  refine .nil ?_
  refine TriOps.copyO (lo := i + 1) (ys := l.drop i) (n := l.length + 1) h htail rfl (by rw [hdl]; simp only [Nat.min_def]; split <;> omega) (by omega) (by rw [hdl]; omega) k1 hroom rfl rfl (fun T3 hO3 => ?_)
  have hO3' : OS 36 7 Tpl.enc (.slice (some ⟨b, off, none⟩) (l.take (i + 1) ++ l.drop i ++ l.drop (i + 1 + (l.drop i).length)).length cap) (l.take (i + 1) ++ l.drop i ++ l.drop (i + 1 + (l.drop i).length)) T3 := by rw [k1]; exact hO3
  refine .nil (seqQ_n ?_)
  refine .seq (.region ?_)
  refine .q .move ?_
  refine .q .move ?_
  refine .q (.sliceE (sz := 7) (n := l.length + 1) (cap := cap) (p := some ⟨b, off, none⟩) i (l.length + 1) ⟨_, rfl⟩ rfl (by omega) (by omega)) ?_
  rw [pieceV_some (by omega)]
  refine .q .move ?_
  refine TriOps.copyO (lo := i) (ys := [x]) (n := l.length + 1) hO3' hvs.rx rfl (by simp only [List.length_singleton, Nat.min_def]; split <;> omega) (by rw [k1]; omega) (by simp only [List.length_singleton]; omega) k2 hroom rfl rfl (fun T4 hO4 => ?_)
  rw [List.length_singleton, k3] at hO4
  refine .nil (seqQ_n ?_)
  refine .seq (.region ?_)
  refine .q .move ?_
  refine .q .assign ?_
  refine .nil (seqQ_n ?_)
  refine .ret (seqQ_r (retQ_r _ (.one (.tmp rfl)) (.one [0] _) ?_))
  · exact ⟨T4, by simp [take, dropAt], hO4⟩
theorem del_list {α : Type} {l : List α} {i : Nat} (hi : i < l.length) :
    (l.take i ++ l.drop (i + 1) ++ l.drop (i + (l.drop (i + 1)).length)).length = l.length ∧ (l.take i ++ l.drop (i + 1) ++ l.drop (i + (l.drop (i + 1)).length)).take (l.length - 1) = l.take i ++ l.drop (i + 1) := by
  have h : (l.take i).length = i := by rw [List.length_take]; omega
  refine ⟨by simp only [List.length_append, h, List.length_drop]; omega, ?_⟩
  rw [List.take_append_of_le_length (by simp only [List.length_append, h, List.length_drop]; omega)]
  exact List.take_of_length_le (by simp only [List.length_append, h, List.length_drop]; omega)
theorem delete_spec (v : Value) (l : List Tpl) (T : Seg) (i : Nat) (R : Rds) (h : OS 36 7 Tpl.enc v l T) (hi : i < l.length) (hl : l.length ≤ 100000) :
    Spec Tryz.prog 56 [v, .int .i64 (i : Nat), .int .i64 ((i + 1 : Nat) : Int)] R [T] fun u H' => ∃ T', H' = [T'] ∧ OS 36 7 Tpl.enc u (l.take i ++ l.drop (i + 1)) T' := by
  obtain ⟨p, cap, rfl, hcap⟩ := h.shape
  obtain ⟨b, off, rfl⟩ : ∃ b off, p = some ⟨b, off, none⟩ := by
    rcases h.h with ⟨_, h2, _⟩ | ⟨b, off, _, _, h1, _⟩
    · rw [h2] at hi; simp at hi
    · cases h1; exact ⟨b, off, rfl⟩
  obtain ⟨k1, k2⟩ := del_list hi
  have hdl : (l.drop (i + 1)).length = l.length - (i + 1) := List.length_drop
  have htk : (l.drop (i + 1)).take (l.length - (i + 1)) = l.drop (i + 1) := List.take_of_length_le (by rw [hdl]; exact Nat.le_refl _)
  refine Spec.body Tryz.func56 rfl Tryz.results56 Tryz.ntmps56 rfl ?_
  refine .seq (.region ?_)
  refine .q .assign ?_
  refine .nil (seqQ_n ?_)
  refine .seq (.region ?_)
  refine .q .move ?_
  refine .q .move ?_
  refine .q .move ?_
  refine .q .move ?_
  refine .q (.lenO h) ?_
  refine .q (.sliceM (sz := 7) (n := l.length) (cap := cap) (p := some ⟨b, off, none⟩) i (i + 1) l.length rfl rfl rfl (by omega) (by omega) (by omega)) ?_
  refine .nil (seqQ_n ?_)
  refine .seq ?_
  refine .seq (.region ?_)
  refine .q .move ?_
  refine .q .move ?_
  refine .q .eqI ?_
  refine .nil (seqQ_n ?_)
  refine .cond rfl (fun h1 => ?_) (fun h1 => ?_)
  · exfalso; have := eq_of_beq h1; omega
  refine .skip ?_
  refine seqQ_n ?_
  refine .seq (.region ?_)
  refine .q .move ?_
  refine .q (.lenO h) ?_
  refine .q .assign ?_
  refine .nil (seqQ_n ?_)
  refine .seq ?_
  refine .region_tail 6 mixed (by kernel_rfl) ?_
  conv => arg 6; dsimp only [List.take]
  refine .q .move ?_
  refine .q .move ?_
  refine .q (.sliceE (sz := 7) (n := l.length) (cap := cap) (p := some ⟨b, off, none⟩) 0 i rfl ⟨_, rfl⟩ (by omega) (by omega)) ?_
  rw [pieceV_zero]
  refine .q .move ?_
  refine .q .move ?_
  refine TriOps.sliceO (i + 1) l.length h ⟨_, rfl⟩ rfl (by omega) (by omega) (fun v2 hv2 => ?_)
  rw [htk] at hv2
  have i2 := hv2.oneCell
  refine .nil ?_
  refine TriOps.appendIn (n := l.length) i h hv2.rx (by omega) (by rw [hdl]; omega) k1 (by omega) rfl rfl (fun T2 hO2 => ?_)
  have e9 : i + (l.drop (i + 1)).length = l.length - 1 := by rw [hdl]; omega
  have k1' := k1
  rw [e9] at hO2 k2 k1' ⊢
  have hhd := hO2.head (l.length - 1) (by rw [k1']; omega)
  rw [pieceV_zero] at hhd
  have hl1 : ((l.take i ++ l.drop (i + 1) ++ l.drop (l.length - 1)).take (l.length - 1)).length = l.length - 1 := by rw [List.length_take, k1']; omega
  refine .q .assign ?_
  refine .nil (seqQ_n ?_)
  refine .seq (.region ?_)
  refine .q .move ?_
  refine .q .move ?_
  refine .q (.lenO (xs := (l.take i ++ l.drop (i + 1) ++ l.drop (l.length - 1)).take (l.length - 1)) hhd) ?_
  rw [hl1]
  refine .q .move ?_
  refine .q (.sliceE (sz := 7) (n := l.length - 1) (cap := cap) (p := some ⟨b, off, none⟩) (l.length - 1) l.length ⟨_, rfl⟩ ⟨_, rfl⟩ (by omega) (by omega)) ?_
  refine TriOps.clearTail (l.length - 1) hO2 (by rw [k1']; omega) rfl (fun T3 hO3 => ?_)
  rw [k2, pieceV_zero] at hO3
  refine .nil (seqQ_n ?_)
  refine .seq (.region ?_)
  refine .q .move ?_
  refine .q .assign ?_
  refine .nil (seqQ_n ?_)
  refine .ret (retQ_r _ (.one (.tmp rfl)) (.one [0] _) ?_)
  · exact ⟨T3, by simp [take], hO3⟩
theorem half_fdiv {n : Nat} : ((n : Nat) : Int).fdiv (2 ^ min (Int.toNat 1) IntKind.u64.bits) = ((n / 2 : Nat) : Int) := by
  have h : min (Int.toNat 1) IntKind.u64.bits = 1 := by decide
  rw [h, Int.fdiv_eq_ediv_of_nonneg _ (by decide)]
  simp
theorem pos_tri {l : List Tpl} {t x y : Tpl} {m k : Nat} (hs : strict l) (hx : l[m]? = some x) (hy : l[k]? = some y) : (k ≤ m → tlt x t = true → tlt y t = true) ∧ (m ≤ k → tlt x t = false → tlt y t = false) := by
  obtain ⟨h1, h2⟩ := List.getElem?_eq_some_iff.1 hx
  obtain ⟨h3, h4⟩ := List.getElem?_eq_some_iff.1 hy
  have hp := List.pairwise_iff_getElem.1 hs
  constructor
  · intro h5 h6
    rcases Nat.lt_or_eq_of_le h5 with h7 | h7
    · have := hp k m h3 h1 h7
      rw [h2, h4] at this
      exact tlt_tr _ _ _ this h6
    · subst h7
      rw [hx] at hy; cases hy; exact h6
  · intro h5 h6
    rcases Nat.lt_or_eq_of_le h5 with h7 | h7
    · have := hp m k h1 h3 h7
      rw [h2, h4] at this
      cases h8 : tlt y t with
      | false => rfl
      | true => rw [tlt_tr _ _ _ this h8] at h6; cases h6
    · subst h7
      rw [hx] at hy; cases hy; exact h6
theorem bsearch_spec (v : Value) (l : List Tpl) (t : Tpl) (R : Rds) (h : RS R 7 Tpl.enc v l) (hs : strict l) (hl : l.length ≤ 100000) :
    Spec Tryz.prog 53 [v, .agg t.enc.toArray, .func (.func 54) #[] #[]] R [] fun u H' => (∃ (i : Nat) (β : Bool), u = .tuple [.int .i64 (i : Nat), .bool β].toArray ∧ i ≤ l.length ∧ (∀ k x, k < i → l[k]? = some x → tlt x t = true) ∧ (∀ k x, i ≤ k → l[k]? = some x → tlt x t = false) ∧ (β = true ↔ l[i]? = some t)) ∧ H' = [] := by
  obtain ⟨pv, kv_, rfl⟩ := h.val
  have hrs := h
  refine Spec.body Tryz.func53 rfl Tryz.results53 Tryz.ntmps53 rfl ?_
  refine .seq (.region ?_)
  refine TriOps.boxA rfl (fun b4 => ?_)
  refine .q .assign ?_
  refine .q .assign ?_
  refine .nil (seqQ_n ?_)
  refine .seq (.region ?_)
  refine .q .move ?_
  refine .q (.lenR hrs) ?_
  refine .q .assign ?_
  refine .nil (seqQ_n ?_)
  refine .seq (.region ?_)
  refine .q .move ?_
  refine .q .assign ?_
  refine .q .assign ?_
  refine .nil (seqQ_n ?_)
  refine .seq ?_
  refine .block ?_
  refine .loop (X := Nat × Nat) (fun y => (y.1 ≤ y.2 ∧ y.2 ≤ l.length) ∧ (∀ k x, k < y.1 → l[k]? = some x → tlt x t = true) ∧ (∀ k x, y.2 ≤ k → l[k]? = some x → tlt x t = false)) (fun y => [(0, .slice pv l.length kv_), (2, .func (.func 54) #[] #[]), (4, .pointer (some ⟨b4, 0, none⟩)), (8, .int .i64 (l.length : Nat)), (9, .int .i64 (y.1 : Nat)), (10, .int .i64 (y.2 : Nat))]) (fun _ => [[(b4, .cells t.enc.toArray 36 (0, 0))]]) (fun y => y.2 - y.1) (0, l.length) ⟨⟨Nat.zero_le _, Nat.le_refl _⟩, fun k x hk => absurd hk (Nat.not_lt_zero _), fun k x hk hx => absurd (List.getElem?_eq_some_iff.1 hx).1 (by omega)⟩ (((((((EnvLe.nil _).cons rfl).cons rfl).cons rfl).cons rfl).cons rfl).cons rfl) (HLe.refl _) ?_
  rintro ⟨i, j⟩ ⟨⟨hij, hjn⟩, hA, hB⟩
  simp only at hij hjn hA hB ⊢
  refine .seq ?_
  refine .seq (.region ?_)
  refine .q .move ?_
  refine .q .move ?_
  refine .q .lss ?_
  refine .nil (seqQ_n ?_)
  refine .cond rfl (fun h1 => ?_) (fun h1 => ?_)
  have hlt : i < j := by have := of_decide_eq_true h1; omega
  refine .skip ?_
  refine seqQ_n ?_
  refine .block ?_
  refine .seq (.region ?_)
  refine .q .move ?_
  refine .q .move ?_
  refine .q (.i64 ((i + j : Nat) : Int) .add ⟨by omega, by omega, by omega⟩) ?_
  refine .q (.u64 ((i + j : Nat) : Int) .convI ⟨rfl, by omega, by omega⟩) ?_
  refine .q .shrI ?_
  rw [half_fdiv]
  refine .q (.i64 (((i + j) / 2 : Nat) : Int) .convI ⟨rfl, by omega, by omega⟩) ?_
  obtain ⟨m, hm⟩ : ∃ m, m = (i + j) / 2 := ⟨_, rfl⟩
  rw [← hm]
  obtain ⟨x, hx⟩ : ∃ x, l[m]? = some x := ⟨_, List.getElem?_eq_getElem (by omega)⟩
  refine .q .assign ?_
  refine .nil (seqQ_n ?_)
  refine .seq ?_
  refine .region_tail 6 mixed (by kernel_rfl) ?_
  conv => arg 6; dsimp only [List.take]
  refine .q .move ?_
  refine .q .move ?_
  refine .q .move ?_
  refine TriOps.indexR m hrs hx (fun p27 => ?_)
  refine .q (.loadA rfl) ?_
  refine .q (.loadA rfl) ?_
  refine .nil ?_
  refine TriOps.callRV (first := []) (captured := []) (vs := [.agg x.enc.toArray, .agg t.enc.toArray]) (worder_spec x t _) (fun u hu => ?_)
  subst hu
  refine .q .lss ?_
  refine .nil (seqQ_n ?_)
  refine .cond rfl (fun h2 => ?_) (fun h2 => ?_)
  have hlx : tlt x t = true := by have := of_decide_eq_true h2; unfold tlt; rw [ordc_neg] at this; exact decide_eq_true this
  refine .region ?_
  refine .q .move ?_
  refine .q (.i64 ((m + 1 : Nat) : Int) .add ⟨by omega, by omega, by omega⟩) ?_
  refine .q .assign ?_
  refine .nil ?_
  refine blkQ_n ?_
  · first
      | exact loopQ_i (m + 1, j) ⟨⟨by simp only; omega, hjn⟩, fun k y hk hy => (pos_tri hs hx hy).1 (by simp only at hk; omega) hlx, hB⟩ (by simp only; omega) (((((((EnvLe.nil _).cons rfl).cons rfl).cons rfl).cons rfl).cons rfl).cons rfl) (HLe.refl _)
      | exact loopQ_i (i, m) ⟨⟨by simp only; omega, by simp only; omega⟩, hA, fun k y hk hy => (pos_tri hs hx hy).2 hk hlx⟩ (by simp only; omega) (((((((EnvLe.nil _).cons rfl).cons rfl).cons rfl).cons rfl).cons rfl).cons rfl) (HLe.refl _)
  have hlx : tlt x t = false := by have := of_decide_eq_false h2; unfold tlt; rw [ordc_neg] at this; exact decide_eq_false this
  refine .region ?_
  refine .q .move ?_
  refine .q .assign ?_
  refine .nil ?_
  refine blkQ_n ?_
  · first
      | exact loopQ_i (m + 1, j) ⟨⟨by simp only; omega, hjn⟩, fun k y hk hy => (pos_tri hs hx hy).1 (by simp only at hk; omega) hlx, hB⟩ (by simp only; omega) (((((((EnvLe.nil _).cons rfl).cons rfl).cons rfl).cons rfl).cons rfl).cons rfl) (HLe.refl _)
      | exact loopQ_i (i, m) ⟨⟨by simp only; omega, by simp only; omega⟩, hA, fun k y hk hy => (pos_tri hs hx hy).2 hk hlx⟩ (by simp only; omega) (((((((EnvLe.nil _).cons rfl).cons rfl).cons rfl).cons rfl).cons rfl).cons rfl) (HLe.refl _)
  have hij2 : i = j := by have := of_decide_eq_false h1; omega
  subst hij2
  refine .exit (seqQ_x (loopQ_x (blkQ_x ?_)))
  refine seqQ_n ?_
  refine .seq ?_
  refine .region_all [] mixed ?_
  refine .takeO 0 rfl .move (by kernel_rfl) ?_
  refine .takeO 1 rfl .move (by kernel_rfl) ?_
  refine .takeO 2 rfl .move (by kernel_rfl) ?_
  refine .takeO 3 rfl .lss (by kernel_rfl) ?_
  refine .takeO 4 rfl .move (by kernel_rfl) ?_
  refine RA.split (t := 39) rfl (fun g8_4 => ?_) (fun g8_4 => ?_)
  have hlt8 : i < l.length := by have := of_decide_eq_true g8_4; omega
  obtain ⟨x, hx⟩ : ∃ x, l[i]? = some x := ⟨_, List.getElem?_eq_getElem hlt8⟩
  have pxi := hrs.pc hx
  refine .takeGhO 5 rfl rfl g8_4 .move (by kernel_rfl) ?_
  refine .takeGhO 6 rfl rfl g8_4 .move (by kernel_rfl) ?_
  refine .takeGhO 7 rfl rfl g8_4 .move (by kernel_rfl) ?_
  refine .takeGhO 8 rfl rfl g8_4 (.indexR i hrs hx rfl rfl rfl) (by kernel_rfl) ?_
  refine .takeGhO 9 rfl rfl g8_4 (.loadA rfl) (by kernel_rfl) ?_
  refine .takeGhO 10 rfl rfl g8_4 (.loadA rfl) (by kernel_rfl) ?_
  refine RA.step 11 rfl (by kernel_rfl) rfl ?_
  refine TriOps.gT g8_4 ?_
  refine TriOps.callRV (first := []) (captured := []) (vs := [.agg x.enc.toArray, .agg t.enc.toArray]) (worder_spec x t _) (fun u hu => ?_)
  subst hu
  refine .nil (Next.sub ?_)
  refine .takeGhO 12 rfl rfl g8_4 .eqI (by kernel_rfl) ?_
  refine .takeO 13 rfl (.pickTh g8_4) (by kernel_rfl) ?_
  refine .takeO 14 rfl .assign (by kernel_rfl) ?_
  refine .takeO 15 rfl .assign (by kernel_rfl) ?_
  refine RA.nil (by kernel_rfl) ?_
  refine seqQ_n ?_
  refine .ret (retQ_r _ (.two (.tmp rfl) (.tmp rfl)) (.none _) ?_)
  · refine ⟨⟨i, _, rfl, hjn, hA, hB, ?_⟩, rfl⟩
    rw [hx, Option.some.injEq]
    constructor
    · exact fun h => ordc_zero (eq_of_beq h)
    · exact fun h => by rw [h]; exact beq_iff_eq.2 (ordc_ok.refl t)
  refine .takeFh 5 rfl rfl g8_4 rfl (by kernel_rfl) ?_
  refine .takeFh 6 rfl rfl g8_4 rfl (by kernel_rfl) ?_
  refine .takeFh 7 rfl rfl g8_4 rfl (by kernel_rfl) ?_
  refine .takeFh 8 rfl rfl g8_4 rfl (by kernel_rfl) ?_
  refine .takeFh 9 rfl rfl g8_4 rfl (by kernel_rfl) ?_
  refine .takeFh 10 rfl rfl g8_4 rfl (by kernel_rfl) ?_
  refine RA.step 11 rfl (by kernel_rfl) rfl ?_
  refine TriOps.gF g8_4 ?_
  refine .nil (Next.sub ?_)
  refine .takeFh 12 rfl rfl g8_4 rfl (by kernel_rfl) ?_
  refine .takeO 13 rfl (.pickFh g8_4) (by kernel_rfl) ?_
  refine .takeO 14 rfl .assign (by kernel_rfl) ?_
  refine .takeO 15 rfl .assign (by kernel_rfl) ?_
  refine RA.nil (by kernel_rfl) ?_
  refine seqQ_n ?_
  refine .ret (retQ_r _ (.two (.tmp rfl) (.tmp rfl)) (.none _) ?_)
  · refine ⟨⟨i, _, rfl, hjn, hA, hB, ?_⟩, rfl⟩
    have hge := of_decide_eq_false g8_4
    rw [List.getElem?_eq_none (by omega)]
    simp
/-- One event more. -/
def replay1 (l : List Tpl) (e : Ev) : List Tpl := if e.c.put then (if e.c.t ∈ l then l else gins tlt e.c.t l) else l.filter fun t => decide (t ≠ e.c.t)
theorem gins_at {l : List Tpl} {t : Tpl} : ∀ {i : Nat}, i ≤ l.length → (∀ k x, k < i → l[k]? = some x → tlt x t = true) → (∀ k x, i ≤ k → l[k]? = some x → tlt x t = false) → t ∉ l → gins tlt t l = l.take i ++ [t] ++ l.drop i := by
  induction l with
  | nil => intro i _ _ _ _; simp [gins]
  | cons y l ih =>
    intro i hi hA hB hn
    cases i with
    | zero =>
      have h1 := hB 0 y (Nat.le_refl _) rfl
      have h2 : tlt t y = true := by
        rcases tlt_tri (a := t) (b := y) (fun e => hn (by rw [e]; simp)) with h | h
        · exact h
        · rw [h1] at h; cases h
      simp [gins, h2]
    | succ i =>
      have h1 := hA 0 y (Nat.succ_pos _) rfl
      have h2 := ih (i := i) (by simpa using hi) (fun k x hk hx => hA (k + 1) x (by omega) (by simpa using hx)) (fun k x hk hx => hB (k + 1) x (by omega) (by simpa using hx)) (fun h => hn (by simp [h]))
      simp [gins, tlt_asym h1, h2]
theorem filter_at {l : List Tpl} {t : Tpl} {i : Nat} (hs : strict l) (h : l[i]? = some t) : l.filter (fun x => decide (x ≠ t)) = l.take i ++ l.drop (i + 1) := by
  obtain ⟨h1, h2⟩ := List.getElem?_eq_some_iff.1 h
  have hp := List.pairwise_iff_getElem.1 hs
  have e : l = l.take i ++ t :: l.drop (i + 1) := by
    rw [← h2, ← List.drop_eq_getElem_cons h1, List.take_append_drop]
  have hne : ∀ k y, k ≠ i → l[k]? = some y → y ≠ t := fun k y hk hy he => by
    obtain ⟨h3, h4⟩ := List.getElem?_eq_some_iff.1 hy
    rcases Nat.lt_or_gt_of_ne hk with h5 | h5
    · have := hp k i h3 h1 h5
      rw [h2, h4, he, tlt_irr] at this; cases this
    · have := hp i k h1 h3 h5
      rw [h2, h4, he, tlt_irr] at this; cases this
  conv => lhs; rw [e]
  rw [List.filter_append, List.filter_cons, if_neg (by simp)]
  congr 1
  · rw [List.filter_eq_self]
    intro y hy
    obtain ⟨k, hk, hky⟩ := List.mem_iff_getElem.1 hy
    rw [List.length_take] at hk
    rw [List.getElem_take] at hky
    exact decide_eq_true (hne k y (by omega) (by rw [← hky]; exact List.getElem?_eq_getElem (by omega)))
  · rw [List.filter_eq_self]
    intro y hy
    obtain ⟨k, hk, hky⟩ := List.mem_iff_getElem.1 hy
    rw [List.length_drop] at hk
    rw [List.getElem_drop] at hky
    exact decide_eq_true (hne (i + 1 + k) y (by omega) (by rw [← hky]; exact List.getElem?_eq_getElem (by omega)))
theorem replay1_strict {l : List Tpl} (h : strict l) (e : Ev) : strict (replay1 l e) := by
  unfold replay1
  split
  · split
    · exact h
    · rename_i h1
      exact gins_strict tlt_tr h fun y hy => tlt_tri fun e => h1 (e ▸ hy)
  · exact h.sublist List.filter_sublist
theorem replay1_len {l : List Tpl} (e : Ev) : (replay1 l e).length ≤ l.length + 1 := by
  unfold replay1
  split
  · split
    · omega
    · rw [gins_len]; exact Nat.le_refl _
  · exact Nat.le_trans (List.length_filter_le _ _) (by omega)
theorem replay1_same {L : List Tpl} {e : Ev} {β : Bool} (hm : β = true ↔ e.c.t ∈ L) (h1 : (e.c.put && !β) = false) (h2 : (!e.c.put && β) = false) : replay1 L e = L := by
  unfold replay1
  cases hp : e.c.put with
  | true =>
    rw [hp] at h1
    rw [if_pos rfl, if_pos (hm.1 (by simpa using h1))]
  | false =>
    rw [hp] at h2
    have hb : β = false := by simpa using h2
    have hn : e.c.t ∉ L := fun h => by rw [hm.2 h] at hb; cases hb
    rw [if_neg (by simp), List.filter_eq_self]
    intro y hy
    exact decide_eq_true fun e => hn (e ▸ hy)
theorem foldl_strict : ∀ {l : List Tpl}, strict l → ∀ es : List Ev, strict (es.foldl replay1 l)
  | _, h, [] => h
  | _, h, e :: es => foldl_strict (replay1_strict h e) es
theorem foldl_len : ∀ {l : List Tpl} (es : List Ev), (es.foldl replay1 l).length ≤ l.length + es.length
  | l, [] => by simp
  | l, e :: es => by
    have h1 := foldl_len (l := replay1 l e) es
    have h2 := replay1_len (l := l) e
    rw [List.foldl_cons, List.length_cons]
    omega
theorem replay_spec (v w : Value) (l : List Tpl) (es : List Ev) (R : Rds) (h : RS R 7 Tpl.enc v l) (hs : strict l) (hl : l.length ≤ 10000) (he : RS R 9 Ev.enc w es) (hel : es.length ≤ 20000) :
    Spec Tryz.prog 22 [v, w] R [] fun u H' => ∃ T, H' = [T] ∧ OS 36 7 Tpl.enc u (es.foldl replay1 l) T := by
  have iv := h.oneCell
  obtain ⟨pw, kw_, rfl⟩ := he.val
  have hrs := he
  refine Spec.body Tryz.func22 rfl Tryz.results22 Tryz.ntmps22 rfl ?_
  refine .seq (.region ?_)
  refine .q .assign ?_
  refine .nil (seqQ_n ?_)
  refine .seq (.region ?_)
  refine .q .move ?_
  refine TriOps.callN (LTP.clone_spec _ l _ h.rx (by omega)) (fun u T0 hO => ?_)
  have iu := hO.oneCell
  refine .q .assign ?_
  refine .nil (seqQ_n ?_)
  refine .seq ?_
  refine .seq (.region ?_)
  refine .q .move ?_
  refine .q (.lenR hrs) ?_
  refine .q .move ?_
  refine .nil (seqQ_n ?_)
  refine .block ?_
  refine .loop (X := Nat × Value × Seg) (fun y => y.1 ≤ es.length ∧ OS 36 7 Tpl.enc y.2.1 ((es.take y.1).foldl replay1 l) y.2.2) (fun y => [(5, y.2.1), (12, .slice pw es.length kw_), (13, .int .i64 (es.length : Nat)), (14, .int .i64 (y.1 : Nat))]) (fun y => [y.2.2]) (fun y => es.length - y.1) (0, u, T0) ⟨Nat.zero_le _, hO⟩ (((((EnvLe.nil _).cons rfl).cons rfl).cons rfl).cons rfl) (HLe.refl _) ?_
  rintro ⟨i, vo, To⟩ ⟨hi, hOo⟩
  simp only at hi hOo ⊢
  have io := hOo.oneCell
  obtain ⟨L, hL⟩ : ∃ L, L = (es.take i).foldl replay1 l := ⟨_, rfl⟩
  rw [← hL] at hOo
  have hsl : strict L := by rw [hL]; exact foldl_strict hs _
  have hll : L.length ≤ 30000 := by
    have := foldl_len (l := l) (es.take i)
    rw [List.length_take] at this
    rw [hL]; omega
  refine .seq (.region ?_)
  refine .q .lss ?_
  refine .nil (seqQ_n ?_)
  refine .seq ?_
  refine .cond rfl (fun h1 => ?_) (fun h1 => ?_)
  have hlt : i < es.length := by have := of_decide_eq_true h1; omega
  obtain ⟨e, hx⟩ : ∃ x, es[i]? = some x := ⟨_, List.getElem?_eq_getElem hlt⟩
  have htk : (es.take (i + 1)).foldl replay1 l = replay1 L e := by rw [List.take_add_one, hx, Option.toList_some, List.foldl_append, hL]; rfl
  refine .skip ?_
  refine seqQ_n ?_
  refine .seq ?_
  refine .block ?_
  refine .seq (.region ?_)
  refine TriOps.indexR i hrs hx (fun p16 => ?_)
  refine .q (.loadA rfl) ?_
  refine TriOps.allocA (fun b7 => ?_)
  refine TriOps.storeA rfl rfl ?_
  refine .nil (seqQ_n ?_)
  refine .seq (.region ?_)
  refine .q .move ?_
  refine .q (.fieldAddr rfl) ?_
  refine .q (.fieldAddr rfl) ?_
  refine .q (.loadT rfl) ?_
  refine TriOps.callR (bsearch_spec _ L e.c.t _ hOo.rx hsl (by omega)) (fun u hu => ?_)
  obtain ⟨j, β, rfl, hj, hA, hB, hβ⟩ := hu
  have hmem : β = true ↔ e.c.t ∈ L := by
    rw [hβ]
    constructor
    · exact fun h => List.mem_of_getElem? h
    · intro h
      obtain ⟨k, hk, hkt⟩ := List.mem_iff_getElem.1 h
      have h1 : L[k]? = some e.c.t := by rw [List.getElem?_eq_getElem hk, hkt]
      rcases Nat.lt_trichotomy k j with h2 | h2 | h2
      · have := hA k _ h2 h1
        rw [tlt_irr] at this; cases this
      · rw [← h2]; exact h1
      · obtain ⟨y, hy⟩ : ∃ y, L[j]? = some y := ⟨_, List.getElem?_eq_getElem (by omega)⟩
        have h3 := hB j y (Nat.le_refl _) hy
        obtain ⟨h4, h5⟩ := List.getElem?_eq_some_iff.1 hy
        have h6 := List.pairwise_iff_getElem.1 hsl j k h4 hk h2
        rw [h5, hkt, h3] at h6; cases h6
  refine .q .move ?_
  refine .q .extract ?_
  refine .q .extract ?_
  refine .q .assign ?_
  refine .q .assign ?_
  refine .nil (seqQ_n ?_)
  refine .block ?_
  refine .seq (.region ?_)
  refine .q (.fieldAddr rfl) ?_
  refine .q (.fieldAddr rfl) ?_
  refine .q (.load1 rfl) ?_
  refine .q .move ?_
  refine TriOps.split (t := 30) rfl (fun g6_3 => ?_) (fun g6_3 => ?_)
  refine TriOps.gT g6_3 ?_
  refine .q .move ?_
  refine TriOps.gT g6_3 ?_
  refine .q .not ?_
  refine .q (.pickTh g6_3) ?_
  refine .q .assign ?_
  refine .nil (seqQ_n ?_)
  refine .cond rfl (fun h2 => ?_) (fun h2 => ?_)
  have hnm : e.c.t ∉ L := fun h => by rw [hmem.2 h] at h2; cases h2
  have hres : replay1 L e = L.take j ++ [e.c.t] ++ L.drop j := by unfold replay1; rw [if_pos g6_3, if_neg hnm]; exact gins_at hj hA hB hnm
  refine .region ?_
  refine .q .move ?_
  refine .q .move ?_
  refine .q (.fieldAddr rfl) ?_
  refine .q (.fieldAddr rfl) ?_
  refine .q (.loadT rfl) ?_
  refine TriOps.buildSlice1A (fun b39 => ?_)
  refine TriOps.callW (insert_spec vo L To j e.c.t b39 _ hOo hj (by omega) (.inr (List.mem_flatten.2 ⟨_, List.mem_cons_self, List.mem_cons_self⟩))) (fun u7 T7 hO7 => ?_)
  have i7 := hO7.oneCell
  rw [← hres, ← htk] at hO7
  refine .q .assign ?_
  refine .nil ?_
  refine blkQ_n (blkQ_n (seqQ_n ?_))
  refine .region ?_
  refine .q (.i64 ((i + 1 : Nat) : Int) .add ⟨by omega, by omega, by omega⟩) ?_
  refine .q .move ?_
  refine .nil ?_
  · first
      | exact loopQ_i (i + 1, u7, T7) ⟨hlt, hO7⟩ (by simp only; omega) (((((EnvLe.nil _).cons rfl).cons rfl).cons rfl).cons rfl) (by first | exact HLe.pick [2] _ | exact HLe.pick [1] _)
      | exact loopQ_i (i + 1, vo, To) ⟨hlt, by simp only; rw [htk, replay1_same hmem (by simp_all) (by simp_all)]; exact hOo⟩ (by simp only; omega) (((((EnvLe.nil _).cons rfl).cons rfl).cons rfl).cons rfl) (HLe.pick [1] _)
  refine .seq (.region ?_)
  refine .q (.fieldAddr rfl) ?_
  refine .q (.fieldAddr rfl) ?_
  refine .q (.load1 rfl) ?_
  refine .q .not ?_
  refine .q .move ?_
  refine TriOps.split (t := 46) rfl (fun g8_4 => ?_) (fun g8_4 => ?_)
  have hpf : e.c.put = false := by simpa using g8_4
  refine TriOps.gT g8_4 ?_
  refine .q .move ?_
  refine .q (.pickTh g8_4) ?_
  refine .q .assign ?_
  refine .nil (seqQ_n ?_)
  refine .cond rfl (fun h3 => ?_) (fun h3 => ?_)
  have hb3 : β = true := by simpa using h3
  have hjt : L[j]? = some e.c.t := hβ.1 hb3
  have hjl : j < L.length := (List.getElem?_eq_some_iff.1 hjt).1
  refine .region ?_
  refine .q .move ?_
  refine .q .move ?_
  refine .q .move ?_
  refine .q (.i64 ((j + 1 : Nat) : Int) .add ⟨by omega, by omega, by omega⟩) ?_
  refine TriOps.callM (delete_spec vo L To j _ hOo hjl (by omega)) (fun u7 T7 hO7 => ?_)
  have i7 := hO7.oneCell
  have hres : replay1 L e = L.take j ++ L.drop (j + 1) := by unfold replay1; rw [if_neg (by rw [hpf]; simp)]; exact filter_at hsl hjt
  rw [← hres, ← htk] at hO7
  refine .q .assign ?_
  refine .nil ?_
  refine blkQ_n (blkQ_n (seqQ_n ?_))
  refine .region ?_
  refine .q (.i64 ((i + 1 : Nat) : Int) .add ⟨by omega, by omega, by omega⟩) ?_
  refine .q .move ?_
  refine .nil ?_
  · first
      | exact loopQ_i (i + 1, u7, T7) ⟨hlt, hO7⟩ (by simp only; omega) (((((EnvLe.nil _).cons rfl).cons rfl).cons rfl).cons rfl) (by first | exact HLe.pick [2] _ | exact HLe.pick [1] _)
      | exact loopQ_i (i + 1, vo, To) ⟨hlt, by simp only; rw [htk, replay1_same hmem (by simp_all) (by simp_all)]; exact hOo⟩ (by simp only; omega) (((((EnvLe.nil _).cons rfl).cons rfl).cons rfl).cons rfl) (HLe.pick [1] _)
  refine .skip ?_
  refine blkQ_n (blkQ_n (seqQ_n ?_))
  refine .region ?_
  refine .q (.i64 ((i + 1 : Nat) : Int) .add ⟨by omega, by omega, by omega⟩) ?_
  refine .q .move ?_
  refine .nil ?_
  · first
      | exact loopQ_i (i + 1, u7, T7) ⟨hlt, hO7⟩ (by simp only; omega) (((((EnvLe.nil _).cons rfl).cons rfl).cons rfl).cons rfl) (by first | exact HLe.pick [2] _ | exact HLe.pick [1] _)
      | exact loopQ_i (i + 1, vo, To) ⟨hlt, by simp only; rw [htk, replay1_same hmem (by simp_all) (by simp_all)]; exact hOo⟩ (by simp only; omega) (((((EnvLe.nil _).cons rfl).cons rfl).cons rfl).cons rfl) (HLe.pick [1] _)
  refine TriOps.gF g8_4 ?_
  refine .q (.pickFh g8_4) ?_
  refine .q .assign ?_
  refine .nil (seqQ_n ?_)
  refine .condF ?_
  refine .skip ?_
  refine blkQ_n (blkQ_n (seqQ_n ?_))
  refine .region ?_
  refine .q (.i64 ((i + 1 : Nat) : Int) .add ⟨by omega, by omega, by omega⟩) ?_
  refine .q .move ?_
  refine .nil ?_
  · first
      | exact loopQ_i (i + 1, u7, T7) ⟨hlt, hO7⟩ (by simp only; omega) (((((EnvLe.nil _).cons rfl).cons rfl).cons rfl).cons rfl) (by first | exact HLe.pick [2] _ | exact HLe.pick [1] _)
      | exact loopQ_i (i + 1, vo, To) ⟨hlt, by simp only; rw [htk, replay1_same hmem (by simp_all) (by simp_all)]; exact hOo⟩ (by simp only; omega) (((((EnvLe.nil _).cons rfl).cons rfl).cons rfl).cons rfl) (HLe.pick [1] _)
  refine TriOps.gF g6_3 ?_
  refine TriOps.gF g6_3 ?_
  refine .q (.pickFh g6_3) ?_
  refine .q .assign ?_
  refine .nil (seqQ_n ?_)
  refine .condF ?_
  refine .seq (.region ?_)
  refine .q (.fieldAddr rfl) ?_
  refine .q (.fieldAddr rfl) ?_
  refine .q (.load1 rfl) ?_
  refine .q .not ?_
  refine .q .move ?_
  refine TriOps.split (t := 46) rfl (fun g8_4 => ?_) (fun g8_4 => ?_)
  have hpf : e.c.put = false := by simpa using g8_4
  refine TriOps.gT g8_4 ?_
  refine .q .move ?_
  refine .q (.pickTh g8_4) ?_
  refine .q .assign ?_
  refine .nil (seqQ_n ?_)
  refine .cond rfl (fun h3 => ?_) (fun h3 => ?_)
  have hb3 : β = true := by simpa using h3
  have hjt : L[j]? = some e.c.t := hβ.1 hb3
  have hjl : j < L.length := (List.getElem?_eq_some_iff.1 hjt).1
  refine .region ?_
  refine .q .move ?_
  refine .q .move ?_
  refine .q .move ?_
  refine .q (.i64 ((j + 1 : Nat) : Int) .add ⟨by omega, by omega, by omega⟩) ?_
  refine TriOps.callM (delete_spec vo L To j _ hOo hjl (by omega)) (fun u7 T7 hO7 => ?_)
  have i7 := hO7.oneCell
  have hres : replay1 L e = L.take j ++ L.drop (j + 1) := by unfold replay1; rw [if_neg (by rw [hpf]; simp)]; exact filter_at hsl hjt
  rw [← hres, ← htk] at hO7
  refine .q .assign ?_
  refine .nil ?_
  refine blkQ_n (blkQ_n (seqQ_n ?_))
  refine .region ?_
  refine .q (.i64 ((i + 1 : Nat) : Int) .add ⟨by omega, by omega, by omega⟩) ?_
  refine .q .move ?_
  refine .nil ?_
  · first
      | exact loopQ_i (i + 1, u7, T7) ⟨hlt, hO7⟩ (by simp only; omega) (((((EnvLe.nil _).cons rfl).cons rfl).cons rfl).cons rfl) (by first | exact HLe.pick [2] _ | exact HLe.pick [1] _)
      | exact loopQ_i (i + 1, vo, To) ⟨hlt, by simp only; rw [htk, replay1_same hmem (by simp_all) (by simp_all)]; exact hOo⟩ (by simp only; omega) (((((EnvLe.nil _).cons rfl).cons rfl).cons rfl).cons rfl) (HLe.pick [1] _)
  refine .skip ?_
  refine blkQ_n (blkQ_n (seqQ_n ?_))
  refine .region ?_
  refine .q (.i64 ((i + 1 : Nat) : Int) .add ⟨by omega, by omega, by omega⟩) ?_
  refine .q .move ?_
  refine .nil ?_
  · first
      | exact loopQ_i (i + 1, u7, T7) ⟨hlt, hO7⟩ (by simp only; omega) (((((EnvLe.nil _).cons rfl).cons rfl).cons rfl).cons rfl) (by first | exact HLe.pick [2] _ | exact HLe.pick [1] _)
      | exact loopQ_i (i + 1, vo, To) ⟨hlt, by simp only; rw [htk, replay1_same hmem (by simp_all) (by simp_all)]; exact hOo⟩ (by simp only; omega) (((((EnvLe.nil _).cons rfl).cons rfl).cons rfl).cons rfl) (HLe.pick [1] _)
  refine TriOps.gF g8_4 ?_
  refine .q (.pickFh g8_4) ?_
  refine .q .assign ?_
  refine .nil (seqQ_n ?_)
  refine .condF ?_
  refine .skip ?_
  refine blkQ_n (blkQ_n (seqQ_n ?_))
  refine .region ?_
  refine .q (.i64 ((i + 1 : Nat) : Int) .add ⟨by omega, by omega, by omega⟩) ?_
  refine .q .move ?_
  refine .nil ?_
  · first
      | exact loopQ_i (i + 1, u7, T7) ⟨hlt, hO7⟩ (by simp only; omega) (((((EnvLe.nil _).cons rfl).cons rfl).cons rfl).cons rfl) (by first | exact HLe.pick [2] _ | exact HLe.pick [1] _)
      | exact loopQ_i (i + 1, vo, To) ⟨hlt, by simp only; rw [htk, replay1_same hmem (by simp_all) (by simp_all)]; exact hOo⟩ (by simp only; omega) (((((EnvLe.nil _).cons rfl).cons rfl).cons rfl).cons rfl) (HLe.pick [1] _)
  have hie : i = es.length := by have := of_decide_eq_false h1; omega
  subst hie
  rw [List.take_length] at hL
  refine .exit (seqQ_x (loopQ_x (blkQ_x ?_)))
  refine seqQ_n ?_
  refine .seq (.region ?_)
  refine .q .move ?_
  refine .q .assign ?_
  refine .nil (seqQ_n ?_)
  refine .ret (retQ_r _ (.one (.tmp rfl)) (.one [0] _) ?_)
  · exact ⟨To, by simp [take], by rw [← hL]; exact hOo⟩
end Go.Proofs.YtkepgbimlolemaaGreat
set_option linter.unusedVariables false
set_option linter.unusedSimpArgs false
set_option maxRecDepth 4000
namespace Go.Proofs.YtkepgbimlolemaaGreat
theorem replay1_del {L : List Tpl} {e : Ev} (h : e.c.put = false) : replay1 L e = L.filter fun t => decide (t ≠ e.c.t) := by unfold replay1; rw [if_neg (by rw [h]; simp)]
theorem replay1_new {L : List Tpl} {e : Ev} (h : e.c.put = true) (hn : L.any (fun y => decide (y = e.c.t)) = false) : replay1 L e = gins tlt e.c.t L := by
  unfold replay1
  rw [if_pos h, if_neg fun hm => by
    have := List.any_eq_false.1 hn _ hm
    simp at this]
theorem replay1_old {L : List Tpl} {e : Ev} (h : e.c.put = true) (hn : L.any (fun y => decide (y = e.c.t)) = true) : replay1 L e = L := by
  unfold replay1
  obtain ⟨y, hy, he⟩ := List.any_eq_true.1 hn
  have he := of_decide_eq_true he
  rw [if_pos h, if_pos (by rw [← he]; exact hy)]
theorem rreplay_spec (v w : Value) (l : List Tpl) (es : List Ev) (R : Rds) (h : RS R 7 Tpl.enc v l) (hl : l.length ≤ 10000) (he : RS R 9 Ev.enc w es) (hel : es.length ≤ 20000) :
    Spec Tryz.prog 23 [v, w] R [] fun u H' => ∃ T, H' = [T] ∧ RS (fun b o => R b o ∨ (b, o) ∈ T) 7 Tpl.enc u (es.foldl replay1 l) := by
  have iv := h.oneCell
  obtain ⟨pw, kw_, rfl⟩ := he.val
  have hrs := he
  refine Spec.segs (H' := [[]]) (by simp) ?_
  refine Spec.body Tryz.func23 rfl Tryz.results23 Tryz.ntmps23 rfl ?_
  refine .seq (.region ?_)
  refine .q .assign ?_
  refine .nil (seqQ_n ?_)
  refine .seq (.region ?_)
  refine .q .move ?_
  refine .q .assign ?_
  refine .nil (seqQ_n ?_)
  refine .seq ?_
  refine .seq (.region ?_)
  refine .q .assign ?_
  refine .nil (seqQ_n ?_)
  refine .block ?_
  refine .loop (X := Nat × Value × Seg) (fun y => y.1 ≤ es.length ∧ RS (fun b o => R b o ∨ (b, o) ∈ y.2.2) 7 Tpl.enc y.2.1 ((es.take y.1).foldl replay1 l)) (fun y => [(1, .slice pw es.length kw_), (5, y.2.1), (6, .int .i64 (y.1 : Nat))]) (fun y => [y.2.2]) (fun y => es.length - y.1) (0, v, []) ⟨Nat.zero_le _, h.mono fun b o hb => .inl hb⟩ ((((EnvLe.nil _).cons rfl).cons rfl).cons rfl) (HLe.refl _) ?_
  rintro ⟨i, vo, To⟩ ⟨hi, hOo⟩
  simp only at hi hOo ⊢
  have io := hOo.oneCell
  obtain ⟨L, hL⟩ : ∃ L, L = (es.take i).foldl replay1 l := ⟨_, rfl⟩
  rw [← hL] at hOo
  have hll : L.length ≤ 30000 := by
    have := foldl_len (l := l) (es.take i)
    rw [List.length_take] at this
    rw [hL]; omega
  refine .seq ?_
  refine .seq (.region ?_)
  refine .q .move ?_
  refine .q .move ?_
  refine .q (.lenR hrs) ?_
  refine .q .lss ?_
  refine .nil (seqQ_n ?_)
  refine .cond rfl (fun h1 => ?_) (fun h1 => ?_)
  have hlt : i < es.length := by have := of_decide_eq_true h1; omega
  obtain ⟨e, hx⟩ : ∃ x, es[i]? = some x := ⟨_, List.getElem?_eq_getElem hlt⟩
  have htk : (es.take (i + 1)).foldl replay1 l = replay1 L e := by rw [List.take_add_one, hx, Option.toList_some, List.foldl_append, hL]; rfl
  refine .skip ?_
  refine seqQ_n ?_
  refine .seq ?_
  refine .block ?_
  refine .seq (.region ?_)
  refine .q .move ?_
  refine .q .move ?_
  refine TriOps.indexR i hrs hx (fun p20 => ?_)
  refine .q (.fieldAddr rfl) ?_
  refine .q (.fieldAddr rfl) ?_
  refine .q (.loadT rfl) ?_
  refine TriOps.allocA (fun b7 => ?_)
  refine TriOps.storeA rfl rfl ?_
  refine .nil (seqQ_n ?_)
  refine .seq (.region ?_)
  refine .q .assign ?_
  refine .nil (seqQ_n ?_)
  refine .seq (.region ?_)
  refine .q .assign ?_
  refine .nil (seqQ_n ?_)
  refine .seq ?_
  refine .seq (.region ?_)
  refine .q .assign ?_
  refine .nil (seqQ_n ?_)
  refine .block ?_
  refine .loop (X := Nat × Value × Seg) (fun y => y.1 ≤ L.length ∧ OS 36 7 Tpl.enc y.2.1 ((L.take y.1).filter fun t => decide (t ≠ e.c.t)) y.2.2) (fun y => [(1, .slice pw es.length kw_), (5, vo), (6, .int .i64 (i : Nat)), (7, .pointer (some ⟨b7, 0, none⟩)), (8, y.2.1), (9, .bool ((L.take y.1).any fun y => decide (y = e.c.t))), (10, .int .i64 (y.1 : Nat))]) (fun y => [[(b7, .cells e.c.t.enc.toArray 36 (0, 0))], To, y.2.2]) (fun y => L.length - y.1) (0, .slice none 0 0, []) ⟨Nat.zero_le _, OS.nil⟩ ((((((((EnvLe.nil _).cons rfl).cons rfl).cons rfl).cons rfl).cons rfl).cons rfl).cons rfl) (HLe.ofPerm (by simp; rfl)) ?_
  rintro ⟨k, vn, Tn⟩ ⟨hk, hN⟩
  simp only at hk hN ⊢
  have i_n := hN.oneCell
  have hnl : ((L.take k).filter fun t => decide (t ≠ e.c.t)).length ≤ 30000 := Nat.le_trans (List.length_filter_le _ _) (by rw [List.length_take]; omega)
  have hOr : RS (Rx R [[(b7, .cells e.c.t.enc.toArray 36 (0, 0))], To, Tn]) 7 Tpl.enc vo L := hOo.mono fun b o hb => hb.imp id fun hb => by simp [hb]
  refine .seq ?_
  refine .seq (.region ?_)
  refine .q .move ?_
  refine .q .move ?_
  refine .q (.lenR hOo) ?_
  refine .q .lss ?_
  refine .nil (seqQ_n ?_)
  refine .cond rfl (fun h2 => ?_) (fun h2 => ?_)
  have hlt5 : k < L.length := by have := of_decide_eq_true h2; omega
  obtain ⟨x, hxk⟩ : ∃ x, L[k]? = some x := ⟨_, List.getElem?_eq_getElem hlt5⟩
  have htk2 : L.take (k + 1) = L.take k ++ [x] := by rw [List.take_add_one, hxk]; rfl
  have hany : ((L.take (k + 1)).any fun y => decide (y = e.c.t)) = (((L.take k).any fun y => decide (y = e.c.t)) || decide (x = e.c.t)) := by rw [htk2, List.any_append]; simp
  have pxk : RC R [[(b7, .cells e.c.t.enc.toArray 36 (0, 0))], To, Tn] (baseP vo (k * 7)) x.enc := ⟨hOr.pc hxk⟩
  refine .skip ?_
  refine seqQ_n ?_
  refine .seq ?_
  refine .block ?_
  refine .seq ?_
  refine .region_still mixed (by kernel_rfl) ?_
  refine .q .move ?_
  refine .q .move ?_
  refine .q (.indexR k hOo hxk rfl rfl rfl) ?_
  refine .q (.loadA rfl) ?_
  refine .q (.loadA rfl) ?_
  refine .q (.eqA rfl rfl (Tpl.kinds x) (Tpl.kinds e.c.t)) ?_
  rw [Tpl.eq x e.c.t]
  refine .nil (seqQ_n ?_)
  refine .cond rfl (fun h3 => ?_) (fun h3 => ?_)
  have hxe : x = e.c.t := of_decide_eq_true h3
  refine .region ?_
  refine .q .assign ?_
  refine .nil ?_
  refine blkQ_n (seqQ_n ?_)
  refine .region ?_
  refine .q .move ?_
  refine .q (.i64 ((k + 1 : Nat) : Int) .add ⟨by omega, by omega, by omega⟩) ?_
  refine .q .assign ?_
  refine .nil ?_
  · first
      | exact loopQ_i (k + 1, vn, Tn) ⟨hlt5, by simp only; rw [htk2, List.filter_append, List.filter_cons, if_neg (by simp [hxe]), List.filter_nil, List.append_nil]; exact hN⟩ (by simp only; omega) (by simp only; rw [hany, decide_eq_true hxe, Bool.or_true]; exact (((((((EnvLe.nil _).cons rfl).cons rfl).cons rfl).cons rfl).cons rfl).cons rfl).cons rfl) (HLe.refl _)
      | exact loopQ_i (k + 1, v5, T5) ⟨hlt5, by simp only; rw [htk2, List.filter_append, List.filter_cons, if_pos (by simp [hxe]), List.filter_nil]; exact hO5⟩ (by simp only; omega) (by simp only; rw [hany, decide_eq_false hxe, Bool.or_false]; exact (((((((EnvLe.nil _).cons rfl).cons rfl).cons rfl).cons rfl).cons rfl).cons rfl).cons rfl) (HLe.pick [1, 1, 1] _)
  have hxe : x ≠ e.c.t := of_decide_eq_false h3
  refine .region ?_
  refine .q .move ?_
  refine .q .move ?_
  refine .q .move ?_
  refine .q (.indexR k hOo hxk rfl rfl rfl) ?_
  refine .q (.loadA rfl) ?_
  refine TriOps.buildSlice1A (fun b41 => ?_)
  refine TriOps.append hN (RS.lits (xs := [x]) rfl (by simp [Tpl.enc]) (by simp [Tpl.enc, oneCell])) (by simp only [List.length_singleton]; omega) (fun v5 T5 hO5 => ?_)
  have i5 := hO5.oneCell
  refine .q .assign ?_
  refine .nil ?_
  refine blkQ_n (seqQ_n ?_)
  refine .region ?_
  refine .q .move ?_
  refine .q (.i64 ((k + 1 : Nat) : Int) .add ⟨by omega, by omega, by omega⟩) ?_
  refine .q .assign ?_
  refine .nil ?_
  · first
      | exact loopQ_i (k + 1, vn, Tn) ⟨hlt5, by simp only; rw [htk2, List.filter_append, List.filter_cons, if_neg (by simp [hxe]), List.filter_nil, List.append_nil]; exact hN⟩ (by simp only; omega) (by simp only; rw [hany, decide_eq_true hxe, Bool.or_true]; exact (((((((EnvLe.nil _).cons rfl).cons rfl).cons rfl).cons rfl).cons rfl).cons rfl).cons rfl) (HLe.refl _)
      | exact loopQ_i (k + 1, v5, T5) ⟨hlt5, by simp only; rw [htk2, List.filter_append, List.filter_cons, if_pos (by simp [hxe]), List.filter_nil]; exact hO5⟩ (by simp only; omega) (by simp only; rw [hany, decide_eq_false hxe, Bool.or_false]; exact (((((((EnvLe.nil _).cons rfl).cons rfl).cons rfl).cons rfl).cons rfl).cons rfl).cons rfl) (HLe.pick [1, 1, 1] _)
  have hkl : k = L.length := by have := of_decide_eq_false h2; omega
  subst hkl
  rw [List.take_length] at hN ⊢
  refine .exit (seqQ_x (loopQ_x (blkQ_x ?_)))
  refine seqQ_n ?_
  refine .seq (.region ?_)
  refine .q .move ?_
  refine .q .move ?_
  refine TriOps.indexR i hrs hx (fun p45 => ?_)
  refine .q (.fieldAddr rfl) ?_
  refine .q (.fieldAddr rfl) ?_
  refine .q (.load1 rfl) ?_
  refine .q .not ?_
  refine .nil (seqQ_n ?_)
  refine .cond rfl (fun h4 => ?_) (fun h4 => ?_)
  have hput : e.c.put = false := by simpa using h4
  refine .region ?_
  refine .q .move ?_
  refine .q .assign ?_
  refine .nil ?_
  refine blkQ_n (seqQ_n ?_)
  refine .region ?_
  refine .q .move ?_
  refine .q (.i64 ((i + 1 : Nat) : Int) .add ⟨by omega, by omega, by omega⟩) ?_
  refine .q .assign ?_
  refine .nil ?_
  · first
      | exact loopQ_i (i + 1, vn, Tn) ⟨hlt, by simp only; rw [htk, replay1_del hput]; exact (hN.rs (R := sg Tn) fun p hp => hp).mono fun b o hb => .inr hb⟩ (by simp only; omega) ((((EnvLe.nil _).cons rfl).cons rfl).cons rfl) (HLe.pick [2] _)
      | exact loopQ_i (i + 1, u7, T7) ⟨hlt, by simp only; rw [htk]; exact (hO7.rs (R := sg T7) fun p hp => hp).mono fun b o hb => .inr hb⟩ (by simp only; omega) ((((EnvLe.nil _).cons rfl).cons rfl).cons rfl) (HLe.pick [0] _)
      | exact loopQ_i (i + 1, vo, To) ⟨hlt, by simp only; rw [htk]; exact hOo⟩ (by simp only; omega) ((((EnvLe.nil _).cons rfl).cons rfl).cons rfl) (HLe.pick [1] _)
  have hput : e.c.put = true := by simpa using h4
  refine .seq (.region ?_)
  refine .q .move ?_
  refine .q .not ?_
  refine .nil (seqQ_n ?_)
  refine .cond rfl (fun h5 => ?_) (fun h5 => ?_)
  have hany : (L.any fun y => decide (y = e.c.t)) = false := by simpa using h5
  rw [replay1_new hput hany] at htk
  refine .region ?_
  refine .q .move ?_
  refine .q (.loadA rfl) ?_
  refine TriOps.callN (rinsert_spec _ L e.c.t _ hOr (by omega)) (fun u7 T7 hO7 => ?_)
  have i7 := hO7.oneCell
  refine .q .assign ?_
  refine .nil ?_
  refine blkQ_n (seqQ_n ?_)
  refine .region ?_
  refine .q .move ?_
  refine .q (.i64 ((i + 1 : Nat) : Int) .add ⟨by omega, by omega, by omega⟩) ?_
  refine .q .assign ?_
  refine .nil ?_
  · first
      | exact loopQ_i (i + 1, vn, Tn) ⟨hlt, by simp only; rw [htk, replay1_del hput]; exact (hN.rs (R := sg Tn) fun p hp => hp).mono fun b o hb => .inr hb⟩ (by simp only; omega) ((((EnvLe.nil _).cons rfl).cons rfl).cons rfl) (HLe.pick [2] _)
      | exact loopQ_i (i + 1, u7, T7) ⟨hlt, by simp only; rw [htk]; exact (hO7.rs (R := sg T7) fun p hp => hp).mono fun b o hb => .inr hb⟩ (by simp only; omega) ((((EnvLe.nil _).cons rfl).cons rfl).cons rfl) (HLe.pick [0] _)
      | exact loopQ_i (i + 1, vo, To) ⟨hlt, by simp only; rw [htk]; exact hOo⟩ (by simp only; omega) ((((EnvLe.nil _).cons rfl).cons rfl).cons rfl) (HLe.pick [1] _)
  have hany : (L.any fun y => decide (y = e.c.t)) = true := by simpa using h5
  rw [replay1_old hput hany] at htk
  refine .skip ?_
  refine blkQ_n (seqQ_n ?_)
  refine .region ?_
  refine .q .move ?_
  refine .q (.i64 ((i + 1 : Nat) : Int) .add ⟨by omega, by omega, by omega⟩) ?_
  refine .q .assign ?_
  refine .nil ?_
  · first
      | exact loopQ_i (i + 1, vn, Tn) ⟨hlt, by simp only; rw [htk, replay1_del hput]; exact (hN.rs (R := sg Tn) fun p hp => hp).mono fun b o hb => .inr hb⟩ (by simp only; omega) ((((EnvLe.nil _).cons rfl).cons rfl).cons rfl) (HLe.pick [2] _)
      | exact loopQ_i (i + 1, u7, T7) ⟨hlt, by simp only; rw [htk]; exact (hO7.rs (R := sg T7) fun p hp => hp).mono fun b o hb => .inr hb⟩ (by simp only; omega) ((((EnvLe.nil _).cons rfl).cons rfl).cons rfl) (HLe.pick [0] _)
      | exact loopQ_i (i + 1, vo, To) ⟨hlt, by simp only; rw [htk]; exact hOo⟩ (by simp only; omega) ((((EnvLe.nil _).cons rfl).cons rfl).cons rfl) (HLe.pick [1] _)
  have hie : i = es.length := by have := of_decide_eq_false h1; omega
  subst hie
  rw [List.take_length] at hL
  refine .exit (seqQ_x (loopQ_x (blkQ_x ?_)))
  refine seqQ_n ?_
  refine .seq (.region ?_)
  refine .q .move ?_
  refine .q .assign ?_
  refine .nil (seqQ_n ?_)
  refine .ret (retQ_r _ (.one (.tmp rfl)) (.one [0] _) ?_)
  · exact ⟨To, by simp [take], by rw [← hL]; exact hOo⟩
end Go.Proofs.YtkepgbimlolemaaGreat
set_option linter.unusedVariables false
set_option linter.unusedSimpArgs false
set_option maxRecDepth 4000
namespace Go.Proofs.YtkepgbimlolemaaGreat
theorem ev_of {H : Type} {enc : TypeId × Value → H} {W : World} {f : Nat} {cs : List Value} {x : DataW H × List MemPlace} (h : DataW.trod enc Tryz.prog W 0 (fun _ => true) true f 75 cs = some x) : ∃ e : Ev, cs = e.enc ∧ e.c.t.fits := by
  obtain ⟨hl, hp⟩ := parts_of Tryz.underlying75 h
  have hc : Tryz.prog.cellsOf 75 = 9 := by kernel_rfl
  rw [hc] at hl
  have c23 : Tryz.prog.cellsOf 23 = 1 := by kernel_rfl
  have c73 : Tryz.prog.cellsOf 73 = 8 := by kernel_rfl
  match cs, hl with
  | [a0, a1, a2, a3, a4, a5, a6, a7, a8], _ =>
    obtain ⟨n0, y0, h0⟩ : ∃ n y, DataW.trod enc Tryz.prog W 0 (fun _ => true) true n 23 (([a0, a1, a2, a3, a4, a5, a6, a7, a8].drop 0).take (Tryz.prog.cellsOf 23)) = some y := hp 0 _ rfl
    obtain ⟨n1, y1, h1⟩ : ∃ n y, DataW.trod enc Tryz.prog W 0 (fun _ => true) true n 73 (([a0, a1, a2, a3, a4, a5, a6, a7, a8].drop 1).take (Tryz.prog.cellsOf 73)) = some y := hp 1 _ rfl
    simp only [c23, c73, List.drop_zero, List.drop_succ_cons, List.take_succ_cons, List.take_zero] at h0 h1
    obtain ⟨z0, e0, m0, m1⟩ := u64_of h0
    obtain ⟨c, e1, hc⟩ := chg_of h1
    cases e0; cases e1
    exact ⟨⟨z0, c⟩, rfl, hc⟩
theorem evs_of {H : Type} {enc : TypeId × Value → H} {W : World} {f : Nat} {cs : List Value} {x : DataW H × List MemPlace} (h : DataW.trod enc Tryz.prog W 0 (fun _ => true) true f 54 cs = some x) : ∃ v l, cs = [v] ∧ RS (Rw W) 9 Ev.enc v l ∧ ∀ e ∈ l, e.c.t.fits :=
  RS.ofCells (D := fun e : Ev => e.c.t.fits) (sz := 9) (en := Ev.enc) Tryz.underlying54 (by kernel_rfl) (by omega) h fun n cs x hx => by
    obtain ⟨e, rfl, he⟩ := ev_of hx
    exact ⟨rfl, (Ev.one e).h, e, rfl, he⟩
/-- One tuple more, where it is one and is not there. -/
def win1 (l : List Tpl) (t : Tpl) : List Tpl := if isTpl t = true ∧ (l.any fun y => decide (y = t)) = false then gins tlt t l else l
theorem win1_strict {l : List Tpl} (h : strict l) (t : Tpl) : strict (win1 l t) := by
  unfold win1
  split
  · rename_i h1
    exact gins_strict tlt_tr h fun y hy => tlt_tri fun e => by
      have := List.any_eq_false.1 h1.2 y hy
      simp [e] at this
  · exact h
theorem win1_len {l : List Tpl} (t : Tpl) : (win1 l t).length ≤ l.length + 1 := by
  unfold win1
  split
  · rw [gins_len]; exact Nat.le_refl _
  · omega
theorem win_strict : ∀ {l : List Tpl}, strict l → ∀ ts : List Tpl, strict (ts.foldl win1 l)
  | _, h, [] => h
  | _, h, e :: es => win_strict (win1_strict h e) es
theorem win_len : ∀ {l : List Tpl} (ts : List Tpl), (ts.foldl win1 l).length ≤ l.length + ts.length
  | l, [] => by simp
  | l, e :: es => by
    have h1 := win_len (l := win1 l e) es
    have h2 := win1_len (l := l) e
    rw [List.foldl_cons, List.length_cons]
    omega
theorem wreplays_spec (v w : Value) (l : List Tpl) (es : List Ev) (R : Rds) (h : RS R 7 Tpl.enc v l) (hf : ∀ t ∈ l, t.fits) (he : RS R 9 Ev.enc w es) (hef : ∀ e ∈ es, e.c.t.fits) :
    Spec Tryz.prog 7 [v, w] R [] fun u H' => u = .bool true ∧ H' = [] := by
  have hle := h.le
  have hel := he.le
  obtain ⟨pv, kv_, rfl⟩ := h.val
  obtain ⟨pw, kw_, rfl⟩ := he.val
  refine Spec.body Tryz.func7 rfl Tryz.results7 Tryz.ntmps7 rfl ?_
  refine .seq (.region ?_)
  refine .q .assign ?_
  refine .nil (seqQ_n ?_)
  refine .seq (.region ?_)
  refine .q .assign ?_
  refine .q .assign ?_
  refine .nil (seqQ_n ?_)
  refine .seq ?_
  refine .seq (.region ?_)
  refine .q .assign ?_
  refine .nil (seqQ_n ?_)
  refine .block ?_
  refine .loop (X := Nat × Value × Seg) (fun y => (y.1 ≤ l.length ∧ y.1 ≤ 12) ∧ OS 36 7 Tpl.enc y.2.1 ((l.take y.1).foldl win1 []) y.2.2) (fun y => [(0, .slice pv l.length kv_), (1, .slice pw es.length kw_), (5, y.2.1), (6, .slice none 0 0), (7, .int .i64 (y.1 : Nat))]) (fun y => [y.2.2, []]) (fun y => l.length - y.1) (0, .slice none 0 0, []) ⟨⟨Nat.zero_le _, Nat.zero_le _⟩, OS.nil⟩ ((((((EnvLe.nil _).cons rfl).cons rfl).cons rfl).cons rfl).cons rfl) (HLe.ofPerm (by simp)) ?_
  rintro ⟨i, vo, To⟩ ⟨⟨hi, hi2⟩, hO⟩
  simp only at hi hi2 hO ⊢
  have io := hO.oneCell
  obtain ⟨L, hL⟩ : ∃ L, L = (l.take i).foldl win1 [] := ⟨_, rfl⟩
  rw [← hL] at hO
  have hll : L.length ≤ 12 := by
    have := win_len (l := []) (l.take i)
    rw [List.length_take, List.length_nil] at this
    rw [hL]; omega
  have hsl : strict L := by rw [hL]; exact win_strict List.Pairwise.nil _
  have hnil : OS 36 7 Tpl.enc (.slice none 0 0) [] [] := OS.nil
  refine .seq ?_
  refine .seq (.region ?_)
  refine .q .move ?_
  refine .q .move ?_
  refine .q (.lenR h) ?_
  refine .q .lss ?_
  refine .q .move ?_
  refine TriOps.split (t := 16) rfl (fun g3_4 => ?_) (fun g3_4 => ?_)
  have hlt : i < l.length := by have := of_decide_eq_true g3_4; omega
  obtain ⟨x, hx⟩ : ∃ x, l[i]? = some x := ⟨_, List.getElem?_eq_getElem hlt⟩
  have htk : (l.take (i + 1)).foldl win1 [] = win1 L x := by rw [List.take_add_one, hx, Option.toList_some, List.foldl_append, hL]; rfl
  refine TriOps.gT g3_4 ?_
  refine .q .move ?_
  refine TriOps.gT g3_4 ?_
  refine .q .lss ?_
  refine .q (.pickTh g3_4) ?_
  refine .nil (seqQ_n ?_)
  refine .cond rfl (fun h1 => ?_) (fun h1 => ?_)
  refine .skip ?_
  refine seqQ_n ?_
  refine .seq ?_
  refine .block ?_
  refine .seq (.region ?_)
  refine .q .assign ?_
  refine .nil (seqQ_n ?_)
  refine .seq ?_
  refine .seq (.region ?_)
  refine .q .assign ?_
  refine .nil (seqQ_n ?_)
  refine .block ?_
  refine .loop (X := Nat) (fun k => k ≤ L.length) (fun k => [(0, .slice pv l.length kv_), (1, .slice pw es.length kw_), (5, vo), (6, .slice none 0 0), (7, .int .i64 (i : Nat)), (8, .bool ((L.take k).any fun y => decide (y = x))), (9, .int .i64 (k : Nat))]) (fun k => [To, []]) (fun k => L.length - k) 0 (Nat.zero_le _) ((((((((EnvLe.nil _).cons rfl).cons rfl).cons rfl).cons rfl).cons rfl).cons rfl).cons rfl) (HLe.refl _) ?_
  rintro k hk
  refine .seq ?_
  refine .seq (.region ?_)
  refine .q .move ?_
  refine .q .move ?_
  refine .q (.lenO hO) ?_
  refine .q .lss ?_
  refine .nil (seqQ_n ?_)
  refine .cond rfl (fun h2 => ?_) (fun h2 => ?_)
  have hlt5 : k < L.length := by have := of_decide_eq_true h2; omega
  obtain ⟨y, hyk⟩ : ∃ y, L[k]? = some y := ⟨_, List.getElem?_eq_getElem hlt5⟩
  have htk2 : L.take (k + 1) = L.take k ++ [y] := by rw [List.take_add_one, hyk]; rfl
  have hany : ((L.take (k + 1)).any fun y => decide (y = x)) = (((L.take k).any fun y => decide (y = x)) || decide (y = x)) := by rw [htk2, List.any_append]; simp
  refine .skip ?_
  refine seqQ_n ?_
  refine .seq ?_
  refine .block ?_
  refine .region_still mixed (by kernel_rfl) ?_
  refine .q .move ?_
  refine .q .move ?_
  refine TriOps.split (t := 29) rfl (fun g9_1 => ?_) (fun g9_1 => ?_)
  refine TriOps.gF g9_1 ?_
  refine TriOps.gF g9_1 ?_
  refine TriOps.gF g9_1 ?_
  refine TriOps.gF g9_1 ?_
  refine TriOps.gF g9_1 ?_
  refine TriOps.gF g9_1 ?_
  refine TriOps.gF g9_1 ?_
  refine TriOps.gF g9_1 ?_
  refine TriOps.gF g9_1 ?_
  refine .q (.pickTh g9_1) ?_
  refine .q .assign ?_
  refine .nil ?_
  refine blkQ_n (seqQ_n ?_)
  refine .region ?_
  refine .q .move ?_
  refine .q (.i64 ((k + 1 : Nat) : Int) .add ⟨by omega, by omega, by omega⟩) ?_
  refine .q .assign ?_
  refine .nil ?_
  · first
      | exact loopQ_i (k + 1) hlt5 (by omega) (by rw [hany, g9_1, Bool.true_or]; exact (((((((EnvLe.nil _).cons rfl).cons rfl).cons rfl).cons rfl).cons rfl).cons rfl).cons rfl) (HLe.refl _)
      | exact loopQ_i (k + 1) hlt5 (by omega) (by rw [hany, g9_1, Bool.false_or]; exact (((((((EnvLe.nil _).cons rfl).cons rfl).cons rfl).cons rfl).cons rfl).cons rfl).cons rfl) (HLe.refl _)
  refine TriOps.gT g9_1 ?_
  refine .q .move ?_
  refine TriOps.gT g9_1 ?_
  refine .q .move ?_
  refine TriOps.gT g9_1 ?_
  refine TriOps.indexO k hO hyk (fun p32 => ?_)
  refine TriOps.gT g9_1 ?_
  refine .q (.loadA rfl) ?_
  refine TriOps.gT g9_1 ?_
  refine .q .move ?_
  refine TriOps.gT g9_1 ?_
  refine .q .move ?_
  refine TriOps.gT g9_1 ?_
  refine TriOps.indexR i h hx (fun p36 => ?_)
  refine TriOps.gT g9_1 ?_
  refine .q (.loadA rfl) ?_
  refine TriOps.gT g9_1 ?_
  refine .q (.eqA rfl rfl (Tpl.kinds y) (Tpl.kinds x)) ?_
  rw [Tpl.eq y x]
  refine .q (.pickFh g9_1) ?_
  refine .q .assign ?_
  refine .nil ?_
  refine blkQ_n (seqQ_n ?_)
  refine .region ?_
  refine .q .move ?_
  refine .q (.i64 ((k + 1 : Nat) : Int) .add ⟨by omega, by omega, by omega⟩) ?_
  refine .q .assign ?_
  refine .nil ?_
  · first
      | exact loopQ_i (k + 1) hlt5 (by omega) (by rw [hany, g9_1, Bool.true_or]; exact (((((((EnvLe.nil _).cons rfl).cons rfl).cons rfl).cons rfl).cons rfl).cons rfl).cons rfl) (HLe.refl _)
      | exact loopQ_i (k + 1) hlt5 (by omega) (by rw [hany, g9_1, Bool.false_or]; exact (((((((EnvLe.nil _).cons rfl).cons rfl).cons rfl).cons rfl).cons rfl).cons rfl).cons rfl) (HLe.refl _)
  have hkl : k = L.length := by have := of_decide_eq_false h2; omega
  subst hkl
  rw [List.take_length]
  refine .exit (seqQ_x (loopQ_x (blkQ_x ?_)))
  refine seqQ_n ?_
  refine .seq (.region ?_)
  refine .q .move ?_
  refine .q .move ?_
  refine TriOps.indexR i h hx (fun p42 => ?_)
  refine .q (.loadA rfl) ?_
  refine TriOps.callR (risTpl_spec x (hf x (List.mem_of_getElem? hx)) _) (fun u hu => ?_)
  subst hu
  refine .q .move ?_
  refine TriOps.split (t := 45) rfl (fun g10_5 => ?_) (fun g10_5 => ?_)
  refine TriOps.gT g10_5 ?_
  refine .q .move ?_
  refine TriOps.gT g10_5 ?_
  refine .q .not ?_
  refine .q (.pickTh g10_5) ?_
  refine .nil (seqQ_n ?_)
  refine .cond rfl (fun h3 => ?_) (fun h3 => ?_)
  have hany : (L.any fun y => decide (y = x)) = false := by simpa using h3
  have hw : win1 L x = gins tlt x L := by unfold win1; rw [if_pos ⟨g10_5, hany⟩]
  rw [hw] at htk
  refine .region ?_
  refine .q .move ?_
  refine .q .move ?_
  refine .q .move ?_
  refine TriOps.indexR i h hx (fun p52 => ?_)
  refine .q (.loadA rfl) ?_
  refine TriOps.callN (rinsert_spec _ L x _ hO.rx (by omega)) (fun u7 T7 hO7 => ?_)
  have i7 := hO7.oneCell
  refine .q .assign ?_
  refine .nil ?_
  refine blkQ_n (seqQ_n ?_)
  refine .region ?_
  refine .q .move ?_
  refine .q (.i64 ((i + 1 : Nat) : Int) .add ⟨by omega, by omega, by omega⟩) ?_
  refine .q .assign ?_
  refine .nil ?_
  · first
      | exact loopQ_i (i + 1, u7, T7) ⟨⟨hlt, by have := of_decide_eq_true h1; simp only; omega⟩, by simp only; rw [htk]; exact hO7⟩ (by simp only; omega) ((((((EnvLe.nil _).cons rfl).cons rfl).cons rfl).cons rfl).cons rfl) (HLe.pick [0, 1] _)
      | exact loopQ_i (i + 1, vo, To) ⟨⟨hlt, by have := of_decide_eq_true h1; simp only; omega⟩, by simp only; rw [htk]; exact hO⟩ (by simp only; omega) ((((((EnvLe.nil _).cons rfl).cons rfl).cons rfl).cons rfl).cons rfl) (HLe.refl _)
  have hw : win1 L x = L := by
    first
      | (have hany : (L.any fun y => decide (y = x)) = true := by simpa using h3
         unfold win1; rw [if_neg fun hh => by rw [hany] at hh; cases hh.2])
      | (unfold win1; rw [if_neg fun hh => by rw [g10_5] at hh; cases hh.1])
  rw [hw] at htk
  refine .skip ?_
  refine blkQ_n (seqQ_n ?_)
  refine .region ?_
  refine .q .move ?_
  refine .q (.i64 ((i + 1 : Nat) : Int) .add ⟨by omega, by omega, by omega⟩) ?_
  refine .q .assign ?_
  refine .nil ?_
  · first
      | exact loopQ_i (i + 1, u7, T7) ⟨⟨hlt, by have := of_decide_eq_true h1; simp only; omega⟩, by simp only; rw [htk]; exact hO7⟩ (by simp only; omega) ((((((EnvLe.nil _).cons rfl).cons rfl).cons rfl).cons rfl).cons rfl) (HLe.pick [0, 1] _)
      | exact loopQ_i (i + 1, vo, To) ⟨⟨hlt, by have := of_decide_eq_true h1; simp only; omega⟩, by simp only; rw [htk]; exact hO⟩ (by simp only; omega) ((((((EnvLe.nil _).cons rfl).cons rfl).cons rfl).cons rfl).cons rfl) (HLe.refl _)
  refine TriOps.gF g10_5 ?_
  refine TriOps.gF g10_5 ?_
  refine .q (.pickFh g10_5) ?_
  refine .nil (seqQ_n ?_)
  refine .condF ?_
  have hw : win1 L x = L := by
    first
      | (have hany : (L.any fun y => decide (y = x)) = true := by simpa using h3
         unfold win1; rw [if_neg fun hh => by rw [hany] at hh; cases hh.2])
      | (unfold win1; rw [if_neg fun hh => by rw [g10_5] at hh; cases hh.1])
  rw [hw] at htk
  refine .skip ?_
  refine blkQ_n (seqQ_n ?_)
  refine .region ?_
  refine .q .move ?_
  refine .q (.i64 ((i + 1 : Nat) : Int) .add ⟨by omega, by omega, by omega⟩) ?_
  refine .q .assign ?_
  refine .nil ?_
  · first
      | exact loopQ_i (i + 1, u7, T7) ⟨⟨hlt, by have := of_decide_eq_true h1; simp only; omega⟩, by simp only; rw [htk]; exact hO7⟩ (by simp only; omega) ((((((EnvLe.nil _).cons rfl).cons rfl).cons rfl).cons rfl).cons rfl) (HLe.pick [0, 1] _)
      | exact loopQ_i (i + 1, vo, To) ⟨⟨hlt, by have := of_decide_eq_true h1; simp only; omega⟩, by simp only; rw [htk]; exact hO⟩ (by simp only; omega) ((((((EnvLe.nil _).cons rfl).cons rfl).cons rfl).cons rfl).cons rfl) (HLe.refl _)
  refine .exit (seqQ_x (loopQ_x (blkQ_x ?_)))
  refine seqQ_n ?_
  refine .seq (.region ?_)
  refine .q .move ?_
  refine .q .move ?_
  refine TriOps.append hnil hO.rx (by simp only [List.length_nil]; omega) (fun v5 T5 hO5 => ?_)
  rw [List.nil_append] at hO5
  have i5 := hO5.oneCell
  refine .q .assign ?_
  refine .nil (seqQ_n ?_)
  refine .seq (.region ?_)
  refine .q .assign ?_
  refine .nil (seqQ_n ?_)
  refine .seq ?_
  refine .seq (.region ?_)
  refine .q .assign ?_
  refine .nil (seqQ_n ?_)
  refine .block ?_
  refine .loop (X := Nat × Value × Seg) (fun y => (y.1 ≤ es.length ∧ y.1 ≤ 20) ∧ OS 75 9 Ev.enc y.2.1 ((es.take y.1).filter fun e => isTpl e.c.t) y.2.2) (fun y => [(1, .slice pw es.length kw_), (5, vo), (6, v5), (10, y.2.1), (11, .int .i64 (y.1 : Nat))]) (fun y => [To, T5, y.2.2]) (fun y => es.length - y.1) (0, .slice none 0 0, []) ⟨⟨Nat.zero_le _, Nat.zero_le _⟩, OS.nil⟩ ((((((EnvLe.nil _).cons rfl).cons rfl).cons rfl).cons rfl).cons rfl) (HLe.ofPerm (by simp)) ?_
  rintro ⟨j, vf, Tf⟩ ⟨⟨hj, hj2⟩, hF⟩
  simp only at hj hj2 hF ⊢
  have i_f := hF.oneCell
  have hfl : ((es.take j).filter fun e => isTpl e.c.t).length ≤ 20 := Nat.le_trans (List.length_filter_le _ _) (by rw [List.length_take]; omega)
  refine .seq ?_
  refine .seq (.region ?_)
  refine .q .move ?_
  refine .q .move ?_
  refine .q (.lenR he) ?_
  refine .q .lss ?_
  refine .q .move ?_
  refine TriOps.split (t := 62) rfl (fun g15_4 => ?_) (fun g15_4 => ?_)
  have hltj : j < es.length := by have := of_decide_eq_true g15_4; omega
  obtain ⟨e, hxe⟩ : ∃ x, es[j]? = some x := ⟨_, List.getElem?_eq_getElem hltj⟩
  have htk3 : es.take (j + 1) = es.take j ++ [e] := by rw [List.take_add_one, hxe]; rfl
  refine TriOps.gT g15_4 ?_
  refine .q .move ?_
  refine TriOps.gT g15_4 ?_
  refine .q .lss ?_
  refine .q (.pickTh g15_4) ?_
  refine .nil (seqQ_n ?_)
  refine .cond rfl (fun h4 => ?_) (fun h4 => ?_)
  refine .skip ?_
  refine seqQ_n ?_
  refine .seq ?_
  refine .block ?_
  refine .seq (.region ?_)
  refine .q .move ?_
  refine .q .move ?_
  refine TriOps.indexR j he hxe (fun p70 => ?_)
  refine .q (.fieldAddr rfl) ?_
  refine .q (.fieldAddr rfl) ?_
  refine .q (.loadT rfl) ?_
  refine TriOps.callR (risTpl_spec e.c.t (hef e (List.mem_of_getElem? hxe)) _) (fun u hu => ?_)
  subst hu
  refine .nil (seqQ_n ?_)
  refine .cond rfl (fun h5 => ?_) (fun h5 => ?_)
  refine .region ?_
  refine .q .move ?_
  refine .q .move ?_
  refine .q .move ?_
  refine TriOps.indexR j he hxe (fun p78 => ?_)
  refine .q (.loadA rfl) ?_
  refine TriOps.buildSlice1A (fun b80 => ?_)
  refine TriOps.append hF (RS.lits (xs := [e]) rfl (by simp [Ev.enc, Chg.enc, Tpl.enc]) (by simp [Ev.enc, Chg.enc, Tpl.enc, oneCell])) (by simp only [List.length_singleton]; omega) (fun v6 T6 hO6 => ?_)
  have i6 := hO6.oneCell
  refine .q .assign ?_
  refine .nil ?_
  refine blkQ_n (seqQ_n ?_)
  refine .region ?_
  refine .q .move ?_
  refine .q (.i64 ((j + 1 : Nat) : Int) .add ⟨by omega, by omega, by omega⟩) ?_
  refine .q .assign ?_
  refine .nil ?_
  · first
      | exact loopQ_i (j + 1, v6, T6) ⟨⟨hltj, by have := of_decide_eq_true h4; simp only; omega⟩, by simp only; rw [htk3, List.filter_append, List.filter_cons, if_pos h5, List.filter_nil]; exact hO6⟩ (by simp only; omega) ((((((EnvLe.nil _).cons rfl).cons rfl).cons rfl).cons rfl).cons rfl) (HLe.pick [1, 1, 1] _)
      | exact loopQ_i (j + 1, vf, Tf) ⟨⟨hltj, by have := of_decide_eq_true h4; simp only; omega⟩, by simp only; rw [htk3, List.filter_append, List.filter_cons, if_neg (by rw [h5]; simp), List.filter_nil, List.append_nil]; exact hF⟩ (by simp only; omega) ((((((EnvLe.nil _).cons rfl).cons rfl).cons rfl).cons rfl).cons rfl) (HLe.refl _)
  refine .skip ?_
  refine blkQ_n (seqQ_n ?_)
  refine .region ?_
  refine .q .move ?_
  refine .q (.i64 ((j + 1 : Nat) : Int) .add ⟨by omega, by omega, by omega⟩) ?_
  refine .q .assign ?_
  refine .nil ?_
  · first
      | exact loopQ_i (j + 1, v6, T6) ⟨⟨hltj, by have := of_decide_eq_true h4; simp only; omega⟩, by simp only; rw [htk3, List.filter_append, List.filter_cons, if_pos h5, List.filter_nil]; exact hO6⟩ (by simp only; omega) ((((((EnvLe.nil _).cons rfl).cons rfl).cons rfl).cons rfl).cons rfl) (HLe.pick [1, 1, 1] _)
      | exact loopQ_i (j + 1, vf, Tf) ⟨⟨hltj, by have := of_decide_eq_true h4; simp only; omega⟩, by simp only; rw [htk3, List.filter_append, List.filter_cons, if_neg (by rw [h5]; simp), List.filter_nil, List.append_nil]; exact hF⟩ (by simp only; omega) ((((((EnvLe.nil _).cons rfl).cons rfl).cons rfl).cons rfl).cons rfl) (HLe.refl _)
  refine .exit (seqQ_x (loopQ_x (blkQ_x ?_)))
  refine seqQ_n ?_
  refine .seq (.region ?_)
  refine .q .move ?_
  refine .q .move ?_
  refine TriOps.callN (replay_spec v5 vf L _ _ hO5.rx hsl (by omega) hF.rx (by omega)) (fun u7 T7 hO7 => ?_)
  have i7 := hO7.oneCell
  refine .q .move ?_
  refine .q .move ?_
  refine TriOps.callN (rreplay_spec vo vf L _ _ hO.rx (by omega) hF.rx (by omega)) (fun u8 T8 hR8 => ?_)
  have i8 := hR8.oneCell
  refine TriOps.callR (same11_spec _ _ _ _ _ hO7.rx (hR8.mono fun b o hb => by rcases hb with (hb | hb) | hb <;> simp_all [Rx])) (fun u hu => ?_)
  subst hu
  rw [decide_eq_true rfl]
  refine .q .move ?_
  refine TriOps.gt rfl ?_
  refine .q .move ?_
  refine TriOps.gt rfl ?_
  refine .q .move ?_
  refine TriOps.gt rfl ?_
  refine TriOps.callR (same11_spec _ _ _ _ _ hO5.rx hO.rx) (fun u hu => ?_)
  subst hu
  rw [decide_eq_true rfl]
  refine .q .pickT ?_
  refine .q .move ?_
  refine TriOps.gt rfl ?_
  refine TriOps.callR (lives13_spec _) (fun u hu => ?_)
  subst hu
  refine .q .pickT ?_
  refine .q .assign ?_
  refine .nil (seqQ_n ?_)
  refine .ret (retQ_r _ (.one (.tmp rfl)) (.none _) ?_)
  · exact ⟨rfl, rfl⟩
  refine TriOps.gF g15_4 ?_
  refine TriOps.gF g15_4 ?_
  refine .q (.pickFh g15_4) ?_
  refine .nil (seqQ_n ?_)
  refine .condF ?_
  refine .exit (seqQ_x (loopQ_x (blkQ_x ?_)))
  refine seqQ_n ?_
  refine .seq (.region ?_)
  refine .q .move ?_
  refine .q .move ?_
  refine TriOps.callN (replay_spec v5 vf L _ _ hO5.rx hsl (by omega) hF.rx (by omega)) (fun u7 T7 hO7 => ?_)
  have i7 := hO7.oneCell
  refine .q .move ?_
  refine .q .move ?_
  refine TriOps.callN (rreplay_spec vo vf L _ _ hO.rx (by omega) hF.rx (by omega)) (fun u8 T8 hR8 => ?_)
  have i8 := hR8.oneCell
  refine TriOps.callR (same11_spec _ _ _ _ _ hO7.rx (hR8.mono fun b o hb => by rcases hb with (hb | hb) | hb <;> simp_all [Rx])) (fun u hu => ?_)
  subst hu
  rw [decide_eq_true rfl]
  refine .q .move ?_
  refine TriOps.gt rfl ?_
  refine .q .move ?_
  refine TriOps.gt rfl ?_
  refine .q .move ?_
  refine TriOps.gt rfl ?_
  refine TriOps.callR (same11_spec _ _ _ _ _ hO5.rx hO.rx) (fun u hu => ?_)
  subst hu
  rw [decide_eq_true rfl]
  refine .q .pickT ?_
  refine .q .move ?_
  refine TriOps.gt rfl ?_
  refine TriOps.callR (lives13_spec _) (fun u hu => ?_)
  subst hu
  refine .q .pickT ?_
  refine .q .assign ?_
  refine .nil (seqQ_n ?_)
  refine .ret (retQ_r _ (.one (.tmp rfl)) (.none _) ?_)
  · exact ⟨rfl, rfl⟩
  refine TriOps.gF g3_4 ?_
  refine TriOps.gF g3_4 ?_
  refine .q (.pickFh g3_4) ?_
  refine .nil (seqQ_n ?_)
  refine .condF ?_
  refine .exit (seqQ_x (loopQ_x (blkQ_x ?_)))
  refine seqQ_n ?_
  refine .seq (.region ?_)
  refine .q .move ?_
  refine .q .move ?_
  refine TriOps.append hnil hO.rx (by simp only [List.length_nil]; omega) (fun v5 T5 hO5 => ?_)
  rw [List.nil_append] at hO5
  have i5 := hO5.oneCell
  refine .q .assign ?_
  refine .nil (seqQ_n ?_)
  refine .seq (.region ?_)
  refine .q .assign ?_
  refine .nil (seqQ_n ?_)
  refine .seq ?_
  refine .seq (.region ?_)
  refine .q .assign ?_
  refine .nil (seqQ_n ?_)
  refine .block ?_
  refine .loop (X := Nat × Value × Seg) (fun y => (y.1 ≤ es.length ∧ y.1 ≤ 20) ∧ OS 75 9 Ev.enc y.2.1 ((es.take y.1).filter fun e => isTpl e.c.t) y.2.2) (fun y => [(1, .slice pw es.length kw_), (5, vo), (6, v5), (10, y.2.1), (11, .int .i64 (y.1 : Nat))]) (fun y => [To, T5, y.2.2]) (fun y => es.length - y.1) (0, .slice none 0 0, []) ⟨⟨Nat.zero_le _, Nat.zero_le _⟩, OS.nil⟩ ((((((EnvLe.nil _).cons rfl).cons rfl).cons rfl).cons rfl).cons rfl) (HLe.ofPerm (by simp)) ?_
  rintro ⟨j, vf, Tf⟩ ⟨⟨hj, hj2⟩, hF⟩
  simp only at hj hj2 hF ⊢
  have i_f := hF.oneCell
  have hfl : ((es.take j).filter fun e => isTpl e.c.t).length ≤ 20 := Nat.le_trans (List.length_filter_le _ _) (by rw [List.length_take]; omega)
  refine .seq ?_
  refine .seq (.region ?_)
  refine .q .move ?_
  refine .q .move ?_
  refine .q (.lenR he) ?_
  refine .q .lss ?_
  refine .q .move ?_
  refine TriOps.split (t := 62) rfl (fun g15_4 => ?_) (fun g15_4 => ?_)
  have hltj : j < es.length := by have := of_decide_eq_true g15_4; omega
  obtain ⟨e, hxe⟩ : ∃ x, es[j]? = some x := ⟨_, List.getElem?_eq_getElem hltj⟩
  have htk3 : es.take (j + 1) = es.take j ++ [e] := by rw [List.take_add_one, hxe]; rfl
  refine TriOps.gT g15_4 ?_
  refine .q .move ?_
  refine TriOps.gT g15_4 ?_
  refine .q .lss ?_
  refine .q (.pickTh g15_4) ?_
  refine .nil (seqQ_n ?_)
  refine .cond rfl (fun h4 => ?_) (fun h4 => ?_)
  refine .skip ?_
  refine seqQ_n ?_
  refine .seq ?_
  refine .block ?_
  refine .seq (.region ?_)
  refine .q .move ?_
  refine .q .move ?_
  refine TriOps.indexR j he hxe (fun p70 => ?_)
  refine .q (.fieldAddr rfl) ?_
  refine .q (.fieldAddr rfl) ?_
  refine .q (.loadT rfl) ?_
  refine TriOps.callR (risTpl_spec e.c.t (hef e (List.mem_of_getElem? hxe)) _) (fun u hu => ?_)
  subst hu
  refine .nil (seqQ_n ?_)
  refine .cond rfl (fun h5 => ?_) (fun h5 => ?_)
  refine .region ?_
  refine .q .move ?_
  refine .q .move ?_
  refine .q .move ?_
  refine TriOps.indexR j he hxe (fun p78 => ?_)
  refine .q (.loadA rfl) ?_
  refine TriOps.buildSlice1A (fun b80 => ?_)
  refine TriOps.append hF (RS.lits (xs := [e]) rfl (by simp [Ev.enc, Chg.enc, Tpl.enc]) (by simp [Ev.enc, Chg.enc, Tpl.enc, oneCell])) (by simp only [List.length_singleton]; omega) (fun v6 T6 hO6 => ?_)
  have i6 := hO6.oneCell
  refine .q .assign ?_
  refine .nil ?_
  refine blkQ_n (seqQ_n ?_)
  refine .region ?_
  refine .q .move ?_
  refine .q (.i64 ((j + 1 : Nat) : Int) .add ⟨by omega, by omega, by omega⟩) ?_
  refine .q .assign ?_
  refine .nil ?_
  · first
      | exact loopQ_i (j + 1, v6, T6) ⟨⟨hltj, by have := of_decide_eq_true h4; simp only; omega⟩, by simp only; rw [htk3, List.filter_append, List.filter_cons, if_pos h5, List.filter_nil]; exact hO6⟩ (by simp only; omega) ((((((EnvLe.nil _).cons rfl).cons rfl).cons rfl).cons rfl).cons rfl) (HLe.pick [1, 1, 1] _)
      | exact loopQ_i (j + 1, vf, Tf) ⟨⟨hltj, by have := of_decide_eq_true h4; simp only; omega⟩, by simp only; rw [htk3, List.filter_append, List.filter_cons, if_neg (by rw [h5]; simp), List.filter_nil, List.append_nil]; exact hF⟩ (by simp only; omega) ((((((EnvLe.nil _).cons rfl).cons rfl).cons rfl).cons rfl).cons rfl) (HLe.refl _)
  refine .skip ?_
  refine blkQ_n (seqQ_n ?_)
  refine .region ?_
  refine .q .move ?_
  refine .q (.i64 ((j + 1 : Nat) : Int) .add ⟨by omega, by omega, by omega⟩) ?_
  refine .q .assign ?_
  refine .nil ?_
  · first
      | exact loopQ_i (j + 1, v6, T6) ⟨⟨hltj, by have := of_decide_eq_true h4; simp only; omega⟩, by simp only; rw [htk3, List.filter_append, List.filter_cons, if_pos h5, List.filter_nil]; exact hO6⟩ (by simp only; omega) ((((((EnvLe.nil _).cons rfl).cons rfl).cons rfl).cons rfl).cons rfl) (HLe.pick [1, 1, 1] _)
      | exact loopQ_i (j + 1, vf, Tf) ⟨⟨hltj, by have := of_decide_eq_true h4; simp only; omega⟩, by simp only; rw [htk3, List.filter_append, List.filter_cons, if_neg (by rw [h5]; simp), List.filter_nil, List.append_nil]; exact hF⟩ (by simp only; omega) ((((((EnvLe.nil _).cons rfl).cons rfl).cons rfl).cons rfl).cons rfl) (HLe.refl _)
  refine .exit (seqQ_x (loopQ_x (blkQ_x ?_)))
  refine seqQ_n ?_
  refine .seq (.region ?_)
  refine .q .move ?_
  refine .q .move ?_
  refine TriOps.callN (replay_spec v5 vf L _ _ hO5.rx hsl (by omega) hF.rx (by omega)) (fun u7 T7 hO7 => ?_)
  have i7 := hO7.oneCell
  refine .q .move ?_
  refine .q .move ?_
  refine TriOps.callN (rreplay_spec vo vf L _ _ hO.rx (by omega) hF.rx (by omega)) (fun u8 T8 hR8 => ?_)
  have i8 := hR8.oneCell
  refine TriOps.callR (same11_spec _ _ _ _ _ hO7.rx (hR8.mono fun b o hb => by rcases hb with (hb | hb) | hb <;> simp_all [Rx])) (fun u hu => ?_)
  subst hu
  rw [decide_eq_true rfl]
  refine .q .move ?_
  refine TriOps.gt rfl ?_
  refine .q .move ?_
  refine TriOps.gt rfl ?_
  refine .q .move ?_
  refine TriOps.gt rfl ?_
  refine TriOps.callR (same11_spec _ _ _ _ _ hO5.rx hO.rx) (fun u hu => ?_)
  subst hu
  rw [decide_eq_true rfl]
  refine .q .pickT ?_
  refine .q .move ?_
  refine TriOps.gt rfl ?_
  refine TriOps.callR (lives13_spec _) (fun u hu => ?_)
  subst hu
  refine .q .pickT ?_
  refine .q .assign ?_
  refine .nil (seqQ_n ?_)
  refine .ret (retQ_r _ (.one (.tmp rfl)) (.none _) ?_)
  · exact ⟨rfl, rfl⟩
  refine TriOps.gF g15_4 ?_
  refine TriOps.gF g15_4 ?_
  refine .q (.pickFh g15_4) ?_
  refine .nil (seqQ_n ?_)
  refine .condF ?_
  refine .exit (seqQ_x (loopQ_x (blkQ_x ?_)))
  refine seqQ_n ?_
  refine .seq (.region ?_)
  refine .q .move ?_
  refine .q .move ?_
  refine TriOps.callN (replay_spec v5 vf L _ _ hO5.rx hsl (by omega) hF.rx (by omega)) (fun u7 T7 hO7 => ?_)
  have i7 := hO7.oneCell
  refine .q .move ?_
  refine .q .move ?_
  refine TriOps.callN (rreplay_spec vo vf L _ _ hO.rx (by omega) hF.rx (by omega)) (fun u8 T8 hR8 => ?_)
  have i8 := hR8.oneCell
  refine TriOps.callR (same11_spec _ _ _ _ _ hO7.rx (hR8.mono fun b o hb => by rcases hb with (hb | hb) | hb <;> simp_all [Rx])) (fun u hu => ?_)
  subst hu
  rw [decide_eq_true rfl]
  refine .q .move ?_
  refine TriOps.gt rfl ?_
  refine .q .move ?_
  refine TriOps.gt rfl ?_
  refine .q .move ?_
  refine TriOps.gt rfl ?_
  refine TriOps.callR (same11_spec _ _ _ _ _ hO5.rx hO.rx) (fun u hu => ?_)
  subst hu
  rw [decide_eq_true rfl]
  refine .q .pickT ?_
  refine .q .move ?_
  refine TriOps.gt rfl ?_
  refine TriOps.callR (lives13_spec _) (fun u hu => ?_)
  subst hu
  refine .q .pickT ?_
  refine .q .assign ?_
  refine .nil (seqQ_n ?_)
  refine .ret (retQ_r _ (.one (.tmp rfl)) (.none _) ?_)
  · exact ⟨rfl, rfl⟩
end Go.Proofs.YtkepgbimlolemaaGreat
