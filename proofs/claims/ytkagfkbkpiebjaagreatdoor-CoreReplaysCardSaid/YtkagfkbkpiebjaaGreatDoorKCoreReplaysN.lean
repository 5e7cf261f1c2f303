/- What the law 'CoreReplays' uses of this prover's engine, facts and walks. No condition. -/
import Derived.Test.YtkagfkbkpiebjaaGreatDoorKCoreReplaysB
import Derived.Test.YtkagfkbkpiebjaaGreatDoorKCoreReplaysD
import Derived.Test.YtkagfkbkpiebjaaGreatDoorKCoreReplaysH
set_option linter.unusedVariables false
set_option maxRecDepth 4000
namespace Go.Proofs.YtkagfkbkpiebjaaGreatDoor
def cpt : List ByteArray → List ByteArray
 | x :: y :: r => if x = y then cpt (y :: r) else x :: cpt (y :: r)
 | l => l
theorem cpt_snoc (p x : ByteArray) : ∀ l : List ByteArray, cpt (l ++ [p] ++ [x]) = if p = x then cpt (l ++ [p]) else cpt (l ++ [p]) ++ [x]
 | [] => by
  simp only [List.nil_append, List.cons_append, cpt]
  split
  ·rename_i h; subst h; rfl
  ·rfl
 | [a] => by
  have ih := cpt_snoc p x []
  simp only [List.nil_append, List.cons_append] at ih
  simp only [List.nil_append, List.cons_append, cpt]
  rw [show (if p = x then [x] else [p, x]) = cpt [p, x] by simp [cpt], ih]
  by_cases h1 : a = p <;> by_cases h2 : p = x <;> simp [h1, h2, cpt]
 | a :: b :: l => by
  have ih := cpt_snoc p x (b :: l)
  simp only [List.cons_append] at ih
  simp only [List.cons_append, cpt]
  rw [ih]
  by_cases h1 : a = b <;> by_cases h2 : p = x <;> simp [h1, h2]
theorem cpt_take {xs : List ByteArray} {i : Nat} {p x : ByteArray} (hp : xs[i]? = some p) (hx : xs[i + 1]? = some x) : cpt (xs.take (i + 2)) = if p = x then cpt (xs.take (i + 1)) else cpt (xs.take (i + 1)) ++ [x] := by
 have e1 : xs.take (i + 1) = xs.take i ++ [p] := by rw [List.take_add_one, hp]; rfl
 have e2 : xs.take (i + 2) = xs.take i ++ [p] ++ [x] := by rw [List.take_add_one, hx, e1]; rfl
 rw [e2, e1]
 exact cpt_snoc p x _
theorem cpt_len : ∀ l : List ByteArray, (cpt l).length ≤ l.length
 | [] => Nat.le_refl _
 | [x] => Nat.le_refl _
 | x :: y :: r => by
  have ih := cpt_len (y :: r)
  simp only [cpt]
  split
  ·simp only [List.length_cons] at ih ⊢; omega
  ·simp only [List.length_cons] at ih ⊢; omega
theorem cpt_short {l : List ByteArray} (h : l.length < 2) : cpt l = l := by
 match l, h with
 | [], _ => rfl
 | [x], _ => rfl
theorem cpt_mem (s : ByteArray) : ∀ l : List ByteArray, s ∈ cpt l ↔ s ∈ l
 | [] => Iff.rfl
 | [x] => Iff.rfl
 | x :: y :: r => by
  have ih := cpt_mem s (y :: r)
  simp only [cpt]
  split
  ·rename_i h; subst h; rw [ih]; simp
  ·rw [List.mem_cons, ih]; simp
theorem cpt_rise : ∀ l : List ByteArray, (l.Pairwise fun a b => sLt b a = false) → (cpt l).Pairwise fun a b => sLt a b = true
 | [], _ => List.Pairwise.nil
 | [x], _ => List.pairwise_singleton _ _
 | x :: y :: r, h => by
  rw [List.pairwise_cons] at h
  have ih := cpt_rise (y :: r) h.2
  simp only [cpt]
  split
  ·exact ih
  ·rename_i hne
   refine List.pairwise_cons.2 ⟨fun z hz => ?_, ih⟩
   have hz' := (cpt_mem z (y :: r)).1 hz
   have h1 := h.1 z hz'
   cases h2 : sLt x z with
   | true => rfl
   | false =>
    exfalso
    have hxz : x = z := sLt_conn h2 h1
    subst hxz
    rcases List.mem_cons.1 hz' with h3 | h3
    ·exact hne h3
    ·have h4 := (List.pairwise_cons.1 h.2).1 x h3
     have h5 := h.1 y (by simp)
     exact hne (sLt_conn h4 h5)
theorem compact_spec (v : Value) (xs : List ByteArray) (T : Seg) (R : Rds) (h : OS 9 1 encS v xs T) (hl : xs.length ≤ 1000000000) :
  Spec Tryz.prog 152 [v] R [T] fun u H' => ∃ T', H' = [T'] ∧ OS 9 1 encS u (cpt xs) T' := by
 have iv := h.oneCell
 by_cases h2l : xs.length < 2
 ·skip
  refine Spec.body Tryz.func152 rfl Tryz.results152 Tryz.ntmps152 rfl ?_
  refine .sr<|.ag rfl<|.zs<|.sr<|.mo rfl<|.q (.lenO h) ?_
  refine .q .lss<|.zn ?_
  refine .cond rfl (fun h1 => ?_) (fun h1 => ?_)
  refine .sr<|.mo rfl<|.ag rfl<|.zn ?_
  refine .ret (seqQ_r (retQ_r _ (.one (.tmp rfl)) (.one [0] _) ?_))
  ·exact ⟨T, by simp [take], by rw [cpt_short h2l]; exact h⟩
  ·have := of_decide_eq_false h1; omega
 obtain ⟨hlen, hone, hcase⟩ := h
 rcases hcase with ⟨_, h9, _⟩ | ⟨b, off, c, cap, rfl, rfl, hc1, hc2, hc3, hr⟩
 ·rw [h9] at h2l; simp at h2l
 have h : OS 9 1 encS (.slice (some ⟨b, off, none⟩) xs.length cap) xs [(b, .cells c 9 (0, 0))] := ⟨hlen, hone, .inr ⟨b, off, c, cap, rfl, rfl, hc1, hc2, hc3, hr⟩⟩
 clear hlen hone hr hc3
 generalize hT0 : [(b, Obj.cells c 9 (0, 0))] = T0 at h ⊢
 refine Spec.body Tryz.func152 rfl Tryz.results152 Tryz.ntmps152 rfl ?_
 refine .sr<|.ag rfl<|.zs<|.sr<|.mo rfl<|.q (.lenO h) ?_
 refine .q .lss<|.zn ?_
 refine .cond rfl (fun h1 => ?_) (fun h1 => ?_)
 ·have := of_decide_eq_true h1; omega
 refine .kn<|.seq<|.sr<|.ag rfl<|.zn<|.block ?_
 refine .loop (X := Nat) (fun k => 1 ≤ k ∧ k ≤ xs.length ∧ cpt (xs.take k) = xs.take k) (fun k => [(0, .slice (some ⟨b, off, none⟩) xs.length cap), (3, .int .i64 (k : Nat))]) (fun k => [T0]) (fun k => xs.length - k) 1 ⟨Nat.le_refl _, by omega, cpt_short (by rw [List.length_take]; omega)⟩ (EnvLe.k2 rfl rfl) (HLe.refl _) ?_
 rintro k ⟨hk1, hk2, hk3⟩
 refine .seq<|.sr<|.mo rfl<|.mo rfl<|.q (.lenO h) ?_
 refine .q .lss<|.zn ?_
 refine .cond rfl (fun h2 => ?_) (fun h2 => ?_)
 have hlt : k < xs.length := by have := of_decide_eq_true h2; omega
 obtain ⟨x, hx⟩ : ∃ x, xs[k]? = some x := ⟨_, List.getElem?_eq_getElem hlt⟩
 obtain ⟨p, hp⟩ : ∃ x, xs[k - 1]? = some x := ⟨_, List.getElem?_eq_getElem (by omega)⟩
 have hstep := cpt_take (xs := xs) (i := k - 1) hp (by rw [show k - 1 + 1 = k by omega]; exact hx)
 rw [show k - 1 + 2 = k + 1 by omega, show k - 1 + 1 = k by omega] at hstep
 refine .kn<|.seq<|.block<|.seq ?_
 refine .region_still mixed (by kernel_rfl) ?_
 refine .mo rfl<|.mo rfl ?_
 refine .indexO k h hx (fun p18 => ?_)
 refine .lo rfl<|.mo rfl<|.mo rfl ?_
 refine .q (.i64 ((k - 1 : Nat) : Int) .sub ⟨by omega, by omega, by omega⟩) ?_
 refine .indexO (k - 1) h hp (fun p23 => ?_)
 refine .lo rfl<|.q .eqS<|.zn ?_
 refine .cond rfl (fun h3 => ?_) (fun h3 => ?_)
 have hpx : p = x := (of_decide_eq_true h3).symm
 rw [if_pos hpx, hk3] at hstep
 refine .sr<|.mo rfl<|.mo rfl ?_
 refine .q (.sliceE k xs.length ⟨_, rfl⟩ rfl (by omega) (by omega) rfl) ?_
 rw [pieceV_some (by omega)]
 refine .ag rfl<|.zs<|.sr<|.ag rfl<|.zn<|.block ?_
 refine .loop (X := Nat × Nat × List ByteArray × Seg) (fun y => (1 ≤ y.1 ∧ k + y.1 ≤ xs.length ∧ k ≤ y.2.1 ∧ y.2.1 + 1 ≤ k + y.1) ∧ (y.2.2.1.length = xs.length ∧ (∀ j, k + y.1 ≤ j + 1 → y.2.2.1[j]? = xs[j]?) ∧ y.2.2.1.take y.2.1 = cpt (xs.take (k + y.1))) ∧ OS 9 1 encS (.slice (some ⟨b, off, none⟩) xs.length cap) y.2.2.1 y.2.2.2) (fun y => [(0, .slice (some ⟨b, off, none⟩) xs.length cap), (3, .int .i64 (y.2.1 : Nat)), (4, .slice (some ⟨b, off + k * 1, none⟩) (xs.length - k) (cap - k)), (5, .int .i64 (y.1 : Nat))]) (fun y => [y.2.2.2]) (fun y => xs.length - y.1) (1, k, xs, T0) ⟨⟨Nat.le_refl _, by simp only; omega, Nat.le_refl _, Nat.le_refl _⟩, ⟨rfl, fun j _ => rfl, hstep.symm⟩, h⟩ (EnvLe.k4 rfl rfl rfl rfl) (HLe.refl _) ?_
 rintro ⟨k2, k1, zs, T1⟩ ⟨⟨hj1, hj2, hj3, hj4⟩, ⟨hz1, hz2, hz3⟩, hO⟩
 simp only at hj1 hj2 hj3 hj4 hz1 hz2 hz3 hO ⊢
 refine .seq<|.sr<|.mo rfl<|.mo rfl<|.q (.lenV rfl) ?_
 refine .q .lss<|.zn ?_
 refine .cond rfl (fun h4 => ?_) (fun h4 => ?_)
 have hlt2 : k + k2 < xs.length := by have := of_decide_eq_true h4; omega
 obtain ⟨x2, hx2⟩ : ∃ x, xs[k + k2]? = some x := ⟨_, List.getElem?_eq_getElem hlt2⟩
 obtain ⟨p2, hp2⟩ : ∃ x, xs[k + k2 - 1]? = some x := ⟨_, List.getElem?_eq_getElem (by omega)⟩
 have hstep2 := cpt_take (xs := xs) (i := k + k2 - 1) hp2 (by rw [show k + k2 - 1 + 1 = k + k2 by omega]; exact hx2)
 rw [show k + k2 - 1 + 2 = k + (k2 + 1) by omega, show k + k2 - 1 + 1 = k + k2 by omega] at hstep2
 have hO' : OS 9 1 encS (.slice (some ⟨b, off, none⟩) zs.length cap) zs T1 := by rw [hz1]; exact hO
 have hS2 := hO'.tailRS (R' := sg T1) (fun _ hp => hp) k (by omega)
 rw [List.length_drop, hz1] at hS2
 have hzx : (zs.drop k)[k2]? = some x2 := by rw [List.getElem?_drop, hz2 _ (by omega)]; exact hx2
 have hzp : (zs.drop k)[k2 - 1]? = some p2 := by rw [List.getElem?_drop, hz2 _ (by omega), show k + (k2 - 1) = k + k2 - 1 by omega]; exact hp2
 have px : PS T1 (baseP (.slice (some ⟨b, off + k * 1, none⟩) (xs.length - k) (cap - k)) (k2 * 1)) (encS x2) := ⟨hS2.pc hzx⟩
 have pp : PS T1 (baseP (.slice (some ⟨b, off + k * 1, none⟩) (xs.length - k) (cap - k)) ((k2 - 1) * 1)) (encS p2) := ⟨hS2.pc hzp⟩
 obtain ⟨y1, hy1⟩ : ∃ x, zs[k1]? = some x := ⟨_, List.getElem?_eq_getElem (by omega)⟩
 refine .kn<|.seq<|.block<|.seq ?_
 refine .region_still mixed (by kernel_rfl) ?_
 refine .mo rfl<|.mo rfl<|.q (.indexR k2 hS2 hzx rfl rfl rfl) ?_
 refine .lo rfl<|.mo rfl<|.mo rfl ?_
 refine .q (.i64 ((k2 - 1 : Nat) : Int) .sub ⟨by omega, by omega, by omega⟩) ?_
 refine .q (.indexR (k2 - 1) hS2 hzp rfl rfl rfl) ?_
 refine .lo rfl<|.q .neS<|.zn ?_
 refine .cond rfl (fun h5 => ?_) (fun h5 => ?_)
 have hne : p2 ≠ x2 := fun e => by subst e; simp at h5
 rw [if_neg hne] at hstep2
 refine .sr<|.mo rfl<|.mo rfl<|.mo rfl<|.mo rfl<|.q (.indexR k2 hS2 hzx rfl rfl rfl) ?_
 refine .lo rfl ?_
 refine .indexO k1 hO hy1 (fun p51 => ?_)
 refine .storeO1 k1 hO hy1 x2 (fun T2 hO2 => ?_)
 refine .zn<|.region<|.mo rfl ?_
 refine .q (.i64 ((k1 + 1 : Nat) : Int) .add ⟨by omega, by omega, by omega⟩) ?_
 refine .ag rfl<|.nil<|blkQ_n<|seqQ_n<|.region<|.mo rfl ?_
 refine .q (.i64 ((k2 + 1 : Nat) : Int) .add ⟨by omega, by omega, by omega⟩) ?_
 refine .ag rfl<|.nil ?_
 ·refine loopQ_i (k2 + 1, k1 + 1, zs.set k1 x2, T2) ⟨⟨by simp only; omega, by simp only; omega, by simp only; omega, by simp only; omega⟩, ⟨by simp only [List.length_set]; exact hz1, fun j hj => ?_, ?_⟩, hO2⟩ (by simp only; omega) (EnvLe.k4 rfl rfl rfl rfl) (HLe.refl _)
  ·simp only at hj ⊢
   rw [List.getElem?_set_ne (by omega)]
   exact hz2 j (by omega)
  ·simp only
   rw [hstep2, ← hz3, List.take_add_one, List.take_set_of_le (Nat.le_refl _), List.getElem?_set_self (by omega)]
   rfl
 have heq : p2 = x2 := by have h9 : x2 = p2 := (by simpa using h5); exact h9.symm
 rw [if_pos heq] at hstep2
 refine .skip<|blkQ_n<|seqQ_n<|.region<|.mo rfl ?_
 refine .q (.i64 ((k2 + 1 : Nat) : Int) .add ⟨by omega, by omega, by omega⟩) ?_
 refine .ag rfl<|.nil ?_
 ·exact loopQ_i (k2 + 1, k1, zs, T1) ⟨⟨by simp only; omega, by simp only; omega, by simp only; omega, by simp only; omega⟩, ⟨hz1, fun j hj => hz2 j (by simp only at hj; omega), by simp only; rw [hstep2]; exact hz3⟩, hO⟩ (by simp only; omega) (EnvLe.k4 rfl rfl rfl rfl) (HLe.refl _)
 have hend : k + k2 = xs.length := by have := of_decide_eq_false h4; omega
 rw [hend, List.take_length] at hz3
 have hk1l : k1 ≤ zs.length := by omega
 refine .exit<|seqQ_x<|loopQ_x<|blkQ_x<|seqQ_n<|.sr<|.mo rfl<|.mo rfl ?_
 refine .q (.sliceE k1 xs.length ⟨_, rfl⟩ rfl (by omega) (by omega) rfl) ?_
 refine .clearTail k1 hO (by omega) rfl (fun T3 hO3 => ?_)
 rw [hz3] at hO3
 have i3 := hO3.oneCell
 refine .z<|.mo rfl<|.mo rfl ?_
 refine .q (.sliceE 0 k1 rfl ⟨_, rfl⟩ (by omega) (by omega) rfl) ?_
 refine .ag rfl<|.zn ?_
 refine .ret (blkQ_r (seqQ_r (loopQ_r (blkQ_r (seqQ_r (retQ_r _ (.one (.tmp rfl)) (.one [0] _) ?_))))))
 ·exact ⟨T3, by simp [take], hO3⟩
 have hpx : ¬ p = x := fun e => by subst e; simp at h3
 rw [if_neg hpx, hk3, show xs.take k ++ [x] = xs.take (k + 1) by rw [List.take_add_one, hx]; rfl] at hstep
 refine .skip<|blkQ_n<|seqQ_n<|.region<|.mo rfl ?_
 refine .q (.i64 ((k + 1 : Nat) : Int) .add ⟨by omega, by omega, by omega⟩) ?_
 refine .ag rfl<|.nil ?_
 ·exact loopQ_i (k + 1) ⟨by omega, by omega, hstep⟩ (by omega) (EnvLe.k2 rfl rfl) (HLe.refl _)
 have hend : k = xs.length := by have := of_decide_eq_false h2; omega
 subst hend
 rw [List.take_length] at hk3
 refine .exit<|seqQ_x<|loopQ_x<|blkQ_x<|seqQ_n<|.sr<|.mo rfl<|.ag rfl<|.zn ?_
 refine .ret (retQ_r _ (.one (.tmp rfl)) (.one [0] _) ?_)
 ·exact ⟨T0, by simp [take], by rw [hk3]; exact h⟩
end Go.Proofs.YtkagfkbkpiebjaaGreatDoor
