/- What the law 'CoreReplays' uses of this prover's engine, facts and walks. No condition. -/
import Derived.Test.YtkagfkbkpiebjaaGreatDoorKCoreReplaysB
import Derived.Test.YtkagfkbkpiebjaaGreatDoorKCoreReplaysF
import Derived.Test.YtkagfkbkpiebjaaGreatDoorKCoreReplaysH
import Derived.Test.YtkagfkbkpiebjaaGreatDoorKCoreReplaysL
set_option linter.unusedVariables false
set_option maxRecDepth 4000
namespace Go.Proofs.YtkagfkbkpiebjaaGreatDoor
namespace STK
section
variable {c : TP → TP → Int} {ok : TP → Prop} {f : FuncId} {caps : List Value} [e : Ent Tryz.prog f]
theorem ins_spec (v : Value) (xs : List TP) (T : Seg) (a b : Nat) (R : Rds) (h : OS 48 9 encT v xs T) (hab : a ≤ b) (hb : b ≤ xs.length) (hl : xs.length ≤ 1000000000) (hf : FnC Tryz.prog f caps R (fun p : TP => Value.agg (encT p).toArray) c ok) (hok : ∀ x ∈ xs, ok x) (so : SO (ltc c)) :
  Spec Tryz.prog 169 [v, .int .i64 a, .int .i64 b, .func (.func f) #[] caps.toArray] R [T] fun u H' => ∃ T', H' = [T'] ∧ u = .tuple #[] ∧ ∃ ys, OS 48 9 encT v ys T' ∧ RP a b xs ys ∧ SR (ltc c) ys a b := by
 have iv := h.oneCell
 refine Spec.body Tryz.func169 rfl Tryz.results169 Tryz.ntmps169 rfl ?_
 refine .sr<|.mo rfl ?_
 refine .q (.i64 ((a + 1 : Nat) : Int) .add ⟨by omega, by omega, by omega⟩) ?_
 refine .ag rfl<|.zn<|.block ?_
 refine .loop (X := Nat × List TP × Seg) (fun y => (a + 1 ≤ y.1 ∧ (y.1 ≤ b ∨ y.1 = a + 1)) ∧ OS 48 9 encT v y.2.1 y.2.2 ∧ RP a b xs y.2.1 ∧ SR (ltc c) y.2.1 a y.1) (fun y => [(0, v), (1, .int .i64 (a : Nat)), (2, .int .i64 (b : Nat)), (3, .func (.func f) #[] caps.toArray), (8, .int .i64 (y.1 : Nat))]) (fun y => [y.2.2]) (fun y => b - y.1) (a + 1, xs, T) ⟨⟨by simp only; omega, .inr rfl⟩, h, .refl _, fun i j h1 h2 h3 => by simp only at h3; omega⟩ (EnvLe.k5 rfl rfl rfl rfl rfl) (HLe.refl _) ?_
 rintro ⟨i, ys, T1⟩ ⟨⟨hi1, hi2⟩, hO1, hR1, hS1⟩
 simp only at hi1 hi2 hO1 hR1 hS1 ⊢
 have hlen := hR1.length
 refine .seq<|.sr<|.mo rfl<|.mo rfl<|.q .lss<|.zn ?_
 refine .cond rfl (fun h1 => ?_) (fun h1 => ?_)
 have hib : i < b := by simp at h1; omega
 refine .kn<|.seq<|.block<|.sr<|.mo rfl<|.ag rfl<|.zn<|.block ?_
 refine .loop (X := Nat × List TP × Seg) (fun y => (a ≤ y.1 ∧ y.1 ≤ i) ∧ OS 48 9 encT v y.2.1 y.2.2 ∧ RP a b xs y.2.1 ∧ Ins (ltc c) y.2.1 a y.1 (i + 1)) (fun y => [(0, v), (1, .int .i64 (a : Nat)), (2, .int .i64 (b : Nat)), (3, .func (.func f) #[] caps.toArray), (8, .int .i64 (i : Nat)), (9, .int .i64 (y.1 : Nat))]) (fun y => [y.2.2]) (fun y => y.1) (i, ys, T1) ⟨⟨by simp only; omega, Nat.le_refl _⟩, hO1, hR1, hS1.ins⟩ (EnvLe.k6 rfl rfl rfl rfl rfl rfl) (HLe.refl _) ?_
 rintro ⟨j, zs, T2⟩ ⟨⟨hj1, hj2⟩, hO2, hR2, hI2⟩
 simp only at hj1 hj2 hO2 hR2 hI2 ⊢
 have hlen2 := hR2.length
 refine .seq<|.seq ?_
 refine .region_tail 14 mixed (by kernel_rfl) ?_
 conv => arg 6; dsimp only [List.take]
 refine .mo rfl<|.mo rfl<|.q .gtr<|.mo rfl ?_
 refine .split (t := 21) rfl (fun g4_3 => ?_) (fun g4_3 => ?_)
 have haj : a < j := by have := of_decide_eq_true g4_3; omega
 obtain ⟨x, hx⟩ : ∃ x, zs[j]? = some x := ⟨_, List.getElem?_eq_getElem (by omega)⟩
 obtain ⟨y, hy⟩ : ∃ x, zs[j - 1]? = some x := ⟨_, List.getElem?_eq_getElem (by omega)⟩
 have okx := hok x (hR2.perm.mem_iff.1 (List.mem_of_getElem? hx))
 have oky := hok y (hR2.perm.mem_iff.1 (List.mem_of_getElem? hy))
 refine .gT g4_3<|.mo rfl<|.gT g4_3<|.mo rfl<|.gT g4_3<|.mo rfl<|.gT g4_3 ?_
 refine .indexO j hO2 hx (fun p25 => ?_)
 refine .gT g4_3<|.q (.loadA rfl)<|.gT g4_3<|.mo rfl<|.gT g4_3<|.mo rfl<|.gT g4_3 ?_
 refine .q (.i64 ((j - 1 : Nat) : Int) .sub ⟨by omega, by omega, by omega⟩) ?_
 refine .gT g4_3 ?_
 refine .indexO (j - 1) hO2 hy (fun p30 => ?_)
 refine .gT g4_3<|.q (.loadA rfl)<|.nil<|.gT g4_3 ?_
 refine .callRV (first := []) (captured := caps) (vs := [(fun p : TP => Value.agg (encT p).toArray) x, (fun p : TP => Value.agg (encT p).toArray) y]) (hf x y okx oky _ (fun b o hb => .inl hb)) (fun u hu => ?_)
 subst hu
 refine .gT g4_3<|.q .lss<|.q (.pickTh g4_3) ?_
 refine .zn ?_
 refine .cond rfl (fun h2 => ?_) (fun h2 => ?_)
 refine .kn<|.seq<|.block<|.region_all [15, 17] mixed ?_
 refine .takeO 0 rfl .move (by kernel_rfl)<|.takeO 1 rfl .move (by kernel_rfl)<|.take 2 rfl .move (by kernel_rfl)<|.take 3 rfl .move (by kernel_rfl) ?_
 refine .take 4 rfl (.i64 ((j - 1 : Nat) : Int) .sub ⟨by omega, by omega, by omega⟩) (by kernel_rfl) ?_
 refine .takeO 5 rfl .move (by kernel_rfl)<|.takeO 6 rfl .move (by kernel_rfl) ?_
 refine .takeO 7 rfl (.i64 ((j - 1 : Nat) : Int) .sub ⟨by omega, by omega, by omega⟩) (by kernel_rfl) ?_
 refine RA.indexO 8 rfl (j - 1) hO2 hy rfl rfl rfl (by kernel_rfl) (fun p45 => ?_)
 refine .takeO 9 rfl (.loadA rfl) (by kernel_rfl)<|.takeO 10 rfl .move (by kernel_rfl)<|.takeO 11 rfl .move (by kernel_rfl) ?_
 refine RA.indexO 12 rfl (j) hO2 hx rfl rfl rfl (by kernel_rfl) (fun p49 => ?_)
 refine .takeO 13 rfl (.loadA rfl) (by kernel_rfl) ?_
 refine RA.indexO 14 rfl (j) hO2 hx rfl rfl rfl (by kernel_rfl) (fun p51 => ?_)
 refine RA.step 15 rfl (by kernel_rfl) rfl ?_
 refine .storeO (j) hO2 hx y (fun Tsa hsa => ?_) (hO2.one _ (List.mem_of_getElem? hy))
 refine .nil (Next.mod rfl ?_)
 refine RA.indexO 16 rfl (j - 1) hO2 hy rfl rfl rfl (by kernel_rfl) (fun p52 => ?_)
 refine RA.step 17 rfl (by kernel_rfl) rfl ?_
 obtain ⟨zz, hzz⟩ : ∃ u, (zs.set (j) y)[j - 1]? = some u := ⟨_, List.getElem?_eq_getElem (by rw [List.length_set]; exact (List.getElem?_eq_some_iff.1 hy).1)⟩
 refine .storeO (j - 1) hsa hzz x (fun Tsw hsw => ?_) (hO2.one _ (List.mem_of_getElem? hx))
 rw [← swp_eq hx hy] at hsw
 refine .nil (Next.mod rfl ?_)
 refine RA.nil (by kernel_rfl) ?_
 refine blkQ_n<|seqQ_n<|.region<|.mo rfl ?_
 refine .q (.i64 ((j - 1 : Nat) : Int) .sub ⟨by omega, by omega, by omega⟩) ?_
 refine .ag rfl<|.nil ?_
 ·have hlt : ltc c x y = true := h2
  exact loopQ_i (j - 1, swp zs j (j - 1), Tsw) ⟨⟨by simp only; omega, by simp only; omega⟩, hsw, hR2.step (by omega) (by omega) (by omega) (by omega) (by omega), hI2.step so (by omega) (by omega) haj hx hy hlt⟩ (by simp only; omega) (EnvLe.k6 rfl rfl rfl rfl rfl rfl) (HLe.refl _)
 refine .exit<|seqQ_x<|loopQ_x<|blkQ_x<|blkQ_n<|seqQ_n<|.region<|.mo rfl ?_
 refine .q (.i64 ((i + 1 : Nat) : Int) .add ⟨by omega, by omega, by omega⟩) ?_
 refine .ag rfl<|.nil ?_
 ·refine loopQ_i (i + 1, zs, T2) ⟨⟨by simp only; omega, .inl (by simp only; omega)⟩, hO2, hR2, hI2.done so (by omega) (by omega) ?_⟩ (by simp only; omega) (EnvLe.k5 rfl rfl rfl rfl rfl) (HLe.refl _)
  exact .inr ⟨haj, fun u w hu hw => by
   rw [hy] at hu; rw [hx] at hw; cases hu; cases hw; exact h2⟩
 refine .gF g4_3<|.gF g4_3<|.gF g4_3<|.gF g4_3<|.gF g4_3<|.gF g4_3<|.gF g4_3<|.gF g4_3<|.gF g4_3<|.gF g4_3<|.nil<|.gF g4_3<|.gF g4_3<|.q (.pickFh g4_3) ?_
 refine .zn<|.condF<|.exit<|seqQ_x<|loopQ_x<|blkQ_x<|blkQ_n<|seqQ_n<|.region<|.mo rfl ?_
 refine .q (.i64 ((i + 1 : Nat) : Int) .add ⟨by omega, by omega, by omega⟩) ?_
 refine .ag rfl<|.nil ?_
 ·refine loopQ_i (i + 1, zs, T2) ⟨⟨by simp only; omega, .inl (by simp only; omega)⟩, hO2, hR2, hI2.done so (by omega) (by omega) ?_⟩ (by simp only; omega) (EnvLe.k5 rfl rfl rfl rfl rfl) (HLe.refl _)
  exact .inl (by have := of_decide_eq_false g4_3; omega)
 refine .exit<|seqQ_x<|loopQ_x<|blkQ_x<|retQ_n _ .none (HLe.refl _) ?_
 ·have hge : b ≤ i := by simp at h1; omega
  exact ⟨_, rfl, rfl, ys, hO1, hR1, fun j k h1 h2 h3 => hS1 j k h1 h2 (by omega)⟩
theorem sift_spec (v : Value) (xs : List TP) (T : Seg) (lo hi fi : Nat) (R : Rds) (h : OS 48 9 encT v xs T) (hlo : lo ≤ hi) (hb : fi + hi ≤ xs.length) (hl : xs.length ≤ 1000000000) (hf : FnC Tryz.prog f caps R (fun p : TP => Value.agg (encT p).toArray) c ok) (hok : ∀ x ∈ xs, ok x) (so : SO (ltc c)) :
    Spec Tryz.prog 226 [v, .int .i64 lo, .int .i64 hi, .int .i64 fi, .func (.func f) #[] caps.toArray] R [T] fun u H' => ∃ T', H' = [T'] ∧ u = .tuple #[] ∧ ∃ ys, OS 48 9 encT v ys T' ∧ RP fi (fi + hi) xs ys ∧
      (HoleF (fun x y => ltc c y x) (xs.drop fi) hi lo lo → HeapF (fun x y => ltc c y x) (ys.drop fi) hi lo) := by
  have iv := h.oneCell
  have so' := so.rev
  refine Spec.body Tryz.func226 rfl Tryz.results226 Tryz.ntmps226 rfl ?_
  refine .sr<|.mo rfl<|.ag rfl<|.zn<|.block ?_
  refine .loop (X := Nat × List TP × Seg) (fun y => (lo ≤ y.1 ∧ y.1 ≤ hi) ∧ OS 48 9 encT v y.2.1 y.2.2 ∧ RP fi (fi + hi) xs y.2.1 ∧ (HoleF (fun x y => ltc c y x) (xs.drop fi) hi lo lo → HoleF (fun x y => ltc c y x) (y.2.1.drop fi) hi lo y.1)) (fun y => [(0, v), (2, .int .i64 (hi : Nat)), (3, .int .i64 (fi : Nat)), (4, .func (.func f) #[] caps.toArray), (10, .int .i64 (y.1 : Nat))]) (fun y => [y.2.2]) (fun y => hi - y.1) (lo, xs, T) ⟨⟨Nat.le_refl _, hlo⟩, h, .refl _, fun h => h⟩ (EnvLe.k5 rfl rfl rfl rfl rfl) (HLe.refl _) ?_
  rintro ⟨r, ys, T1⟩ ⟨⟨hr1, hr2⟩, hO1, hR1, hH1⟩
  simp only at hr1 hr2 hO1 hR1 hH1 ⊢
  have hlen := hR1.length
  have hld : (ys.drop fi).length = ys.length - fi := List.length_drop
  refine .block<|.sr<|.mo rfl ?_
  refine .q (.i64 ((2 * r : Nat) : Int) .mul ⟨by omega, by omega, by omega⟩) ?_
  refine .q (.i64 ((2 * r + 1 : Nat) : Int) .add ⟨by omega, by omega, by omega⟩) ?_
  refine .ag rfl<|.zs<|.sr<|.mo rfl<|.mo rfl<|.q .geq<|.zn ?_
  refine .cond rfl (fun h1 => ?_) (fun h1 => ?_)
  have hge : hi ≤ 2 * r + 1 := by have := of_decide_eq_true h1; omega
  refine .exit (seqQ_x (blkQ_y (loopQ_x (blkQ_x ?_))))
  refine retQ_n _ .none (HLe.refl _) ?_
  · refine ⟨_, rfl, rfl, ys, hO1, hR1, fun hh => (hH1 hh).stop fun c' h0 hc hp u w hu hw => ?_⟩
    (simp only [par] at hp; omega)
  have hlt : 2 * r + 1 < hi := by have := of_decide_eq_false h1; omega
  obtain ⟨y0, hy0⟩ : ∃ y, ys[fi + r]? = some y := ⟨_, List.getElem?_eq_getElem (by omega)⟩
  obtain ⟨x1, hx1⟩ : ∃ y, ys[fi + (2 * r + 1)]? = some y := ⟨_, List.getElem?_eq_getElem (by omega)⟩
  have ok0 := hok y0 (hR1.perm.mem_iff.1 (List.mem_of_getElem? hy0))
  have ok1 := hok x1 (hR1.perm.mem_iff.1 (List.mem_of_getElem? hx1))
  refine .kn<|.seq ?_
  refine Tri.cut (X := Nat × TP) (fun z => 0 < z.1 ∧ z.1 < hi ∧ par z.1 = r ∧ ys[fi + z.1]? = some z.2 ∧ ok z.2 ∧ ∀ c' u, 0 < c' → c' < hi → par c' = r → ys[fi + c']? = some u → ltc c z.2 u = false) (fun z => [(0, v), (2, .int .i64 (hi : Nat)), (3, .int .i64 (fi : Nat)), (4, .func (.func f) #[] caps.toArray), (10, .int .i64 (r : Nat)), (11, .int .i64 (z.1 : Nat))]) (fun z => [T1]) ?_ ?_
  refine .seq ?_
  refine .region_tail 19 mixed (by kernel_rfl) ?_
  conv => arg 6; dsimp only [List.take]
  refine .mo rfl ?_
  refine .q (.i64 ((2 * r + 2 : Nat) : Int) .add ⟨by omega, by omega, by omega⟩) ?_
  refine .mo rfl<|.q .lss<|.mo rfl ?_
  refine .split (t := 23) rfl (fun g3_4 => ?_) (fun g3_4 => ?_)
  have hlt2 : 2 * r + 2 < hi := by have := of_decide_eq_true g3_4; omega
  obtain ⟨x2, hx2⟩ : ∃ y, ys[fi + (2 * r + 2)]? = some y := ⟨_, List.getElem?_eq_getElem (by omega)⟩
  have ok2 := hok x2 (hR1.perm.mem_iff.1 (List.mem_of_getElem? hx2))
  refine .gT g3_4<|.mo rfl<|.gT g3_4<|.mo rfl<|.gT g3_4<|.mo rfl<|.gT g3_4<|.mo rfl<|.gT g3_4 ?_
  refine .q (.i64 ((fi + (2 * r + 1) : Nat) : Int) .add ⟨by omega, by omega, by omega⟩) ?_
  refine .gT g3_4 ?_
  refine .indexO (fi + (2 * r + 1)) hO1 hx1 (fun p29 => ?_)
  refine .gT g3_4<|.q (.loadA rfl)<|.gT g3_4<|.mo rfl<|.gT g3_4<|.mo rfl<|.gT g3_4<|.mo rfl<|.gT g3_4 ?_
  refine .q (.i64 ((fi + (2 * r + 1) : Nat) : Int) .add ⟨by omega, by omega, by omega⟩) ?_
  refine .gT g3_4 ?_
  refine .q (.i64 ((fi + (2 * r + 2) : Nat) : Int) .add ⟨by omega, by omega, by omega⟩) ?_
  refine .gT g3_4 ?_
  refine .indexO (fi + (2 * r + 2)) hO1 hx2 (fun p36 => ?_)
  refine .gT g3_4<|.q (.loadA rfl)<|.nil<|.gT g3_4 ?_
  refine .callRV (first := []) (captured := caps) (vs := [(fun p : TP => Value.agg (encT p).toArray) x1, (fun p : TP => Value.agg (encT p).toArray) x2]) (hf x1 x2 ok1 ok2 _ (fun b o hb => .inl hb)) (fun u hu => ?_)
  subst hu
  refine .gT g3_4<|.q .lss<|.q (.pickTh g3_4) ?_
  refine .zn ?_
  refine .cond rfl (fun h2 => ?_) (fun h2 => ?_)
  have hminA : ∀ c' u, 0 < c' → c' < hi → par c' = r → ys[fi + c']? = some u → ltc c x2 u = false := fun c' u h0 hc hp hu => by
    have : c' = 2 * r + 1 ∨ c' = 2 * r + 2 := by simp only [par] at hp; omega
    rcases this with rfl | rfl
    · rw [hx1] at hu; cases hu; exact so.asym h2
    · rw [hx2] at hu; cases hu; exact so.irr _
  refine .region<|.mo rfl ?_
  refine .q (.i64 ((2 * r + 2 : Nat) : Int) .add ⟨by omega, by omega, by omega⟩) ?_
  refine .ag rfl<|.nil ?_
  · first
      | exact joinQ_n (2 * r + 2, x2) ⟨by simp only; omega, hlt2, by simp only [par]; omega, hx2, ok2, hminA⟩ (EnvLe.k6 rfl rfl rfl rfl rfl rfl) (HLe.refl _)
      | exact joinQ_n (2 * r + 1, x1) ⟨by simp only; omega, hlt, by simp only [par]; omega, hx1, ok1, hminB⟩ (EnvLe.k6 rfl rfl rfl rfl rfl rfl) (HLe.refl _)
      | (have hminB : ∀ c' u, 0 < c' → c' < hi → par c' = r → ys[fi + c']? = some u → ltc c x1 u = false := fun c' u h0 hc hp hu => by
           have : c' = 2 * r + 1 ∨ c' = 2 * r + 2 := by simp only [par] at hp; omega
           rcases this with rfl | rfl
           · rw [hx1] at hu; cases hu; exact so.irr _
           · rw [hx2] at hu; cases hu; exact h2
         exact joinQ_n (2 * r + 1, x1) ⟨by simp only; omega, hlt, by simp only [par]; omega, hx1, ok1, hminB⟩ (EnvLe.k6 rfl rfl rfl rfl rfl rfl) (HLe.refl _))
  refine .skip ?_
  · first
      | exact joinQ_n (2 * r + 2, x2) ⟨by simp only; omega, hlt2, by simp only [par]; omega, hx2, ok2, hminA⟩ (EnvLe.k6 rfl rfl rfl rfl rfl rfl) (HLe.refl _)
      | exact joinQ_n (2 * r + 1, x1) ⟨by simp only; omega, hlt, by simp only [par]; omega, hx1, ok1, hminB⟩ (EnvLe.k6 rfl rfl rfl rfl rfl rfl) (HLe.refl _)
      | (have hminB : ∀ c' u, 0 < c' → c' < hi → par c' = r → ys[fi + c']? = some u → ltc c x1 u = false := fun c' u h0 hc hp hu => by
           have : c' = 2 * r + 1 ∨ c' = 2 * r + 2 := by simp only [par] at hp; omega
           rcases this with rfl | rfl
           · rw [hx1] at hu; cases hu; exact so.irr _
           · rw [hx2] at hu; cases hu; exact h2
         exact joinQ_n (2 * r + 1, x1) ⟨by simp only; omega, hlt, by simp only [par]; omega, hx1, ok1, hminB⟩ (EnvLe.k6 rfl rfl rfl rfl rfl rfl) (HLe.refl _))
  have hminB : ∀ c' u, 0 < c' → c' < hi → par c' = r → ys[fi + c']? = some u → ltc c x1 u = false := fun c' u h0 hc hp hu => by
    have : c' = 2 * r + 1 := by have := of_decide_eq_false g3_4; simp only [par] at hp; omega
    subst this
    rw [hx1] at hu; cases hu; exact so.irr _
  refine .gF g3_4<|.gF g3_4<|.gF g3_4<|.gF g3_4<|.gF g3_4<|.gF g3_4<|.gF g3_4<|.gF g3_4<|.gF g3_4<|.gF g3_4<|.gF g3_4<|.gF g3_4<|.gF g3_4<|.gF g3_4<|.nil<|.gF g3_4<|.gF g3_4<|.q (.pickFh g3_4) ?_
  refine .zn<|.condF<|.skip ?_
  · first
      | exact joinQ_n (2 * r + 2, x2) ⟨by simp only; omega, hlt2, by simp only [par]; omega, hx2, ok2, hminA⟩ (EnvLe.k6 rfl rfl rfl rfl rfl rfl) (HLe.refl _)
      | exact joinQ_n (2 * r + 1, x1) ⟨by simp only; omega, hlt, by simp only [par]; omega, hx1, ok1, hminB⟩ (EnvLe.k6 rfl rfl rfl rfl rfl rfl) (HLe.refl _)
      | (have hminB : ∀ c' u, 0 < c' → c' < hi → par c' = r → ys[fi + c']? = some u → ltc c x1 u = false := fun c' u h0 hc hp hu => by
           have : c' = 2 * r + 1 ∨ c' = 2 * r + 2 := by simp only [par] at hp; omega
           rcases this with rfl | rfl
           · rw [hx1] at hu; cases hu; exact so.irr _
           · rw [hx2] at hu; cases hu; exact h2
         exact joinQ_n (2 * r + 1, x1) ⟨by simp only; omega, hlt, by simp only [par]; omega, hx1, ok1, hminB⟩ (EnvLe.k6 rfl rfl rfl rfl rfl rfl) (HLe.refl _))
  intro y hy
  obtain ⟨j, x⟩ := y
  obtain ⟨hj0, hjn, hjp, hx, okx, hmin⟩ := hy
  simp only at hj0 hjn hjp hx okx hmin ⊢
  have hij : r < j := hjp ▸ par_lt hj0
  refine seqQ_n<|.seq<|.seq ?_
  refine .region_tail 13 mixed (by kernel_rfl) ?_
  conv => arg 6; dsimp only [List.take]
  refine .mo rfl<|.mo rfl<|.mo rfl<|.mo rfl ?_
  refine .q (.i64 ((fi + r : Nat) : Int) .add ⟨by omega, by omega, by omega⟩) ?_
  refine .indexO (fi + r) hO1 hy0 (fun p48 => ?_)
  refine .q (.loadA rfl)<|.mo rfl<|.mo rfl<|.mo rfl ?_
  refine .q (.i64 ((fi + j : Nat) : Int) .add ⟨by omega, by omega, by omega⟩) ?_
  refine .indexO (fi + j) hO1 hx (fun p54 => ?_)
  refine .q (.loadA rfl)<|.nil ?_
  refine .callRV (first := []) (captured := caps) (vs := [(fun p : TP => Value.agg (encT p).toArray) y0, (fun p : TP => Value.agg (encT p).toArray) x]) (hf y0 x ok0 okx _ (fun b o hb => .inl hb)) (fun u hu => ?_)
  subst hu
  refine .q .lss<|.q .not<|.zn ?_
  refine .cond rfl (fun h3 => ?_) (fun h3 => ?_)
  refine .ret (seqQ_r (blkQ_r (loopQ_r (blkQ_r (retQ_r _ .none (HLe.refl _) ?_)))))
  · refine ⟨_, rfl, rfl, ys, hO1, hR1, fun hh => (hH1 hh).stop fun c' h0 hc hp u w hu hw => ?_⟩
    (rw [drop_get] at hu hw
     rw [hy0] at hu; cases hu
     have h3' : (!ltc c y0 x) = true := h3
     exact so'.ntr _ _ _ (hmin c' w h0 hc hp hw) (by simpa using h3'))
  refine .kn<|.seq<|.region_all [21, 23] mixed ?_
  refine .takeO 0 rfl .move (by kernel_rfl)<|.takeO 1 rfl .move (by kernel_rfl)<|.takeO 2 rfl .move (by kernel_rfl) ?_
  refine .takeO 3 rfl (.i64 ((fi + r : Nat) : Int) .add ⟨by omega, by omega, by omega⟩) (by kernel_rfl) ?_
  refine .take 4 rfl .move (by kernel_rfl)<|.take 5 rfl .move (by kernel_rfl)<|.take 6 rfl .move (by kernel_rfl) ?_
  refine .take 7 rfl (.i64 ((fi + j : Nat) : Int) .add ⟨by omega, by omega, by omega⟩) (by kernel_rfl) ?_
  refine .takeO 8 rfl .move (by kernel_rfl)<|.takeO 9 rfl .move (by kernel_rfl)<|.takeO 10 rfl .move (by kernel_rfl) ?_
  refine .takeO 11 rfl (.i64 ((fi + j : Nat) : Int) .add ⟨by omega, by omega, by omega⟩) (by kernel_rfl) ?_
  refine RA.indexO 12 rfl (fi + j) hO1 hx rfl rfl rfl (by kernel_rfl) (fun p71 => ?_)
  refine .takeO 13 rfl (.loadA rfl) (by kernel_rfl)<|.takeO 14 rfl .move (by kernel_rfl)<|.takeO 15 rfl .move (by kernel_rfl)<|.takeO 16 rfl .move (by kernel_rfl) ?_
  refine .takeO 17 rfl (.i64 ((fi + r : Nat) : Int) .add ⟨by omega, by omega, by omega⟩) (by kernel_rfl) ?_
  refine RA.indexO 18 rfl (fi + r) hO1 hy0 rfl rfl rfl (by kernel_rfl) (fun p77 => ?_)
  refine .takeO 19 rfl (.loadA rfl) (by kernel_rfl) ?_
  refine RA.indexO 20 rfl (fi + r) hO1 hy0 rfl rfl rfl (by kernel_rfl) (fun p79 => ?_)
  refine RA.step 21 rfl (by kernel_rfl) rfl ?_
  refine .storeO (fi + r) hO1 hy0 x (fun Tsa hsa => ?_) (hO1.one _ (List.mem_of_getElem? hx))
  refine .nil (Next.mod rfl ?_)
  refine RA.indexO 22 rfl (fi + j) hO1 hx rfl rfl rfl (by kernel_rfl) (fun p80 => ?_)
  refine RA.step 23 rfl (by kernel_rfl) rfl ?_
  obtain ⟨zz, hzz⟩ : ∃ u, (ys.set (fi + r) x)[fi + j]? = some u := ⟨_, List.getElem?_eq_getElem (by rw [List.length_set]; exact (List.getElem?_eq_some_iff.1 hx).1)⟩
  refine .storeO (fi + j) hsa hzz y0 (fun Tsw hsw => ?_) (hO1.one _ (List.mem_of_getElem? hy0))
  rw [← swp_eq hy0 hx] at hsw
  refine .nil (Next.mod rfl ?_)
  refine RA.nil (by kernel_rfl) ?_
  refine seqQ_n<|.region<|.mo rfl<|.ag rfl<|.nil<|blkQ_n ?_
  · have hlt3 : ltc c y0 x = true := by
      have h3' : (!ltc c y0 x) = false := h3
      simpa using h3'
    have hds := drop_swp (xs := ys) (f := fi) (i := r) (j := j) (by omega) (by omega)
    exact loopQ_i (j, swp ys (fi + r) (fi + j), Tsw) ⟨⟨by simp only; omega, by simp only; omega⟩, hsw, hR1.step (by omega) (by omega) (by omega) (by omega) (by omega), fun hh => by
      simp only
      rw [hds]
      exact (hH1 hh).step so' hr1 hj0 hjn (by omega) hjp (by rw [drop_get]; exact hx) (by rw [drop_get]; exact hy0) hlt3 fun c' z h1 h2 h3 h4 => hmin c' z h1 h2 h3 (by rw [← drop_get]; exact h4)⟩ (by simp only; omega) (EnvLe.k5 rfl rfl rfl rfl rfl) (HLe.refl _)
end
end STK
namespace STK
section
variable {c : TP → TP → Int} {ok : TP → Prop} {f : FuncId} {caps : List Value} [e : Ent Tryz.prog f]
theorem heap_spec (v : Value) (xs : List TP) (T : Seg) (a b : Nat) (R : Rds) (h : OS 48 9 encT v xs T) (hab : a ≤ b) (hb : b ≤ xs.length) (hl : xs.length ≤ 1000000000) (hf : FnC Tryz.prog f caps R (fun p : TP => Value.agg (encT p).toArray) c ok) (hok : ∀ x ∈ xs, ok x) (so : SO (ltc c)) :
  Spec Tryz.prog 170 [v, .int .i64 a, .int .i64 b, .func (.func f) #[] caps.toArray] R [T] fun u H' => ∃ T', H' = [T'] ∧ u = .tuple #[] ∧ ∃ ys, OS 48 9 encT v ys T' ∧ RP a b xs ys ∧ SR (ltc c) ys a b := by
 have iv := h.oneCell
 have so' := so.rev
 obtain ⟨n, hn⟩ : ∃ n, b = a + n := ⟨b - a, by omega⟩
 subst hn
 refine Spec.body Tryz.func170 rfl Tryz.results170 Tryz.ntmps170 rfl ?_
 refine .sr<|.mo rfl<|.ag rfl<|.z<|.ag rfl<|.z<|.mo rfl<|.mo rfl ?_
 refine .q (.i64 ((n : Nat) : Int) .sub ⟨by omega, by omega, by omega⟩) ?_
 refine .ag rfl<|.zs<|.sr<|.mo rfl ?_
 refine .q (.i64 ((n : Int) - 1) .sub ⟨rfl, by omega, by omega⟩) ?_
 refine .q (.i64 (((n - 1) / 2 : Nat) : Int) .quo ⟨tdiv2, by omega, by omega⟩) ?_
 refine .ag rfl<|.zn<|.block ?_
 refine .loop (X := Nat × Int × List TP × Seg) (fun y => (y.2.1 = (y.1 : Int) - 1 ∧ y.1 ≤ n + 1) ∧ OS 48 9 encT v y.2.2.1 y.2.2.2 ∧ RP a (a + n) xs y.2.2.1 ∧ HeapF (fun x y => ltc c y x) (y.2.2.1.drop a) n y.1) (fun y => [(0, v), (3, .func (.func f) #[] caps.toArray), (8, .int .i64 (a : Nat)), (9, .int .i64 ((0 : Nat) : Int)), (10, .int .i64 (n : Nat)), (11, .int .i64 y.2.1)]) (fun y => [y.2.2.2]) (fun y => y.1) ((n - 1) / 2 + 1, (((n - 1) / 2 : Nat) : Int), xs, T) ⟨⟨by simp only; omega, by simp only; omega⟩, h, .refl _, fun k h0 hk hp => by simp only [par] at hp; omega⟩ (EnvLe.k6 rfl rfl rfl rfl rfl rfl) (HLe.refl _) ?_
 rintro ⟨m, z, ys, T1⟩ ⟨⟨hz, hm⟩, hO1, hR1, hH1⟩
 simp only at hz hm hO1 hR1 hH1 ⊢
 have hlen := hR1.length
 refine .seq<|.sr<|.mo rfl<|.q .geq<|.zn ?_
 refine .cond rfl (fun h1 => ?_) (fun h1 => ?_)
 have hz0 : 0 ≤ z := of_decide_eq_true h1
 obtain ⟨k, rfl⟩ : ∃ k, m = k + 1 := ⟨m - 1, by omega⟩
 obtain rfl : z = (k : Int) := by omega
 refine .kn<|.seq<|.block<|.region<|.mo rfl<|.mo rfl<|.mo rfl<|.mo rfl<|.mo rfl ?_
 refine .callM (sift_spec (c := c) (ok := ok) v ys T1 k n a _ hO1 (by omega) (by omega) (by omega) hf (fun x hx => hok x (hR1.perm.mem_iff.1 hx)) so) (fun u T2 hu => ?_)
 obtain ⟨rfl, zs, hO2, hR2, hH2⟩ := hu
 refine .nil<|blkQ_n<|seqQ_n<|.region<|.mo rfl ?_
 refine .q (.i64 ((k : Int) - 1) .sub ⟨rfl, by omega, by omega⟩) ?_
 refine .ag rfl<|.nil ?_
 ·exact loopQ_i (k, (k : Int) - 1, zs, T2) ⟨⟨rfl, by simp only; omega⟩, hO2, hR1.trans hR2, hH2 hH1.hole⟩ (by simp only; omega) (EnvLe.k6 rfl rfl rfl rfl rfl rfl) (HLe.refl _)
 have hm0 : m = 0 := by have := of_decide_eq_false h1; omega
 subst hm0
 refine .exit<|seqQ_x<|loopQ_x<|blkQ_x<|seqQ_n<|.sr<|.mo rfl ?_
 refine .q (.i64 ((n : Int) - 1) .sub ⟨rfl, by omega, by omega⟩) ?_
 refine .ag rfl<|.zn<|.block ?_
 refine .loop (X := Nat × Int × List TP × Seg) (fun y => (y.2.1 = (y.1 : Int) - 1 ∧ y.1 ≤ n) ∧ OS 48 9 encT v y.2.2.1 y.2.2.2 ∧ RP a (a + n) xs y.2.2.1 ∧ HeapF (fun x y => ltc c y x) (y.2.2.1.drop a) y.1 0 ∧ OX (ltc c) y.2.2.1 a (a + n) a (a + y.1)) (fun y => [(0, v), (3, .func (.func f) #[] caps.toArray), (8, .int .i64 (a : Nat)), (9, .int .i64 ((0 : Nat) : Int)), (10, .int .i64 (n : Nat)), (12, .int .i64 y.2.1)]) (fun y => [y.2.2.2]) (fun y => y.1) (n, (n : Int) - 1, ys, T1) ⟨⟨rfl, Nat.le_refl _⟩, hO1, hR1, hH1, OX.start⟩ (EnvLe.k6 rfl rfl rfl rfl rfl rfl) (HLe.refl _) ?_
 rintro ⟨m, z2, zs, T2⟩ ⟨⟨hz2, hm2⟩, hO2, hR2, hH2, hX2⟩
 simp only at hz2 hm2 hO2 hR2 hH2 hX2 ⊢
 have hlen2 := hR2.length
 refine .seq<|.sr<|.mo rfl<|.q .geq<|.zn ?_
 refine .cond rfl (fun h2 => ?_) (fun h2 => ?_)
 have hz0 : 0 ≤ z2 := of_decide_eq_true h2
 obtain ⟨k, rfl⟩ : ∃ k, m = k + 1 := ⟨m - 1, by omega⟩
 obtain rfl : z2 = (k : Int) := by omega
 obtain ⟨x, hx⟩ : ∃ x, zs[a]? = some x := ⟨_, List.getElem?_eq_getElem (by omega)⟩
 obtain ⟨y, hy⟩ : ∃ x, zs[a + k]? = some x := ⟨_, List.getElem?_eq_getElem (by omega)⟩
 refine .kn<|.seq<|.block<|.seq<|.region_all [17, 19] mixed ?_
 refine .takeO 0 rfl .move (by kernel_rfl)<|.takeO 1 rfl .move (by kernel_rfl)<|.take 2 rfl .move (by kernel_rfl)<|.take 3 rfl .move (by kernel_rfl)<|.take 4 rfl .move (by kernel_rfl) ?_
 refine .take 5 rfl (.i64 ((a + k : Nat) : Int) .add ⟨by omega, by omega, by omega⟩) (by kernel_rfl) ?_
 refine .takeO 6 rfl .move (by kernel_rfl)<|.takeO 7 rfl .move (by kernel_rfl)<|.takeO 8 rfl .move (by kernel_rfl) ?_
 refine .takeO 9 rfl (.i64 ((a + k : Nat) : Int) .add ⟨by omega, by omega, by omega⟩) (by kernel_rfl) ?_
 refine RA.indexO 10 rfl (a + k) hO2 hy rfl rfl rfl (by kernel_rfl) (fun p46 => ?_)
 refine .takeO 11 rfl (.loadA rfl) (by kernel_rfl)<|.takeO 12 rfl .move (by kernel_rfl)<|.takeO 13 rfl .move (by kernel_rfl) ?_
 refine RA.indexO 14 rfl (a) hO2 hx rfl rfl rfl (by kernel_rfl) (fun p50 => ?_)
 refine .takeO 15 rfl (.loadA rfl) (by kernel_rfl) ?_
 refine RA.indexO 16 rfl (a) hO2 hx rfl rfl rfl (by kernel_rfl) (fun p52 => ?_)
 refine RA.step 17 rfl (by kernel_rfl) rfl ?_
 refine .storeO (a) hO2 hx y (fun Tsa hsa => ?_) (hO2.one _ (List.mem_of_getElem? hy))
 refine .nil (Next.mod rfl ?_)
 refine RA.indexO 18 rfl (a + k) hO2 hy rfl rfl rfl (by kernel_rfl) (fun p53 => ?_)
 refine RA.step 19 rfl (by kernel_rfl) rfl ?_
 obtain ⟨zz, hzz⟩ : ∃ u, (zs.set (a) y)[a + k]? = some u := ⟨_, List.getElem?_eq_getElem (by rw [List.length_set]; exact (List.getElem?_eq_some_iff.1 hy).1)⟩
 refine .storeO (a + k) hsa hzz x (fun Tsw hsw => ?_) (hO2.one _ (List.mem_of_getElem? hx))
 rw [← swp_eq hx hy] at hsw
 refine .nil (Next.mod rfl ?_)
 refine RA.nil (by kernel_rfl) ?_
 refine seqQ_n<|.region<|.mo rfl<|.mo rfl<|.mo rfl<|.mo rfl<|.mo rfl ?_
 have hds := drop_swp (xs := zs) (f := a) (i := 0) (j := k) (by omega) (by omega)
 have hR3 := hR2.step (i := a) (j := a + k) (by omega) (by omega) (by omega) (by omega) (by omega)
 have hX3 := OX.last (m := a + k) (x := x) hX2 (by omega) (by omega) (by omega) hx (fun j w h1 h3 hw => HeapF.top so' hH2 (by rw [List.length_drop]; omega) (x := x) (by rw [drop_get]; exact hx) (j - a) w (by omega) (by rw [drop_get, show a + (j - a) = j by omega]; exact hw))
 refine .callM (sift_spec (c := c) (ok := ok) v (swp zs a (a + k)) Tsw 0 k a _ hsw (by omega) (by rw [swp_length]; omega) (by rw [swp_length]; omega) hf (fun x hx => hok x (hR3.perm.mem_iff.1 hx)) so) (fun u T3 hu => ?_)
 obtain ⟨rfl, ws, hO3, hR4, hH4⟩ := hu
 refine .nil<|blkQ_n<|seqQ_n<|.region<|.mo rfl ?_
 refine .q (.i64 ((k : Int) - 1) .sub ⟨rfl, by omega, by omega⟩) ?_
 refine .ag rfl<|.nil ?_
 ·exact loopQ_i (k, (k : Int) - 1, ws, T3) ⟨⟨rfl, by simp only; omega⟩, hO3, hR3.trans (hR4.mono (Nat.le_refl a) (by omega) (by rw [swp_length]; omega)), hH4 (hH2.hole0 fun j h0 hj => by
   rw [Nat.add_zero] at hds
   rw [hds, swp_get (by rw [List.length_drop]; omega) (by rw [List.length_drop]; omega), if_neg (by omega), if_neg (by omega)]), hX3.rp hR4 (Nat.le_refl _) (by omega)⟩ (by simp only; omega) (EnvLe.k6 rfl rfl rfl rfl rfl rfl) (HLe.refl _)
 refine .exit<|seqQ_x<|loopQ_x<|blkQ_x<|retQ_n _ .none (HLe.refl _) ?_
 ·have hm0 : m = 0 := by have := of_decide_eq_false h2; omega
  subst hm0
  exact ⟨_, rfl, rfl, zs, hO2, hR2, hX2.sorted fun i j h1 h2 h3 => by omega⟩
theorem reverse_spec (v : Value) (xs : List TP) (T : Seg) (a b : Nat) (R : Rds) (fv : Value) (hfv : One fv) (h : OS 48 9 encT v xs T) (hab : a < b) (hb : b ≤ xs.length) (hl : xs.length ≤ 1000000000) :
  Spec Tryz.prog 173 [v, .int .i64 a, .int .i64 b, fv] R [T] fun u H' => ∃ T', H' = [T'] ∧ u = .tuple #[] ∧ ∃ ys, OS 48 9 encT v ys T' ∧ RP a b xs ys := by
 have iv := h.oneCell
 refine Spec.body Tryz.func173 rfl Tryz.results173 Tryz.ntmps173 rfl ?_
 refine .sr<|.mo rfl<|.ag rfl<|.z<|.mo rfl ?_
 refine .q (.i64 ((b - 1 : Nat) : Int) .sub ⟨by omega, by omega, by omega⟩) ?_
 refine .ag rfl<|.zn<|.block ?_
 refine .loop (X := Nat × Nat × List TP × Seg) (fun y => (a ≤ y.1 ∧ y.1 ≤ y.2.1 + 1 ∧ y.2.1 < b) ∧ OS 48 9 encT v y.2.2.1 y.2.2.2 ∧ RP a b xs y.2.2.1) (fun y => [(0, v), (8, .int .i64 (y.1 : Nat)), (9, .int .i64 (y.2.1 : Nat))]) (fun y => [y.2.2.2]) (fun y => b - y.1) (a, b - 1, xs, T) ⟨⟨Nat.le_refl _, by simp only; omega, by simp only; omega⟩, h, .refl _⟩ (EnvLe.k3 rfl rfl rfl) (HLe.refl _) ?_
 rintro ⟨i, j, ys, T1⟩ ⟨⟨hi, hij, hj⟩, hO1, hR1⟩
 simp only at hi hij hj hO1 hR1 ⊢
 have hlen := hR1.length
 refine .seq<|.sr<|.mo rfl<|.mo rfl<|.q .lss<|.zn ?_
 refine .cond rfl (fun h1 => ?_) (fun h1 => ?_)
 have hlt : i < j := by have := of_decide_eq_true h1; omega
 obtain ⟨x, hx⟩ : ∃ x, ys[i]? = some x := ⟨_, List.getElem?_eq_getElem (by omega)⟩
 obtain ⟨y, hy⟩ : ∃ x, ys[j]? = some x := ⟨_, List.getElem?_eq_getElem (by omega)⟩
 refine .kn<|.block<|.seq<|.region_all [13, 15] mixed ?_
 refine .takeO 0 rfl .move (by kernel_rfl)<|.takeO 1 rfl .move (by kernel_rfl)<|.take 2 rfl .move (by kernel_rfl)<|.take 3 rfl .move (by kernel_rfl)<|.takeO 4 rfl .move (by kernel_rfl)<|.takeO 5 rfl .move (by kernel_rfl) ?_
 refine RA.indexO 6 rfl (j) hO1 hy rfl rfl rfl (by kernel_rfl) (fun p22 => ?_)
 refine .takeO 7 rfl (.loadA rfl) (by kernel_rfl)<|.takeO 8 rfl .move (by kernel_rfl)<|.takeO 9 rfl .move (by kernel_rfl) ?_
 refine RA.indexO 10 rfl (i) hO1 hx rfl rfl rfl (by kernel_rfl) (fun p26 => ?_)
 refine .takeO 11 rfl (.loadA rfl) (by kernel_rfl) ?_
 refine RA.indexO 12 rfl (i) hO1 hx rfl rfl rfl (by kernel_rfl) (fun p28 => ?_)
 refine RA.step 13 rfl (by kernel_rfl) rfl ?_
 refine .storeO (i) hO1 hx y (fun Tsa hsa => ?_) (hO1.one _ (List.mem_of_getElem? hy))
 refine .nil (Next.mod rfl ?_)
 refine RA.indexO 14 rfl (j) hO1 hy rfl rfl rfl (by kernel_rfl) (fun p29 => ?_)
 refine RA.step 15 rfl (by kernel_rfl) rfl ?_
 obtain ⟨zz, hzz⟩ : ∃ u, (ys.set (i) y)[j]? = some u := ⟨_, List.getElem?_eq_getElem (by rw [List.length_set]; exact (List.getElem?_eq_some_iff.1 hy).1)⟩
 refine .storeO (j) hsa hzz x (fun Tsw hsw => ?_) (hO1.one _ (List.mem_of_getElem? hx))
 rw [← swp_eq hx hy] at hsw
 refine .nil (Next.mod rfl ?_)
 refine RA.nil (by kernel_rfl) ?_
 refine seqQ_n<|.sr<|.mo rfl ?_
 refine .q (.i64 ((i + 1 : Nat) : Int) .add ⟨by omega, by omega, by omega⟩) ?_
 refine .ag rfl<|.zn<|.region<|.mo rfl ?_
 refine .q (.i64 ((j - 1 : Nat) : Int) .sub ⟨by omega, by omega, by omega⟩) ?_
 refine .ag rfl<|.nil<|blkQ_n ?_
 ·exact loopQ_i (i + 1, j - 1, swp ys i j, Tsw) ⟨⟨by simp only; omega, by simp only; omega, by simp only; omega⟩, hsw, hR1.step (by omega) (by omega) (by omega) (by omega) (by omega)⟩ (by simp only; omega) (EnvLe.k3 rfl rfl rfl) (HLe.refl _)
 refine .exit<|seqQ_x<|loopQ_x<|blkQ_x<|retQ_n _ .none (HLe.refl _) ?_
 ·exact ⟨_, rfl, rfl, ys, hO1, hR1⟩
theorem break_spec (v : Value) (xs : List TP) (T : Seg) (a b : Nat) (R : Rds) (fv : Value) (hfv : One fv) (h : OS 48 9 encT v xs T) (hab : a ≤ b) (hb : b ≤ xs.length) (hl : xs.length ≤ 1000000000) :
  Spec Tryz.prog 171 [v, .int .i64 a, .int .i64 b, fv] R [T] fun u H' => ∃ T', H' = [T'] ∧ u = .tuple #[] ∧ ∃ ys, OS 48 9 encT v ys T' ∧ RP a b xs ys := by
 have iv := h.oneCell
 obtain ⟨n, hn⟩ : ∃ n, b = a + n := ⟨b - a, by omega⟩
 subst hn
 refine Spec.body Tryz.func171 rfl Tryz.results171 Tryz.ntmps171 rfl ?_
 refine .sr<|.mo rfl<|.mo rfl ?_
 refine .q (.i64 ((n : Nat) : Int) .sub ⟨by omega, by omega, by omega⟩) ?_
 refine .ag rfl<|.z<|.mo rfl<|.q .geq<|.zn ?_
 refine .cond rfl (fun h1 => ?_) (fun h1 => ?_)
 have hn8 : 8 ≤ n := by have := of_decide_eq_true h1; omega
 obtain ⟨q, hq⟩ : ∃ q, q = n / 4 := ⟨_, rfl⟩
 refine .sr<|.mo rfl<|.q .convI ?_
 refine .alloc1 (fun b9 => ?_)
 refine .store1 rfl rfl<|.z<|.mo rfl ?_
 refine .callR (npow_spec n (by omega) (by omega) _) (fun u hu => ?_)
 obtain ⟨md, rfl, hmd1, hmd2⟩ := hu
 refine .ag rfl<|.z<|.mo rfl<|.mo rfl ?_
 refine .q (.i64 ((q : Nat) : Int) .quo ⟨by rw [hq, Int.tdiv_eq_ediv_of_nonneg (by omega)]; omega, by omega, by omega⟩) ?_
 refine .q (.i64 ((q * 2 : Nat) : Int) .mul ⟨by omega, by omega, by omega⟩) ?_
 refine .q (.i64 ((a + q * 2 : Nat) : Int) .add ⟨by omega, by omega, by omega⟩) ?_
 refine .q (.i64 ((a + q * 2 - 1 : Nat) : Int) .sub ⟨by omega, by omega, by omega⟩) ?_
 refine .ag rfl<|.zn<|.block ?_
 refine .loop (X := Nat × Int × List TP × Seg) (fun y => (a + q * 2 - 1 ≤ y.1 ∧ y.1 ≤ a + q * 2 + 2) ∧ OS 48 9 encT v y.2.2.1 y.2.2.2 ∧ RP a (a + n) xs y.2.2.1) (fun y => [(0, v), (1, .int .i64 (a : Nat)), (8, .int .i64 (n : Nat)), (9, .pointer (some ⟨b9, 0, none⟩)), (10, .int .u64 (md : Nat)), (11, .int .i64 (y.1 : Nat))]) (fun y => [[(b9, .cells [.int .u64 y.2.1].toArray 252 (0, 0))], y.2.2.2]) (fun y => a + q * 2 + 2 - y.1) (a + q * 2 - 1, _, xs, T) ⟨⟨Nat.le_refl _, by simp only; omega⟩, h, .refl _⟩ (EnvLe.k6 rfl rfl rfl rfl rfl rfl) (HLe.refl _) ?_
 rintro ⟨i, z, ys, T1⟩ ⟨⟨hi1, hi2⟩, hO1, hR1⟩
 simp only at hi1 hi2 hO1 hR1 ⊢
 have hlen := hR1.length
 refine .seq<|.sr<|.mo rfl<|.mo rfl<|.mo rfl ?_
 refine .q (.i64 ((q : Nat) : Int) .quo ⟨by rw [hq, Int.tdiv_eq_ediv_of_nonneg (by omega)]; omega, by omega, by omega⟩) ?_
 refine .q (.i64 ((q * 2 : Nat) : Int) .mul ⟨by omega, by omega, by omega⟩) ?_
 refine .q (.i64 ((a + q * 2 : Nat) : Int) .add ⟨by omega, by omega, by omega⟩) ?_
 refine .q (.i64 ((a + q * 2 + 1 : Nat) : Int) .add ⟨by omega, by omega, by omega⟩) ?_
 refine .q .leq<|.zn ?_
 refine .cond rfl (fun h2 => ?_) (fun h2 => ?_)
 have hi3 : i ≤ a + q * 2 + 1 := by have := of_decide_eq_true h2; omega
 refine .kn<|.seq<|.block<|.sr ?_
 refine .callM (rnd_spec b9 z _) (fun u T2 hu => ?_)
 obtain ⟨z', rfl, rfl⟩ := hu
 refine .mo rfl ?_
 refine .q (Quiet.cast (v' := .int .u64 ((md - 1 : Nat) : Int)) .sub (by rw [wrap_u64_in (by omega) (by omega)]; congr 1; omega)) ?_
 have hal := and_le (z := z') (q := ((md - 1 : Nat) : Int)) (by omega) (by omega)
 obtain ⟨o, ho⟩ : ∃ o : Nat, IntKind.u64.wrap (BitVec.ofInt IntKind.u64.bits z' &&& BitVec.ofInt IntKind.u64.bits ((md - 1 : Nat) : Int)).toNat = (o : Int) := ⟨_, (Int.toNat_of_nonneg hal.1).symm⟩
 refine .q (Quiet.cast (v' := .int .u64 ((o : Nat) : Int)) .andI (by rw [ho])) ?_
 rw [ho] at hal
 refine .q (Quiet.cast (v' := .int .i64 ((o : Nat) : Int)) .convI (by rw [wrap_i64_in (by omega) (by omega)])) ?_
 refine .ag rfl<|.zs ?_
 refine Tri.cut (X := Nat) (fun p => p < n) (fun p => [(0, v), (1, .int .i64 (a : Nat)), (8, .int .i64 (n : Nat)), (9, .pointer (some ⟨b9, 0, none⟩)), (10, .int .u64 (md : Nat)), (11, .int .i64 (i : Nat)), (12, .int .i64 (p : Nat))]) (fun _ => [[(b9, .cells [.int .u64 z'].toArray 252 (0, 0))], T1]) ?_ ?_
 refine .sr<|.mo rfl<|.mo rfl<|.q .geq<|.zn ?_
 refine .cond rfl (fun h3 => ?_) (fun h3 => ?_)
 have ho1 : n ≤ o := by have := of_decide_eq_true h3; omega
 refine .region<|.mo rfl<|.mo rfl ?_
 refine .q (.i64 ((o - n : Nat) : Int) .sub ⟨by omega, by omega, by omega⟩) ?_
 refine .ag rfl<|.nil ?_
 ·exact joinQ_n (o - n) (by omega) (EnvLe.k7 rfl rfl rfl rfl rfl rfl rfl) (HLe.refl _)
 have ho1 : o < n := by have := of_decide_eq_false h3; omega
 refine .skip ?_
 ·exact joinQ_n o (by omega) (EnvLe.k7 rfl rfl rfl rfl rfl rfl rfl) (HLe.refl _)
 intro y hy
 have hpn : y < n := hy
 obtain ⟨p, rfl⟩ : ∃ p, p = y := ⟨_, rfl⟩
 obtain ⟨x, hx⟩ : ∃ x, ys[i]? = some x := ⟨_, List.getElem?_eq_getElem (by omega)⟩
 obtain ⟨w, hw⟩ : ∃ x, ys[a + p]? = some x := ⟨_, List.getElem?_eq_getElem (by omega)⟩
 refine seqQ_n<|.region_all [17, 19] mixed ?_
 refine .takeO 0 rfl .move (by kernel_rfl)<|.takeO 1 rfl .move (by kernel_rfl)<|.take 2 rfl .move (by kernel_rfl)<|.take 3 rfl .move (by kernel_rfl)<|.take 4 rfl .move (by kernel_rfl) ?_
 refine .take 5 rfl (.i64 ((a + p : Nat) : Int) .add ⟨by omega, by omega, by omega⟩) (by kernel_rfl) ?_
 refine .takeO 6 rfl .move (by kernel_rfl)<|.takeO 7 rfl .move (by kernel_rfl)<|.takeO 8 rfl .move (by kernel_rfl) ?_
 refine .takeO 9 rfl (.i64 ((a + p : Nat) : Int) .add ⟨by omega, by omega, by omega⟩) (by kernel_rfl) ?_
 refine RA.indexO 10 rfl (a + p) hO1 hw rfl rfl rfl (by kernel_rfl) (fun p59 => ?_)
 refine .takeO 11 rfl (.loadA rfl) (by kernel_rfl)<|.takeO 12 rfl .move (by kernel_rfl)<|.takeO 13 rfl .move (by kernel_rfl) ?_
 refine RA.indexO 14 rfl (i) hO1 hx rfl rfl rfl (by kernel_rfl) (fun p63 => ?_)
 refine .takeO 15 rfl (.loadA rfl) (by kernel_rfl) ?_
 refine RA.indexO 16 rfl (i) hO1 hx rfl rfl rfl (by kernel_rfl) (fun p65 => ?_)
 refine RA.step 17 rfl (by kernel_rfl) rfl ?_
 refine .storeO (i) hO1 hx w (fun Tsa hsa => ?_) (hO1.one _ (List.mem_of_getElem? hw))
 refine .nil (Next.mod rfl ?_)
 refine RA.indexO 18 rfl (a + p) hO1 hw rfl rfl rfl (by kernel_rfl) (fun p66 => ?_)
 refine RA.step 19 rfl (by kernel_rfl) rfl ?_
 obtain ⟨zz, hzz⟩ : ∃ u, (ys.set (i) w)[a + p]? = some u := ⟨_, List.getElem?_eq_getElem (by rw [List.length_set]; exact (List.getElem?_eq_some_iff.1 hw).1)⟩
 refine .storeO (a + p) hsa hzz x (fun Tsw hsw => ?_) (hO1.one _ (List.mem_of_getElem? hx))
 rw [← swp_eq hx hw] at hsw
 refine .nil (Next.mod rfl ?_)
 refine RA.nil (by kernel_rfl) ?_
 refine blkQ_n<|seqQ_n<|.region<|.mo rfl ?_
 refine .q (.i64 ((i + 1 : Nat) : Int) .add ⟨by omega, by omega, by omega⟩) ?_
 refine .ag rfl<|.nil ?_
 ·exact loopQ_i (i + 1, z', swp ys i (a + p), Tsw) ⟨⟨by simp only; omega, by simp only; omega⟩, hsw, hR1.step (by omega) (by omega) (by omega) (by omega) (by omega)⟩ (by simp only; omega) (EnvLe.k6 rfl rfl rfl rfl rfl rfl) (HLe.refl _)
 refine .exit<|seqQ_x<|loopQ_x<|blkQ_x<|retQ_n _ .none (HLe.pick [1] _) ?_
 ·exact ⟨_, rfl, rfl, ys, hO1, hR1⟩
 refine .skip<|retQ_n _ .none (HLe.refl _) ?_
 ·exact ⟨_, rfl, rfl, xs, h, .refl _⟩
end
end STK
namespace STK
section
variable {c : TP → TP → Int} {ok : TP → Prop} {f : FuncId} {caps : List Value} [e : Ent Tryz.prog f]
theorem part_spec (v : Value) (xs : List TP) (T : Seg) (a b : Nat) (R : Rds) (h : OS 48 9 encT v xs T) (hab : a < b) (hb : b ≤ xs.length) (hl : xs.length ≤ 1000000000) (hf : FnC Tryz.prog f caps R (fun p : TP => Value.agg (encT p).toArray) c ok) (hok : ∀ x ∈ xs, ok x) (so : SO (ltc c)) (hlb : LB (ltc c) xs a b) :
  Spec Tryz.prog 174 [v, .int .i64 a, .int .i64 b, .func (.func f) #[] caps.toArray] R [T] fun u H' => ∃ T', H' = [T'] ∧ ∃ ys m, u = .bool m ∧ OS 48 9 encT v ys T' ∧ RP a b xs ys ∧ (m = true → SR (ltc c) ys a b) := by
 have iv := h.oneCell
 refine Spec.body Tryz.func174 rfl Tryz.results174 Tryz.ntmps174 rfl ?_
 refine .sr<|.ag rfl<|.z<|.mo rfl ?_
 refine .q (.i64 ((a + 1 : Nat) : Int) .add ⟨by omega, by omega, by omega⟩) ?_
 refine .ag rfl<|.zs<|.sr<|.ag rfl<|.zn<|.block ?_
 refine .loop (X := Nat × Nat × List TP × Seg) (fun y => (y.1 ≤ 5 ∧ a + 1 ≤ y.2.1 ∧ y.2.1 ≤ b) ∧ OS 48 9 encT v y.2.2.1 y.2.2.2 ∧ RP a b xs y.2.2.1 ∧ SR (ltc c) y.2.2.1 a y.2.1) (fun y => [(0, v), (1, .int .i64 (a : Nat)), (2, .int .i64 (b : Nat)), (3, .func (.func f) #[] caps.toArray), (9, .int .i64 (y.2.1 : Nat)), (10, .int .i64 (y.1 : Nat))]) (fun y => [y.2.2.2]) (fun y => 5 - y.1) (0, a + 1, xs, T) ⟨⟨by omega, Nat.le_refl _, hab⟩, h, .refl _, fun i j h1 h2 h3 => by simp only at h3; omega⟩ (EnvLe.k6 rfl rfl rfl rfl rfl rfl) (HLe.refl _) ?_
 rintro ⟨n, i, ys, T1⟩ ⟨⟨hn, hi1, hi2⟩, hO1, hR1, hS1⟩
 simp only at hn hi1 hi2 hO1 hR1 hS1 ⊢
 have hlen := hR1.length
 refine .seq<|.sr<|.mo rfl<|.q .lss<|.zn ?_
 refine .cond rfl (fun h1 => ?_) (fun h1 => ?_)
 have hn5 : n < 5 := by have := of_decide_eq_true h1; omega
 refine .kn<|.seq<|.block<|.seq ?_
 refine Tri.cut (X := Nat) (fun i => (a + 1 ≤ i ∧ i ≤ b) ∧ SR (ltc c) ys a i) (fun i => [(0, v), (1, .int .i64 (a : Nat)), (2, .int .i64 (b : Nat)), (3, .func (.func f) #[] caps.toArray), (9, .int .i64 (i : Nat)), (10, .int .i64 (n : Nat))]) (fun _ => [T1]) ?_ ?_
 refine .block ?_
 refine .loop (X := Nat) (fun i => (a + 1 ≤ i ∧ i ≤ b) ∧ SR (ltc c) ys a i) (fun i => [(0, v), (1, .int .i64 (a : Nat)), (2, .int .i64 (b : Nat)), (3, .func (.func f) #[] caps.toArray), (9, .int .i64 (i : Nat)), (10, .int .i64 (n : Nat))]) (fun _ => [T1]) (fun i => b - i) i ⟨⟨hi1, hi2⟩, hS1⟩ (EnvLe.k6 rfl rfl rfl rfl rfl rfl) (HLe.refl _) ?_
 clear hi1 hi2 hS1
 rintro i ⟨⟨hi1, hi2⟩, hS1⟩
 refine .seq<|.seq ?_
 refine .region_tail 14 mixed (by kernel_rfl) ?_
 conv => arg 6; dsimp only [List.take]
 refine .mo rfl<|.mo rfl<|.q .lss<|.mo rfl ?_
 refine .split (t := 22) rfl (fun g5_3 => ?_) (fun g5_3 => ?_)
 have hib : i < b := by have := of_decide_eq_true g5_3; omega
 obtain ⟨x, hx⟩ : ∃ x, ys[i]? = some x := ⟨_, List.getElem?_eq_getElem (by omega)⟩
 obtain ⟨y, hy⟩ : ∃ x, ys[i - 1]? = some x := ⟨_, List.getElem?_eq_getElem (by omega)⟩
 have okx := hok x (hR1.perm.mem_iff.1 (List.mem_of_getElem? hx))
 have oky := hok y (hR1.perm.mem_iff.1 (List.mem_of_getElem? hy))
 refine .gT g5_3<|.mo rfl<|.gT g5_3<|.mo rfl<|.gT g5_3<|.mo rfl<|.gT g5_3 ?_
 refine .indexO i hO1 hx (fun p26 => ?_)
 refine .gT g5_3<|.q (.loadA rfl)<|.gT g5_3<|.mo rfl<|.gT g5_3<|.mo rfl<|.gT g5_3 ?_
 refine .q (.i64 ((i - 1 : Nat) : Int) .sub ⟨by omega, by omega, by omega⟩) ?_
 refine .gT g5_3 ?_
 refine .indexO (i - 1) hO1 hy (fun p31 => ?_)
 refine .gT g5_3<|.q (.loadA rfl)<|.nil<|.gT g5_3 ?_
 refine .callRV (first := []) (captured := caps) (vs := [(fun p : TP => Value.agg (encT p).toArray) x, (fun p : TP => Value.agg (encT p).toArray) y]) (hf x y okx oky _ (fun b o hb => .inl hb)) (fun u hu => ?_)
 subst hu
 refine .gT g5_3<|.q .lss<|.gT g5_3<|.q .not<|.q (.pickTh g5_3) ?_
 refine .zn ?_
 refine .cond rfl (fun h2 => ?_) (fun h2 => ?_)
 refine .kn<|.block<|.region<|.mo rfl ?_
 refine .q (.i64 ((i + 1 : Nat) : Int) .add ⟨by omega, by omega, by omega⟩) ?_
 refine .ag rfl<|.nil<|blkQ_n ?_
 ·have hnl : ltc c x y = false := by
   have h2' : (!ltc c x y) = true := h2
   simpa using h2'
  exact loopQ_i (i + 1) ⟨⟨by omega, by omega⟩, hS1.snoc so (by omega) (by omega) fun u w hu hw => by
   rw [hy] at hu; rw [hx] at hw; cases hu; cases hw; exact hnl⟩ (by omega) (EnvLe.k6 rfl rfl rfl rfl rfl rfl) (HLe.refl _)
 refine .exit<|seqQ_x<|loopQ_x<|blkQ_x ?_
 exact joinQ_n i ⟨⟨hi1, hi2⟩, hS1⟩ (EnvLe.k6 rfl rfl rfl rfl rfl rfl) (HLe.refl _)
 refine .gF g5_3<|.gF g5_3<|.gF g5_3<|.gF g5_3<|.gF g5_3<|.gF g5_3<|.gF g5_3<|.gF g5_3<|.gF g5_3<|.gF g5_3<|.nil<|.gF g5_3<|.gF g5_3<|.gF g5_3<|.q (.pickFh g5_3) ?_
 refine .zn<|.condF<|.exit<|seqQ_x<|loopQ_x<|blkQ_x ?_
 exact joinQ_n i ⟨⟨hi1, hi2⟩, hS1⟩ (EnvLe.k6 rfl rfl rfl rfl rfl rfl) (HLe.refl _)
 intro x hx
 obtain ⟨i2, hi2e⟩ : ∃ i2, i2 = x := ⟨_, rfl⟩
 rw [← hi2e] at hx ⊢
 clear hi2e x hi1 hi2 hS1
 obtain ⟨⟨hi1, hi2⟩, hS1⟩ := hx
 refine seqQ_n<|.seq<|.sr<|.mo rfl<|.mo rfl<|.q .eqI<|.zn ?_
 refine .cond rfl (fun h3 => ?_) (fun h3 => ?_)
 refine .sr<|.ag rfl<|.zn ?_
 refine .ret (seqQ_r (blkQ_r (seqQ_r (loopQ_r (blkQ_r (seqQ_r (retQ_r _ (.one (.tmp rfl)) (HLe.refl _) ?_)))))))
 ·have heq : i2 = b := by
   have h3' : ((i2 : Int) = b) := by simpa using h3
   omega
  exact ⟨_, rfl, ys, true, rfl, hO1, hR1, fun _ => heq ▸ hS1⟩
 have hib : i2 < b := by
  have h3' : ¬ ((i2 : Int) = b) := by simpa using h3
  omega
 obtain ⟨x, hx⟩ : ∃ x, ys[i2]? = some x := ⟨_, List.getElem?_eq_getElem (by omega)⟩
 obtain ⟨y, hy⟩ : ∃ x, ys[i2 - 1]? = some x := ⟨_, List.getElem?_eq_getElem (by omega)⟩
 refine .kn<|.seq<|.sr<|.mo rfl<|.mo rfl ?_
 refine .q (.i64 ((b - a : Nat) : Int) .sub ⟨by omega, by omega, by omega⟩) ?_
 refine .q .lss<|.zn ?_
 refine .cond rfl (fun h4 => ?_) (fun h4 => ?_)
 refine .sr<|.ag rfl<|.zn ?_
 refine .ret (seqQ_r (blkQ_r (seqQ_r (loopQ_r (blkQ_r (seqQ_r (retQ_r _ (.one (.tmp rfl)) (HLe.refl _) ?_)))))))
 ·exact ⟨_, rfl, ys, false, rfl, hO1, hR1, fun h => by cases h⟩
 refine .kn<|.seq<|.region_all [15, 17] mixed ?_
 refine .takeO 0 rfl .move (by kernel_rfl)<|.takeO 1 rfl .move (by kernel_rfl)<|.take 2 rfl .move (by kernel_rfl)<|.take 3 rfl .move (by kernel_rfl) ?_
 refine .take 4 rfl (.i64 ((i2 - 1 : Nat) : Int) .sub ⟨by omega, by omega, by omega⟩) (by kernel_rfl) ?_
 refine .takeO 5 rfl .move (by kernel_rfl)<|.takeO 6 rfl .move (by kernel_rfl) ?_
 refine .takeO 7 rfl (.i64 ((i2 - 1 : Nat) : Int) .sub ⟨by omega, by omega, by omega⟩) (by kernel_rfl) ?_
 refine RA.indexO 8 rfl (i2 - 1) hO1 hy rfl rfl rfl (by kernel_rfl) (fun p54 => ?_)
 refine .takeO 9 rfl (.loadA rfl) (by kernel_rfl)<|.takeO 10 rfl .move (by kernel_rfl)<|.takeO 11 rfl .move (by kernel_rfl) ?_
 refine RA.indexO 12 rfl (i2) hO1 hx rfl rfl rfl (by kernel_rfl) (fun p58 => ?_)
 refine .takeO 13 rfl (.loadA rfl) (by kernel_rfl) ?_
 refine RA.indexO 14 rfl (i2) hO1 hx rfl rfl rfl (by kernel_rfl) (fun p60 => ?_)
 refine RA.step 15 rfl (by kernel_rfl) rfl ?_
 refine .storeO (i2) hO1 hx y (fun Tsa hsa => ?_) (hO1.one _ (List.mem_of_getElem? hy))
 refine .nil (Next.mod rfl ?_)
 refine RA.indexO 16 rfl (i2 - 1) hO1 hy rfl rfl rfl (by kernel_rfl) (fun p61 => ?_)
 refine RA.step 17 rfl (by kernel_rfl) rfl ?_
 obtain ⟨zz, hzz⟩ : ∃ u, (ys.set (i2) y)[i2 - 1]? = some u := ⟨_, List.getElem?_eq_getElem (by rw [List.length_set]; exact (List.getElem?_eq_some_iff.1 hy).1)⟩
 refine .storeO (i2 - 1) hsa hzz x (fun Tsw hsw => ?_) (hO1.one _ (List.mem_of_getElem? hx))
 rw [← swp_eq hx hy] at hsw
 refine .nil (Next.mod rfl ?_)
 refine RA.nil (by kernel_rfl) ?_
 have hR2 := hR1.step (i := i2) (j := i2 - 1) (by omega) (by omega) (by omega) (by omega) (by omega)
 have hI2 := hS1.swp_last (by omega)
 clear hS1
 refine seqQ_n<|.seq ?_
 refine Tri.cut (X := List TP × Seg) (fun z => OS 48 9 encT v z.1 z.2 ∧ RP a b xs z.1 ∧ SR (ltc c) z.1 a i2) (fun _ => [(0, v), (1, .int .i64 (a : Nat)), (2, .int .i64 (b : Nat)), (3, .func (.func f) #[] caps.toArray), (9, .int .i64 (i2 : Nat)), (10, .int .i64 (n : Nat))]) (fun z => [z.2]) ?_ ?_
 refine .sr<|.mo rfl<|.mo rfl ?_
 refine .q (.i64 ((i2 - a : Nat) : Int) .sub ⟨by omega, by omega, by omega⟩) ?_
 refine .q .geq<|.zn ?_
 refine .cond rfl (fun h5 => ?_) (fun h5 => ?_)
 refine .sr<|.mo rfl ?_
 refine .q (.i64 ((i2 - 1 : Nat) : Int) .sub ⟨by omega, by omega, by omega⟩) ?_
 refine .ag rfl<|.zn<|.block ?_
 refine .loop (X := Nat × List TP × Seg) (fun z => (a ≤ z.1 ∧ z.1 ≤ i2 - 1) ∧ OS 48 9 encT v z.2.1 z.2.2 ∧ RP a b xs z.2.1 ∧ Ins (ltc c) z.2.1 a z.1 i2) (fun z => [(0, v), (1, .int .i64 (a : Nat)), (2, .int .i64 (b : Nat)), (3, .func (.func f) #[] caps.toArray), (9, .int .i64 (i2 : Nat)), (10, .int .i64 (n : Nat)), (11, .int .i64 (z.1 : Nat))]) (fun z => [z.2.2]) (fun z => z.1) (i2 - 1, swp ys i2 (i2 - 1), Tsw) ⟨⟨by simp only; omega, Nat.le_refl _⟩, hsw, hR2, hI2⟩ (EnvLe.k7 rfl rfl rfl rfl rfl rfl rfl) (HLe.refl _) ?_
 rintro ⟨q, zs, T3⟩ ⟨⟨hq1, hq2⟩, hO3, hR3, hI3⟩
 simp only at hq1 hq2 hO3 hR3 hI3 ⊢
 have hlen3 := hR3.length
 refine .seq<|.sr<|.mo rfl<|.q .geq<|.zn ?_
 refine .cond rfl (fun h6 => ?_) (fun h6 => ?_)
 have hq0 : 1 ≤ q := by have := of_decide_eq_true h6; omega
 obtain ⟨s, hs⟩ : ∃ x, zs[q]? = some x := ⟨_, List.getElem?_eq_getElem (by omega)⟩
 obtain ⟨t, ht⟩ : ∃ x, zs[q - 1]? = some x := ⟨_, List.getElem?_eq_getElem (by omega)⟩
 have oks := hok s (hR3.perm.mem_iff.1 (List.mem_of_getElem? hs))
 have okt := hok t (hR3.perm.mem_iff.1 (List.mem_of_getElem? ht))
 refine .kn<|.seq<|.block<|.seq<|.seq ?_
 refine .region_tail 10 mixed (by kernel_rfl) ?_
 conv => arg 6; dsimp only [List.take]
 refine .mo rfl<|.mo rfl<|.mo rfl ?_
 refine .indexO q hO3 hs (fun p75 => ?_)
 refine .q (.loadA rfl)<|.mo rfl<|.mo rfl ?_
 refine .q (.i64 ((q - 1 : Nat) : Int) .sub ⟨by omega, by omega, by omega⟩) ?_
 refine .indexO (q - 1) hO3 ht (fun p80 => ?_)
 refine .q (.loadA rfl)<|.nil ?_
 refine .callRV (first := []) (captured := caps) (vs := [(fun p : TP => Value.agg (encT p).toArray) s, (fun p : TP => Value.agg (encT p).toArray) t]) (hf s t oks okt _ (fun b o hb => .inl hb)) (fun u hu => ?_)
 subst hu
 refine .q .lss<|.q .not<|.zn ?_
 refine .cond rfl (fun h7 => ?_) (fun h7 => ?_)
 have hdone : SR (ltc c) zs a i2 := hI3.done so (by omega) (by omega) (by
  have h7' : (!ltc c s t) = true := h7
  rcases Nat.lt_or_ge a q with hh | hh
  ·exact .inr ⟨hh, fun u w hu hw => by rw [ht] at hu; rw [hs] at hw; cases hu; cases hw; simpa using h7'⟩
  ·exact .inl (by omega))
 refine .exit (seqQ_x (blkQ_y (seqQ_x (loopQ_x (blkQ_x ?_)))))
 ·exact joinQ_n (zs, T3) ⟨hO3, hR3, hdone⟩ (EnvLe.k6 rfl rfl rfl rfl rfl rfl) (HLe.refl _)
 have hls : ltc c s t = true := by
  have h7' : (!ltc c s t) = false := h7
  simpa using h7'
 have haq : a < q := by
  rcases Nat.lt_or_ge a q with hh | hh
  ·exact hh
  ·have ea : q = a := by omega
   subst ea
   have := (hlb.rp hR3) (by omega) q (Nat.le_refl _) hab t s ht hs
   rw [this] at hls; cases hls
 refine .kn<|.region_all [15, 17] mixed ?_
 refine .takeO 0 rfl .move (by kernel_rfl)<|.takeO 1 rfl .move (by kernel_rfl)<|.take 2 rfl .move (by kernel_rfl)<|.take 3 rfl .move (by kernel_rfl) ?_
 refine .take 4 rfl (.i64 ((q - 1 : Nat) : Int) .sub ⟨by omega, by omega, by omega⟩) (by kernel_rfl) ?_
 refine .takeO 5 rfl .move (by kernel_rfl)<|.takeO 6 rfl .move (by kernel_rfl) ?_
 refine .takeO 7 rfl (.i64 ((q - 1 : Nat) : Int) .sub ⟨by omega, by omega, by omega⟩) (by kernel_rfl) ?_
 refine RA.indexO 8 rfl (q - 1) hO3 ht rfl rfl rfl (by kernel_rfl) (fun p93 => ?_)
 refine .takeO 9 rfl (.loadA rfl) (by kernel_rfl)<|.takeO 10 rfl .move (by kernel_rfl)<|.takeO 11 rfl .move (by kernel_rfl) ?_
 refine RA.indexO 12 rfl (q) hO3 hs rfl rfl rfl (by kernel_rfl) (fun p97 => ?_)
 refine .takeO 13 rfl (.loadA rfl) (by kernel_rfl) ?_
 refine RA.indexO 14 rfl (q) hO3 hs rfl rfl rfl (by kernel_rfl) (fun p99 => ?_)
 refine RA.step 15 rfl (by kernel_rfl) rfl ?_
 refine .storeO (q) hO3 hs t (fun Tsa hsa => ?_) (hO3.one _ (List.mem_of_getElem? ht))
 refine .nil (Next.mod rfl ?_)
 refine RA.indexO 16 rfl (q - 1) hO3 ht rfl rfl rfl (by kernel_rfl) (fun p100 => ?_)
 refine RA.step 17 rfl (by kernel_rfl) rfl ?_
 obtain ⟨zz, hzz⟩ : ∃ u, (zs.set (q) t)[q - 1]? = some u := ⟨_, List.getElem?_eq_getElem (by rw [List.length_set]; exact (List.getElem?_eq_some_iff.1 ht).1)⟩
 refine .storeO (q - 1) hsa hzz s (fun Tsw hsw => ?_) (hO3.one _ (List.mem_of_getElem? hs))
 rw [← swp_eq hs ht] at hsw
 refine .nil (Next.mod rfl ?_)
 refine RA.nil (by kernel_rfl) ?_
 refine blkQ_n<|seqQ_n<|.region<|.mo rfl ?_
 refine .q (.i64 ((q - 1 : Nat) : Int) .sub ⟨by omega, by omega, by omega⟩) ?_
 refine .ag rfl<|.nil ?_
 ·exact loopQ_i (q - 1, swp zs q (q - 1), Tsw) ⟨⟨by simp only; omega, by simp only; omega⟩, hsw, hR3.step (by omega) (by omega) (by omega) (by omega) (by omega), hI3.step so (by omega) (by omega) haq hs ht hls⟩ (by simp only; omega) (EnvLe.k7 rfl rfl rfl rfl rfl rfl rfl) (HLe.refl _)
 have hdone : SR (ltc c) zs a i2 := hI3.done so (by omega) (by omega) (.inl (by have := of_decide_eq_false h6; omega))
 refine .exit<|seqQ_x<|loopQ_x<|blkQ_x ?_
 ·exact joinQ_n (zs, T3) ⟨hO3, hR3, hdone⟩ (EnvLe.k6 rfl rfl rfl rfl rfl rfl) (HLe.refl _)
 refine .skip ?_
 ·exact joinQ_n (swp ys i2 (i2 - 1), Tsw) ⟨hsw, hR2, fun p q h1 h2 h3 => by have := of_decide_eq_false h5; omega⟩ (EnvLe.k6 rfl rfl rfl rfl rfl rfl) (HLe.refl _)
 intro y hy
 obtain ⟨zs, T3⟩ := y
 obtain ⟨hO3, hR3, hS3⟩ := hy
 simp only at hO3 hR3 hS3 ⊢
 refine seqQ_n ?_
 refine Tri.cut (X := List TP × Seg) (fun z => OS 48 9 encT v z.1 z.2 ∧ RP a b xs z.1 ∧ SR (ltc c) z.1 a i2) (fun _ => [(0, v), (1, .int .i64 (a : Nat)), (2, .int .i64 (b : Nat)), (3, .func (.func f) #[] caps.toArray), (9, .int .i64 (i2 : Nat)), (10, .int .i64 (n : Nat))]) (fun z => [z.2]) ?_ ?_
 refine .sr<|.mo rfl<|.mo rfl ?_
 refine .q (.i64 ((b - i2 : Nat) : Int) .sub ⟨by omega, by omega, by omega⟩) ?_
 refine .q .geq<|.zn ?_
 refine .cond rfl (fun h8 => ?_) (fun h8 => ?_)
 refine .sr<|.mo rfl ?_
 refine .q (.i64 ((i2 + 1 : Nat) : Int) .add ⟨by omega, by omega, by omega⟩) ?_
 refine .ag rfl<|.zn<|.block ?_
 refine .loop (X := Nat × List TP × Seg) (fun z => (i2 + 1 ≤ z.1 ∧ z.1 ≤ b) ∧ OS 48 9 encT v z.2.1 z.2.2 ∧ RP a b xs z.2.1 ∧ SR (ltc c) z.2.1 a i2) (fun z => [(0, v), (1, .int .i64 (a : Nat)), (2, .int .i64 (b : Nat)), (3, .func (.func f) #[] caps.toArray), (9, .int .i64 (i2 : Nat)), (10, .int .i64 (n : Nat)), (12, .int .i64 (z.1 : Nat))]) (fun z => [z.2.2]) (fun z => b - z.1) (i2 + 1, zs, T3) ⟨⟨Nat.le_refl _, by simp only; omega⟩, hO3, hR3, hS3⟩ (EnvLe.k7 rfl rfl rfl rfl rfl rfl rfl) (HLe.refl _) ?_
 rintro ⟨q, ws, T4⟩ ⟨⟨hq1, hq2⟩, hO4, hR4, hS4⟩
 simp only at hq1 hq2 hO4 hR4 hS4 ⊢
 have hlen4 := hR4.length
 refine .seq<|.sr<|.mo rfl<|.mo rfl<|.q .lss<|.zn ?_
 refine .cond rfl (fun h9 => ?_) (fun h9 => ?_)
 have hqb : q < b := by have := of_decide_eq_true h9; omega
 obtain ⟨s, hs⟩ : ∃ x, ws[q]? = some x := ⟨_, List.getElem?_eq_getElem (by omega)⟩
 obtain ⟨t, ht⟩ : ∃ x, ws[q - 1]? = some x := ⟨_, List.getElem?_eq_getElem (by omega)⟩
 have oks := hok s (hR4.perm.mem_iff.1 (List.mem_of_getElem? hs))
 have okt := hok t (hR4.perm.mem_iff.1 (List.mem_of_getElem? ht))
 refine .kn<|.seq<|.block<|.seq<|.seq ?_
 refine .region_tail 10 mixed (by kernel_rfl) ?_
 conv => arg 6; dsimp only [List.take]
 refine .mo rfl<|.mo rfl<|.mo rfl ?_
 refine .indexO q hO4 hs (fun p115 => ?_)
 refine .q (.loadA rfl)<|.mo rfl<|.mo rfl ?_
 refine .q (.i64 ((q - 1 : Nat) : Int) .sub ⟨by omega, by omega, by omega⟩) ?_
 refine .indexO (q - 1) hO4 ht (fun p120 => ?_)
 refine .q (.loadA rfl)<|.nil ?_
 refine .callRV (first := []) (captured := caps) (vs := [(fun p : TP => Value.agg (encT p).toArray) s, (fun p : TP => Value.agg (encT p).toArray) t]) (hf s t oks okt _ (fun b o hb => .inl hb)) (fun u hu => ?_)
 subst hu
 refine .q .lss<|.q .not<|.zn ?_
 refine .cond rfl (fun h10 => ?_) (fun h10 => ?_)
 refine .exit (seqQ_x (blkQ_y (seqQ_x (loopQ_x (blkQ_x ?_)))))
 ·exact joinQ_n (ws, T4) ⟨hO4, hR4, hS4⟩ (EnvLe.k6 rfl rfl rfl rfl rfl rfl) (HLe.refl _)
 refine .kn<|.region_all [15, 17] mixed ?_
 refine .takeO 0 rfl .move (by kernel_rfl)<|.takeO 1 rfl .move (by kernel_rfl)<|.take 2 rfl .move (by kernel_rfl)<|.take 3 rfl .move (by kernel_rfl) ?_
 refine .take 4 rfl (.i64 ((q - 1 : Nat) : Int) .sub ⟨by omega, by omega, by omega⟩) (by kernel_rfl) ?_
 refine .takeO 5 rfl .move (by kernel_rfl)<|.takeO 6 rfl .move (by kernel_rfl) ?_
 refine .takeO 7 rfl (.i64 ((q - 1 : Nat) : Int) .sub ⟨by omega, by omega, by omega⟩) (by kernel_rfl) ?_
 refine RA.indexO 8 rfl (q - 1) hO4 ht rfl rfl rfl (by kernel_rfl) (fun p133 => ?_)
 refine .takeO 9 rfl (.loadA rfl) (by kernel_rfl)<|.takeO 10 rfl .move (by kernel_rfl)<|.takeO 11 rfl .move (by kernel_rfl) ?_
 refine RA.indexO 12 rfl (q) hO4 hs rfl rfl rfl (by kernel_rfl) (fun p137 => ?_)
 refine .takeO 13 rfl (.loadA rfl) (by kernel_rfl) ?_
 refine RA.indexO 14 rfl (q) hO4 hs rfl rfl rfl (by kernel_rfl) (fun p139 => ?_)
 refine RA.step 15 rfl (by kernel_rfl) rfl ?_
 refine .storeO (q) hO4 hs t (fun Tsa hsa => ?_) (hO4.one _ (List.mem_of_getElem? ht))
 refine .nil (Next.mod rfl ?_)
 refine RA.indexO 16 rfl (q - 1) hO4 ht rfl rfl rfl (by kernel_rfl) (fun p140 => ?_)
 refine RA.step 17 rfl (by kernel_rfl) rfl ?_
 obtain ⟨zz, hzz⟩ : ∃ u, (ws.set (q) t)[q - 1]? = some u := ⟨_, List.getElem?_eq_getElem (by rw [List.length_set]; exact (List.getElem?_eq_some_iff.1 ht).1)⟩
 refine .storeO (q - 1) hsa hzz s (fun Tsw hsw => ?_) (hO4.one _ (List.mem_of_getElem? hs))
 rw [← swp_eq hs ht] at hsw
 refine .nil (Next.mod rfl ?_)
 refine RA.nil (by kernel_rfl) ?_
 refine blkQ_n<|seqQ_n<|.region<|.mo rfl ?_
 refine .q (.i64 ((q + 1 : Nat) : Int) .add ⟨by omega, by omega, by omega⟩) ?_
 refine .ag rfl<|.nil ?_
 ·exact loopQ_i (q + 1, swp ws q (q - 1), Tsw) ⟨⟨by simp only; omega, by simp only; omega⟩, hsw, hR4.step (by omega) (by omega) (by omega) (by omega) (by omega), hS4.swp_out (by omega) (by omega) (by omega) (by omega)⟩ (by simp only; omega) (EnvLe.k7 rfl rfl rfl rfl rfl rfl rfl) (HLe.refl _)
 refine .exit<|seqQ_x<|loopQ_x<|blkQ_x ?_
 ·exact joinQ_n (ws, T4) ⟨hO4, hR4, hS4⟩ (EnvLe.k6 rfl rfl rfl rfl rfl rfl) (HLe.refl _)
 refine .skip ?_
 ·exact joinQ_n (zs, T3) ⟨hO3, hR3, hS3⟩ (EnvLe.k6 rfl rfl rfl rfl rfl rfl) (HLe.refl _)
 intro y hy
 obtain ⟨us, T5⟩ := y
 obtain ⟨hO5, hR5, hS5⟩ := hy
 simp only at hO5 hR5 hS5 ⊢
 refine blkQ_n<|seqQ_n<|.region<|.mo rfl ?_
 refine .q (.i64 ((n + 1 : Nat) : Int) .add ⟨by omega, by omega, by omega⟩) ?_
 refine .ag rfl<|.nil ?_
 ·exact loopQ_i (n + 1, i2, us, T5) ⟨⟨by simp only; omega, hi1, hi2⟩, hO5, hR5, hS5⟩ (by simp only; omega) (EnvLe.k6 rfl rfl rfl rfl rfl rfl) (HLe.refl _)
 refine .exit<|seqQ_x<|loopQ_x<|blkQ_x<|seqQ_n<|.sr<|.ag rfl<|.zn ?_
 refine .ret (retQ_r _ (.one (.tmp rfl)) (HLe.refl _) ?_)
 ·exact ⟨_, rfl, ys, false, rfl, hO1, hR1, fun h => by cases h⟩
end
end STK
namespace STK
section
variable {c : TP → TP → Int} {ok : TP → Prop} {f : FuncId} {caps : List Value} [e : Ent Tryz.prog f]
theorem order2_spec (v : Value) (xs : List TP) (a b lo hi bs : Nat) (s : Int) (R : Rds) (h : RS R 9 encT v xs) (ha : lo ≤ a ∧ a < hi) (hb : lo ≤ b ∧ b < hi) (hhi : hi ≤ xs.length) (hf : FnC Tryz.prog f caps R (fun p : TP => Value.agg (encT p).toArray) c ok) (hok : ∀ x ∈ xs, ok x) :
  Spec Tryz.prog 274 [v, .int .i64 a, .int .i64 b, .pointer (some ⟨bs, 0, none⟩), .func (.func f) #[] caps.toArray] R [[(bs, .cells [.int .i64 s].toArray 3 (0, 0))]] fun u H' => ∃ T', H' = [T'] ∧ ∃ (s' : Int) (p q : Nat), u = .tuple [.int .i64 p, .int .i64 q].toArray ∧ T' = [(bs, .cells [.int .i64 s'].toArray 3 (0, 0))] ∧ (lo ≤ p ∧ p < hi) ∧ (lo ≤ q ∧ q < hi) := by
 have iv := h.oneCell
 obtain ⟨x, hx⟩ : ∃ x, xs[b]? = some x := ⟨_, List.getElem?_eq_getElem (by omega)⟩
 obtain ⟨y, hy⟩ : ∃ x, xs[a]? = some x := ⟨_, List.getElem?_eq_getElem (by omega)⟩
 have okx := hok x (List.mem_of_getElem? hx)
 have oky := hok y (List.mem_of_getElem? hy)
 refine Spec.body Tryz.func274 rfl Tryz.results274 Tryz.ntmps274 rfl ?_
 refine .sr<|.ag rfl<|.ag rfl<|.zs<|.seq ?_
 refine .region_tail 9 mixed (by kernel_rfl) ?_
 conv => arg 6; dsimp only [List.take]
 refine .mo rfl<|.mo rfl<|.mo rfl ?_
 refine .indexR b h hx (fun p15 => ?_)
 refine .q (.loadA rfl)<|.mo rfl<|.mo rfl ?_
 refine .indexR a h hy (fun p19 => ?_)
 refine .q (.loadA rfl)<|.nil ?_
 refine .callRV (first := []) (captured := caps) (vs := [(fun p : TP => Value.agg (encT p).toArray) x, (fun p : TP => Value.agg (encT p).toArray) y]) (hf x y okx oky _ (fun b o hb => .inl hb)) (fun u hu => ?_)
 subst hu
 refine .q .lss<|.zn ?_
 refine .cond rfl (fun h1 => ?_) (fun h1 => ?_)
 refine .sr<|.mo rfl<|.nc rfl<|.lo rfl<|.q .add<|.nc rfl<|.store1 rfl rfl<|.z<|.mo rfl<|.mo rfl<|.ag rfl<|.ag rfl<|.zn ?_
 refine .ret (seqQ_r (retQ_r _ (.two (.tmp rfl) (.tmp rfl)) (HLe.refl _) ?_))
 ·exact ⟨_, rfl, _, b, a, rfl, rfl, hb, ha⟩
 refine .kn<|.sr<|.mo rfl<|.mo rfl<|.ag rfl<|.ag rfl<|.zn ?_
 refine .ret (retQ_r _ (.two (.tmp rfl) (.tmp rfl)) (HLe.refl _) ?_)
 ·exact ⟨_, rfl, _, a, b, rfl, rfl, ha, hb⟩
theorem median_spec (v : Value) (xs : List TP) (a b d lo hi bs : Nat) (s : Int) (R : Rds) (h : RS R 9 encT v xs) (ha : lo ≤ a ∧ a < hi) (hb : lo ≤ b ∧ b < hi) (hd : lo ≤ d ∧ d < hi) (hhi : hi ≤ xs.length) (hf : FnC Tryz.prog f caps R (fun p : TP => Value.agg (encT p).toArray) c ok) (hok : ∀ x ∈ xs, ok x) :
  Spec Tryz.prog 230 [v, .int .i64 a, .int .i64 b, .int .i64 d, .pointer (some ⟨bs, 0, none⟩), .func (.func f) #[] caps.toArray] R [[(bs, .cells [.int .i64 s].toArray 3 (0, 0))]] fun u H' => ∃ T', H' = [T'] ∧ ∃ (s' : Int) (p : Nat), u = .int .i64 p ∧ T' = [(bs, .cells [.int .i64 s'].toArray 3 (0, 0))] ∧ (lo ≤ p ∧ p < hi) := by
 have iv := h.oneCell
 refine Spec.body Tryz.func230 rfl Tryz.results230 Tryz.ntmps230 rfl ?_
 refine .sr<|.ag rfl<|.z<|.mo rfl<|.mo rfl<|.mo rfl<|.mo rfl<|.mo rfl ?_
 refine .callM (order2_spec v xs a b lo hi bs s _ h ha hb hhi hf hok) (fun u T1 hu => ?_)
 obtain ⟨s1, p1, q1, rfl, rfl, hp1, hq1⟩ := hu
 refine .mo rfl<|.q .extract<|.q .extract<|.ag rfl<|.ag rfl<|.z<|.mo rfl<|.mo rfl<|.mo rfl<|.mo rfl<|.mo rfl ?_
 refine .callM (order2_spec v xs q1 d lo hi bs s1 _ h hq1 hd hhi hf hok) (fun u T2 hu => ?_)
 obtain ⟨s2, p2, q2, rfl, rfl, hp2, hq2⟩ := hu
 refine .mo rfl<|.q .extract<|.q .extract<|.ag rfl<|.ag rfl<|.z<|.mo rfl<|.mo rfl<|.mo rfl<|.mo rfl<|.mo rfl ?_
 refine .callM (order2_spec v xs p1 p2 lo hi bs s2 _ h hp1 hp2 hhi hf hok) (fun u T3 hu => ?_)
 obtain ⟨s3, p3, q3, rfl, rfl, hp3, hq3⟩ := hu
 refine .mo rfl<|.q .extract<|.q .extract<|.ag rfl<|.ag rfl<|.z<|.mo rfl<|.ag rfl<|.zn ?_
 refine .ret (retQ_r _ (.one (.tmp rfl)) (HLe.refl _) ?_)
 ·exact ⟨_, rfl, s3, q3, rfl, rfl, hq3⟩
theorem medianA_spec (v : Value) (xs : List TP) (a lo hi bs : Nat) (s : Int) (R : Rds) (h : RS R 9 encT v xs) (ha : lo + 1 ≤ a ∧ a + 1 < hi) (hhi : hi ≤ xs.length) (hl : xs.length ≤ 1000000000) (hf : FnC Tryz.prog f caps R (fun p : TP => Value.agg (encT p).toArray) c ok) (hok : ∀ x ∈ xs, ok x) :
  Spec Tryz.prog 229 [v, .int .i64 a, .pointer (some ⟨bs, 0, none⟩), .func (.func f) #[] caps.toArray] R [[(bs, .cells [.int .i64 s].toArray 3 (0, 0))]] fun u H' => ∃ T', H' = [T'] ∧ ∃ (s' : Int) (p : Nat), u = .int .i64 p ∧ T' = [(bs, .cells [.int .i64 s'].toArray 3 (0, 0))] ∧ (lo ≤ p ∧ p < hi) := by
 have iv := h.oneCell
 refine Spec.body Tryz.func229 rfl Tryz.results229 Tryz.ntmps229 rfl ?_
 refine .sr<|.ag rfl<|.z<|.mo rfl<|.mo rfl ?_
 refine .q (.i64 ((a - 1 : Nat) : Int) .sub ⟨by omega, by omega, by omega⟩) ?_
 refine .mo rfl<|.mo rfl ?_
 refine .q (.i64 ((a + 1 : Nat) : Int) .add ⟨by omega, by omega, by omega⟩) ?_
 refine .mo rfl<|.mo rfl ?_
 refine .callM (median_spec v xs (a - 1) a (a + 1) lo hi bs s _ h (by omega) (by omega) (by omega) hhi hf hok) (fun u T1 hu => ?_)
 obtain ⟨s1, p1, rfl, rfl, hp1⟩ := hu
 refine .ag rfl<|.zn ?_
 refine .ret (retQ_r _ (.one (.tmp rfl)) (HLe.refl _) ?_)
 ·exact ⟨_, rfl, s1, p1, rfl, rfl, hp1⟩
theorem choose_spec (v : Value) (xs : List TP) (a b : Nat) (R : Rds) (h : RS R 9 encT v xs) (hab : a < b) (hb : b ≤ xs.length) (hl : xs.length ≤ 1000000000) (hf : FnC Tryz.prog f caps R (fun p : TP => Value.agg (encT p).toArray) c ok) (hok : ∀ x ∈ xs, ok x) :
  Spec Tryz.prog 172 [v, .int .i64 a, .int .i64 b, .func (.func f) #[] caps.toArray] R [] fun u H' => (∃ (p : Nat) (t : Int), u = .tuple [.int .i64 p, .int .i64 t].toArray ∧ a ≤ p ∧ p < b) ∧ H' = [] := by
 have iv := h.oneCell
 obtain ⟨n, hn⟩ : ∃ n, b = a + n := ⟨b - a, by omega⟩
 subst hn
 obtain ⟨q, hq⟩ : ∃ q, q = n / 4 := ⟨_, rfl⟩
 refine Spec.body Tryz.func172 rfl Tryz.results172 Tryz.ntmps172 rfl ?_
 refine .sr<|.ag rfl<|.ag rfl<|.z<|.mo rfl<|.mo rfl ?_
 refine .q (.i64 ((n : Nat) : Int) .sub ⟨by omega, by omega, by omega⟩) ?_
 refine .ag rfl<|.z ?_
 refine .alloc1 (fun b11 => ?_)
 refine .z<|.mo rfl<|.mo rfl ?_
 refine .q (.i64 ((q : Nat) : Int) .quo ⟨by rw [hq, Int.tdiv_eq_ediv_of_nonneg (by omega)]; omega, by omega, by omega⟩) ?_
 refine .q (.i64 ((q : Nat) : Int) .mul ⟨by omega, by omega, by omega⟩) ?_
 refine .q (.i64 ((a + q : Nat) : Int) .add ⟨by omega, by omega, by omega⟩) ?_
 refine .ag rfl<|.z<|.mo rfl<|.mo rfl ?_
 refine .q (.i64 ((q : Nat) : Int) .quo ⟨by rw [hq, Int.tdiv_eq_ediv_of_nonneg (by omega)]; omega, by omega, by omega⟩) ?_
 refine .q (.i64 ((q * 2 : Nat) : Int) .mul ⟨by omega, by omega, by omega⟩) ?_
 refine .q (.i64 ((a + q * 2 : Nat) : Int) .add ⟨by omega, by omega, by omega⟩) ?_
 refine .ag rfl<|.z<|.mo rfl<|.mo rfl ?_
 refine .q (.i64 ((q : Nat) : Int) .quo ⟨by rw [hq, Int.tdiv_eq_ediv_of_nonneg (by omega)]; omega, by omega, by omega⟩) ?_
 refine .q (.i64 ((q * 3 : Nat) : Int) .mul ⟨by omega, by omega, by omega⟩) ?_
 refine .q (.i64 ((a + q * 3 : Nat) : Int) .add ⟨by omega, by omega, by omega⟩) ?_
 refine .ag rfl<|.zs ?_
 refine Tri.cut (X := Nat × Int) (fun z => a ≤ z.1 ∧ z.1 < a + n) (fun z => [(11, .pointer (some ⟨b11, 0, none⟩)), (13, .int .i64 (z.1 : Nat))]) (fun z => [[(b11, .cells [.int .i64 z.2].toArray 3 (0, 0))]]) ?_ ?_
 refine .sr<|.mo rfl<|.q .geq<|.zn ?_
 refine .cond rfl (fun h1 => ?_) (fun h1 => ?_)
 have hn8 : 8 ≤ n := by have := of_decide_eq_true h1; omega
 refine .seq ?_
 refine Tri.cut (X := Nat × Nat × Nat × Int) (fun z => (a ≤ z.1 ∧ z.1 < a + n) ∧ (a ≤ z.2.1 ∧ z.2.1 < a + n) ∧ (a ≤ z.2.2.1 ∧ z.2.2.1 < a + n)) (fun z => [(0, v), (3, .func (.func f) #[] caps.toArray), (11, .pointer (some ⟨b11, 0, none⟩)), (12, .int .i64 (z.1 : Nat)), (13, .int .i64 (z.2.1 : Nat)), (14, .int .i64 (z.2.2.1 : Nat))]) (fun z => [[(b11, .cells [.int .i64 z.2.2.2].toArray 3 (0, 0))]]) ?_ ?_
 refine .sr<|.mo rfl<|.q .geq<|.zn ?_
 refine .cond rfl (fun h2 => ?_) (fun h2 => ?_)
 have hn50 : 50 ≤ n := by have := of_decide_eq_true h2; omega
 refine .sr<|.mo rfl<|.mo rfl<|.mo rfl ?_
 refine .callM (medianA_spec v xs (a + q) a (a + n) b11 0 _ h (by omega) hb hl hf hok) (fun u T1 hu => ?_)
 obtain ⟨s1, p1, rfl, rfl, hp1⟩ := hu
 refine .ag rfl<|.z<|.mo rfl<|.mo rfl<|.mo rfl ?_
 refine .callM (medianA_spec v xs (a + q * 2) a (a + n) b11 s1 _ h (by omega) hb hl hf hok) (fun u T1 hu => ?_)
 obtain ⟨s2, p2, rfl, rfl, hp2⟩ := hu
 refine .ag rfl<|.zn<|.region<|.mo rfl<|.mo rfl<|.mo rfl ?_
 refine .callM (medianA_spec v xs (a + q * 3) a (a + n) b11 s2 _ h (by omega) hb hl hf hok) (fun u T1 hu => ?_)
 obtain ⟨s3, p3, rfl, rfl, hp3⟩ := hu
 refine .ag rfl<|.nil ?_
 ·exact joinQ_n (p1, p2, p3, s3) ⟨hp1, hp2, hp3⟩ (EnvLe.k6 rfl rfl rfl rfl rfl rfl) (HLe.refl _)
 refine .skip ?_
 ·exact joinQ_n (a + q, a + q * 2, a + q * 3, 0) ⟨by simp only; omega, by simp only; omega, by simp only; omega⟩ (EnvLe.k6 rfl rfl rfl rfl rfl rfl) (HLe.refl _)
 intro y hy
 obtain ⟨i, j, k, s⟩ := y
 obtain ⟨hi, hj, hk⟩ := hy
 simp only at hi hj hk ⊢
 refine seqQ_n<|.region<|.mo rfl<|.mo rfl<|.mo rfl<|.mo rfl<|.mo rfl ?_
 refine .callM (median_spec v xs i j k a (a + n) b11 s _ h hi hj hk hb hf hok) (fun u T1 hu => ?_)
 obtain ⟨s4, p4, rfl, rfl, hp4⟩ := hu
 refine .ag rfl<|.nil ?_
 ·exact joinQ_n (p4, s4) hp4 (EnvLe.k2 rfl rfl) (HLe.refl _)
 refine .skip ?_
 ·exact joinQ_n (a + q * 2, 0) (by simp only; omega) (EnvLe.k2 rfl rfl) (HLe.refl _)
 intro y hy
 obtain ⟨p, s⟩ := y
 simp only at hy ⊢
 refine seqQ_n<|.sr<|.lo rfl<|.zn<|.block<|.sr<|.q .eqI<|.ag rfl<|.zn ?_
 refine .cond rfl (fun h3 => ?_) (fun h3 => ?_)
 refine .sr<|.mo rfl<|.ag rfl<|.ag rfl<|.zn ?_
 refine .ret (blkQ_r (retQ_r _ (.two (.tmp rfl) (.tmp rfl)) (.none _) ?_))
 ·exact ⟨⟨p, _, rfl, hy.1, hy.2⟩, rfl⟩
 refine .sr<|.q .eqI<|.ag rfl<|.zn ?_
 refine .cond rfl (fun h4 => ?_) (fun h4 => ?_)
 refine .sr<|.mo rfl<|.ag rfl<|.ag rfl<|.zn ?_
 refine .ret (blkQ_r (retQ_r _ (.two (.tmp rfl) (.tmp rfl)) (.none _) ?_))
 ·exact ⟨⟨p, _, rfl, hy.1, hy.2⟩, rfl⟩
 refine .sr<|.mo rfl<|.ag rfl<|.ag rfl<|.zn ?_
 refine .ret (blkQ_r (retQ_r _ (.two (.tmp rfl) (.tmp rfl)) (.none _) ?_))
 ·exact ⟨⟨p, _, rfl, hy.1, hy.2⟩, rfl⟩
end
end STK
namespace STK
section
variable {c : TP → TP → Int} {ok : TP → Prop} {f : FuncId} {caps : List Value} [e : Ent Tryz.prog f]
theorem partE_spec (v : Value) (xs : List TP) (T : Seg) (a b m : Nat) (p : TP) (R : Rds) (h : OS 48 9 encT v xs T) (hab : a < b) (hm : a ≤ m ∧ m < b) (hp : xs[m]? = some p) (hb : b ≤ xs.length) (hl : xs.length ≤ 1000000000) (hf : FnC Tryz.prog f caps R (fun p : TP => Value.agg (encT p).toArray) c ok) (hok : ∀ x ∈ xs, ok x) (so : SO (ltc c))
  (hlo : ∀ (k : Nat) (x : TP), a ≤ k → k < b → xs[k]? = some x → ltc c x p = false) :
  Spec Tryz.prog 175 [v, .int .i64 a, .int .i64 b, .int .i64 m, .func (.func f) #[] caps.toArray] R [T] fun u H' => ∃ T', H' = [T'] ∧ ∃ ys mid, u = .int .i64 (mid : Nat) ∧ OS 48 9 encT v ys T' ∧ RP a b xs ys ∧ PartE (ltc c) ys a mid b p := by
 have iv := h.oneCell
 obtain ⟨x0, hx0⟩ : ∃ x, xs[a]? = some x := ⟨_, List.getElem?_eq_getElem (by omega)⟩
 have okp := hok p (List.mem_of_getElem? hp)
 refine Spec.body Tryz.func175 rfl Tryz.results175 Tryz.ntmps175 rfl ?_
 refine .sr<|.ag rfl<|.zs<|.region_all [13, 15] mixed ?_
 refine .takeO 0 rfl .move (by kernel_rfl)<|.takeO 1 rfl .move (by kernel_rfl)<|.take 2 rfl .move (by kernel_rfl)<|.take 3 rfl .move (by kernel_rfl)<|.takeO 4 rfl .move (by kernel_rfl)<|.takeO 5 rfl .move (by kernel_rfl) ?_
 refine RA.indexO 6 rfl (m) h hp rfl rfl rfl (by kernel_rfl) (fun p19 => ?_)
 refine .takeO 7 rfl (.loadA rfl) (by kernel_rfl)<|.takeO 8 rfl .move (by kernel_rfl)<|.takeO 9 rfl .move (by kernel_rfl) ?_
 refine RA.indexO 10 rfl (a) h hx0 rfl rfl rfl (by kernel_rfl) (fun p23 => ?_)
 refine .takeO 11 rfl (.loadA rfl) (by kernel_rfl) ?_
 refine RA.indexO 12 rfl (a) h hx0 rfl rfl rfl (by kernel_rfl) (fun p25 => ?_)
 refine RA.step 13 rfl (by kernel_rfl) rfl ?_
 refine .storeO (a) h hx0 p (fun Tsa hsa => ?_) (h.one _ (List.mem_of_getElem? hp))
 refine .nil (Next.mod rfl ?_)
 refine RA.indexO 14 rfl (m) h hp rfl rfl rfl (by kernel_rfl) (fun p26 => ?_)
 refine RA.step 15 rfl (by kernel_rfl) rfl ?_
 obtain ⟨zz, hzz⟩ : ∃ u, (xs.set (a) p)[m]? = some u := ⟨_, List.getElem?_eq_getElem (by rw [List.length_set]; exact (List.getElem?_eq_some_iff.1 hp).1)⟩
 refine .storeO (m) hsa hzz x0 (fun Tsw hsw => ?_) (h.one _ (List.mem_of_getElem? hx0))
 rw [← swp_eq hx0 hp] at hsw
 refine .nil (Next.mod rfl ?_)
 refine RA.nil (by kernel_rfl) ?_
 have hR0 : RP a b xs (swp xs a m) := (RP.refl xs).step (by omega) (by omega) (by omega) (by omega) (by omega)
 have hat : (swp xs a m)[a]? = some p := by
  rw [swp_get (by omega) (by omega)]
  by_cases hk : a = m
  ·rw [if_pos hk, hx0, ← hp, ← hk, hx0]
  ·rw [if_neg hk, if_pos rfl, hp]
 refine seqQ_n<|.sr<|.mo rfl ?_
 refine .q (.i64 ((a + 1 : Nat) : Int) .add ⟨by omega, by omega, by omega⟩) ?_
 refine .mo rfl ?_
 refine .q (.i64 ((b - 1 : Nat) : Int) .sub ⟨by omega, by omega, by omega⟩) ?_
 refine .ag rfl<|.ag rfl<|.zs<|.block ?_
 refine .loop (X := Nat × Nat × List TP × Seg) (fun y => OS 48 9 encT v y.2.2.1 y.2.2.2 ∧ RP a b xs y.2.2.1 ∧ PQ (fun x => !ltc c p x) y.2.2.1 a y.1 y.2.1 b p) (fun y => [(0, v), (1, .int .i64 (a : Nat)), (4, .func (.func f) #[] caps.toArray), (11, .int .i64 (y.1 : Nat)), (12, .int .i64 (y.2.1 : Nat))]) (fun y => [y.2.2.2]) (fun y => y.2.1 + 1 - y.1) (a + 1, b - 1, swp xs a m, Tsw) ⟨hsw, hR0, .start hab hat⟩ (EnvLe.k5 rfl rfl rfl rfl rfl) (HLe.refl _) ?_
 rintro ⟨i, j, ys, T1⟩ ⟨hO1, hR1, hQ1⟩
 simp only at hO1 hR1 hQ1 ⊢
 have hlen := hR1.length
 have hi0 := hQ1.i0
 have hij := hQ1.ij
 have hjb := hQ1.jb
 have hpa := hQ1.at_
 refine .block<|.seq ?_
 refine Tri.cut (X := Nat) (fun i' => i ≤ i' ∧ PQ (fun x => !ltc c p x) ys a i' j b p ∧ ∀ x, i' ≤ j → ys[i']? = some x → (!ltc c p x) = false) (fun i' => [(0, v), (1, .int .i64 (a : Nat)), (4, .func (.func f) #[] caps.toArray), (11, .int .i64 (i' : Nat)), (12, .int .i64 (j : Nat))]) (fun _ => [T1]) ?_ ?_
 refine .block ?_
 refine .loop (X := Nat) (fun i' => i ≤ i' ∧ PQ (fun x => !ltc c p x) ys a i' j b p) (fun i' => [(0, v), (1, .int .i64 (a : Nat)), (4, .func (.func f) #[] caps.toArray), (11, .int .i64 (i' : Nat)), (12, .int .i64 (j : Nat))]) (fun _ => [T1]) (fun i' => j + 1 - i') i ⟨Nat.le_refl _, hQ1⟩ (EnvLe.k5 rfl rfl rfl rfl rfl) (HLe.refl _) ?_
 rintro i2 ⟨hi2, hQ2⟩
 refine .seq<|.seq ?_
 refine .region_tail 13 mixed (by kernel_rfl) ?_
 conv => arg 6; dsimp only [List.take]
 refine .mo rfl<|.mo rfl<|.q .leq<|.mo rfl ?_
 refine .split (t := 34) rfl (fun g3_3 => ?_) (fun g3_3 => ?_)
 have hle2 : i2 ≤ j := by have := of_decide_eq_true g3_3; omega
 obtain ⟨x2, hx2⟩ : ∃ x, ys[i2]? = some x := ⟨_, List.getElem?_eq_getElem (by omega)⟩
 have okx2 := hok x2 (hR1.perm.mem_iff.1 (List.mem_of_getElem? hx2))
 refine .gT g3_3<|.mo rfl<|.gT g3_3<|.mo rfl<|.gT g3_3<|.mo rfl<|.gT g3_3 ?_
 refine .indexO a hO1 hpa (fun p38 => ?_)
 refine .gT g3_3<|.q (.loadA rfl)<|.gT g3_3<|.mo rfl<|.gT g3_3<|.mo rfl<|.gT g3_3 ?_
 refine .indexO i2 hO1 hx2 (fun p42 => ?_)
 refine .gT g3_3<|.q (.loadA rfl)<|.nil<|.gT g3_3 ?_
 refine .callRV (first := []) (captured := caps) (vs := [(fun p : TP => Value.agg (encT p).toArray) p, (fun p : TP => Value.agg (encT p).toArray) x2]) (hf p x2 okp okx2 _ (fun b o hb => .inl hb)) (fun u hu => ?_)
 subst hu
 refine .gT g3_3<|.q .lss<|.gT g3_3<|.q .not<|.q (.pickTh g3_3) ?_
 refine .zn ?_
 refine .cond rfl (fun h1 => ?_) (fun h1 => ?_)
 refine .kn<|.block<|.region<|.mo rfl ?_
 refine .q (.i64 ((i2 + 1 : Nat) : Int) .add ⟨by omega, by omega, by omega⟩) ?_
 refine .ag rfl<|.nil<|blkQ_n ?_
 ·exact loopQ_i (i2 + 1) ⟨by omega, hQ2.inc hle2 hx2 h1⟩ (by omega) (EnvLe.k5 rfl rfl rfl rfl rfl) (HLe.refl _)
 refine .exit<|seqQ_x<|loopQ_x<|blkQ_x ?_
 exact joinQ_n i2 ⟨hi2, hQ2, fun x hx hxx => by rw [hx2] at hxx; cases hxx; exact h1⟩ (EnvLe.k5 rfl rfl rfl rfl rfl) (HLe.refl _)
 refine .gF g3_3<|.gF g3_3<|.gF g3_3<|.gF g3_3<|.gF g3_3<|.gF g3_3<|.gF g3_3<|.gF g3_3<|.gF g3_3<|.nil<|.gF g3_3<|.gF g3_3<|.gF g3_3<|.q (.pickFh g3_3) ?_
 refine .zn<|.condF<|.exit<|seqQ_x<|loopQ_x<|blkQ_x ?_
 exact joinQ_n i2 ⟨hi2, hQ2, fun x hx hxx => by have := of_decide_eq_false g3_3; omega⟩ (EnvLe.k5 rfl rfl rfl rfl rfl) (HLe.refl _)
 intro x hx
 obtain ⟨i3, hi3⟩ : ∃ i3, i3 = x := ⟨_, rfl⟩
 rw [← hi3] at hx ⊢
 clear hi3 x
 obtain ⟨hii3, hQ3, hst3⟩ := hx
 refine seqQ_n<|.seq ?_
 refine Tri.cut (X := Nat) (fun j' => j' ≤ j ∧ PQ (fun x => !ltc c p x) ys a i3 j' b p ∧ ∀ x, i3 ≤ j' → ys[j']? = some x → (!ltc c p x) = true) (fun j' => [(0, v), (1, .int .i64 (a : Nat)), (4, .func (.func f) #[] caps.toArray), (11, .int .i64 (i3 : Nat)), (12, .int .i64 (j' : Nat))]) (fun _ => [T1]) ?_ ?_
 refine .block ?_
 refine .loop (X := Nat) (fun j' => j' ≤ j ∧ PQ (fun x => !ltc c p x) ys a i3 j' b p) (fun j' => [(0, v), (1, .int .i64 (a : Nat)), (4, .func (.func f) #[] caps.toArray), (11, .int .i64 (i3 : Nat)), (12, .int .i64 (j' : Nat))]) (fun _ => [T1]) (fun j' => j') j ⟨Nat.le_refl _, hQ3⟩ (EnvLe.k5 rfl rfl rfl rfl rfl) (HLe.refl _) ?_
 rintro j2 ⟨hj2, hQ4⟩
 have hi30 := hQ3.i0
 refine .seq<|.seq ?_
 refine .region_tail 13 mixed (by kernel_rfl) ?_
 conv => arg 6; dsimp only [List.take]
 refine .mo rfl<|.mo rfl<|.q .leq<|.mo rfl ?_
 refine .split (t := 53) rfl (fun g5_3 => ?_) (fun g5_3 => ?_)
 have hle4 : i3 ≤ j2 := by have := of_decide_eq_true g5_3; omega
 obtain ⟨x4, hx4⟩ : ∃ x, ys[j2]? = some x := ⟨_, List.getElem?_eq_getElem (by omega)⟩
 have okx4 := hok x4 (hR1.perm.mem_iff.1 (List.mem_of_getElem? hx4))
 refine .gT g5_3<|.mo rfl<|.gT g5_3<|.mo rfl<|.gT g5_3<|.mo rfl<|.gT g5_3 ?_
 refine .indexO a hO1 hpa (fun p57 => ?_)
 refine .gT g5_3<|.q (.loadA rfl)<|.gT g5_3<|.mo rfl<|.gT g5_3<|.mo rfl<|.gT g5_3 ?_
 refine .indexO j2 hO1 hx4 (fun p61 => ?_)
 refine .gT g5_3<|.q (.loadA rfl)<|.nil<|.gT g5_3 ?_
 refine .callRV (first := []) (captured := caps) (vs := [(fun p : TP => Value.agg (encT p).toArray) p, (fun p : TP => Value.agg (encT p).toArray) x4]) (hf p x4 okp okx4 _ (fun b o hb => .inl hb)) (fun u hu => ?_)
 subst hu
 refine .gT g5_3<|.q .lss<|.q (.pickTh g5_3) ?_
 refine .zn ?_
 refine .cond rfl (fun h2 => ?_) (fun h2 => ?_)
 refine .kn<|.block<|.region<|.mo rfl ?_
 refine .q (.i64 ((j2 - 1 : Nat) : Int) .sub ⟨by omega, by omega, by omega⟩) ?_
 refine .ag rfl<|.nil<|blkQ_n ?_
 ·have hlt4 : ltc c p x4 = true := h2
  exact loopQ_i (j2 - 1) ⟨by omega, hQ4.dec hle4 hx4 (by rw [hlt4]; rfl)⟩ (by omega) (EnvLe.k5 rfl rfl rfl rfl rfl) (HLe.refl _)
 refine .exit<|seqQ_x<|loopQ_x<|blkQ_x ?_
 exact joinQ_n j2 ⟨hj2, hQ4, fun x hx hxx => by have hh : ltc c p x4 = false := h2; rw [hx4] at hxx; cases hxx; rw [hh]; rfl⟩ (EnvLe.k5 rfl rfl rfl rfl rfl) (HLe.refl _)
 refine .gF g5_3<|.gF g5_3<|.gF g5_3<|.gF g5_3<|.gF g5_3<|.gF g5_3<|.gF g5_3<|.gF g5_3<|.gF g5_3<|.nil<|.gF g5_3<|.gF g5_3<|.q (.pickFh g5_3) ?_
 refine .zn<|.condF<|.exit<|seqQ_x<|loopQ_x<|blkQ_x ?_
 exact joinQ_n j2 ⟨hj2, hQ4, fun x hx hxx => by have := of_decide_eq_false g5_3; omega⟩ (EnvLe.k5 rfl rfl rfl rfl rfl) (HLe.refl _)
 intro x hx
 obtain ⟨j3, hj3⟩ : ∃ j3, j3 = x := ⟨_, rfl⟩
 rw [← hj3] at hx ⊢
 clear hj3 x
 obtain ⟨hjj3, hQ5, hst5⟩ := hx
 have hi30 := hQ5.i0
 have hij5 := hQ5.ij
 refine seqQ_n<|.seq<|.sr<|.mo rfl<|.mo rfl<|.q .gtr<|.zn ?_
 refine .cond rfl (fun h3 => ?_) (fun h3 => ?_)
 refine .exit (seqQ_x (blkQ_y (loopQ_x (blkQ_x ?_))))
 refine seqQ_n<|.sr<|.mo rfl<|.ag rfl<|.zn ?_
 refine .ret (retQ_r _ (.one (.tmp rfl)) (HLe.refl _) ?_)
 ·have hgt5 : j3 < i3 := by have := of_decide_eq_true h3; omega
  exact ⟨_, rfl, ys, i3, rfl, hO1, hR1, hQ5.finE so hgt5 (hR1.all (p := fun x => ltc c x p = false) hlo)⟩
 have hle5 : i3 ≤ j3 := by have := of_decide_eq_false h3; omega
 obtain ⟨x, hx⟩ : ∃ x, ys[i3]? = some x := ⟨_, List.getElem?_eq_getElem (by omega)⟩
 obtain ⟨y, hy⟩ : ∃ x, ys[j3]? = some x := ⟨_, List.getElem?_eq_getElem (by omega)⟩
 have hq6 := hQ5.sw hle5 (by omega) hx hy (hst3 x (by omega) hx) (hst5 y hle5 hy)
 refine .kn<|.seq<|.region_all [13, 15] mixed ?_
 refine .takeO 0 rfl .move (by kernel_rfl)<|.takeO 1 rfl .move (by kernel_rfl)<|.take 2 rfl .move (by kernel_rfl)<|.take 3 rfl .move (by kernel_rfl)<|.takeO 4 rfl .move (by kernel_rfl)<|.takeO 5 rfl .move (by kernel_rfl) ?_
 refine RA.indexO 6 rfl (j3) hO1 hy rfl rfl rfl (by kernel_rfl) (fun p77 => ?_)
 refine .takeO 7 rfl (.loadA rfl) (by kernel_rfl)<|.takeO 8 rfl .move (by kernel_rfl)<|.takeO 9 rfl .move (by kernel_rfl) ?_
 refine RA.indexO 10 rfl (i3) hO1 hx rfl rfl rfl (by kernel_rfl) (fun p81 => ?_)
 refine .takeO 11 rfl (.loadA rfl) (by kernel_rfl) ?_
 refine RA.indexO 12 rfl (i3) hO1 hx rfl rfl rfl (by kernel_rfl) (fun p83 => ?_)
 refine RA.step 13 rfl (by kernel_rfl) rfl ?_
 refine .storeO (i3) hO1 hx y (fun Tsa hsa => ?_) (hO1.one _ (List.mem_of_getElem? hy))
 refine .nil (Next.mod rfl ?_)
 refine RA.indexO 14 rfl (j3) hO1 hy rfl rfl rfl (by kernel_rfl) (fun p84 => ?_)
 refine RA.step 15 rfl (by kernel_rfl) rfl ?_
 obtain ⟨zz, hzz⟩ : ∃ u, (ys.set (i3) y)[j3]? = some u := ⟨_, List.getElem?_eq_getElem (by rw [List.length_set]; exact (List.getElem?_eq_some_iff.1 hy).1)⟩
 refine .storeO (j3) hsa hzz x (fun Tsw hsw => ?_) (hO1.one _ (List.mem_of_getElem? hx))
 rw [← swp_eq hx hy] at hsw
 refine .nil (Next.mod rfl ?_)
 refine RA.nil (by kernel_rfl) ?_
 refine seqQ_n<|.sr<|.mo rfl ?_
 refine .q (.i64 ((i3 + 1 : Nat) : Int) .add ⟨by omega, by omega, by omega⟩) ?_
 refine .ag rfl<|.zn<|.region<|.mo rfl ?_
 refine .q (.i64 ((j3 - 1 : Nat) : Int) .sub ⟨by omega, by omega, by omega⟩) ?_
 refine .ag rfl<|.nil<|blkQ_n ?_
 ·exact loopQ_i (i3 + 1, j3 - 1, swp ys i3 j3, Tsw) ⟨hsw, hR1.step (by omega) (by omega) (by omega) (by omega) (by omega), hq6.2⟩ (by simp only; omega) (EnvLe.k5 rfl rfl rfl rfl rfl) (HLe.refl _)
theorem parti_spec (v : Value) (xs : List TP) (T : Seg) (a b m : Nat) (p : TP) (R : Rds) (h : OS 48 9 encT v xs T) (hab : a < b) (hm : a ≤ m ∧ m < b) (hp : xs[m]? = some p) (hb : b ≤ xs.length) (hl : xs.length ≤ 1000000000) (hf : FnC Tryz.prog f caps R (fun p : TP => Value.agg (encT p).toArray) c ok) (hok : ∀ x ∈ xs, ok x) (so : SO (ltc c)) :
  Spec Tryz.prog 176 [v, .int .i64 a, .int .i64 b, .int .i64 m, .func (.func f) #[] caps.toArray] R [T] fun u H' => ∃ T', H' = [T'] ∧ ∃ ys mid z, u = .tuple [.int .i64 (mid : Nat), .bool z].toArray ∧ OS 48 9 encT v ys T' ∧ RP a b xs ys ∧ Part (ltc c) ys a mid b p := by
 have iv := h.oneCell
 obtain ⟨x0, hx0⟩ : ∃ x, xs[a]? = some x := ⟨_, List.getElem?_eq_getElem (by omega)⟩
 have okp := hok p (List.mem_of_getElem? hp)
 refine Spec.body Tryz.func176 rfl Tryz.results176 Tryz.ntmps176 rfl ?_
 refine .sr<|.ag rfl<|.ag rfl<|.zs<|.region_all [13, 15] mixed ?_
 refine .takeO 0 rfl .move (by kernel_rfl)<|.takeO 1 rfl .move (by kernel_rfl)<|.take 2 rfl .move (by kernel_rfl)<|.take 3 rfl .move (by kernel_rfl)<|.takeO 4 rfl .move (by kernel_rfl)<|.takeO 5 rfl .move (by kernel_rfl) ?_
 refine RA.indexO 6 rfl (m) h hp rfl rfl rfl (by kernel_rfl) (fun p20 => ?_)
 refine .takeO 7 rfl (.loadA rfl) (by kernel_rfl)<|.takeO 8 rfl .move (by kernel_rfl)<|.takeO 9 rfl .move (by kernel_rfl) ?_
 refine RA.indexO 10 rfl (a) h hx0 rfl rfl rfl (by kernel_rfl) (fun p24 => ?_)
 refine .takeO 11 rfl (.loadA rfl) (by kernel_rfl) ?_
 refine RA.indexO 12 rfl (a) h hx0 rfl rfl rfl (by kernel_rfl) (fun p26 => ?_)
 refine RA.step 13 rfl (by kernel_rfl) rfl ?_
 refine .storeO (a) h hx0 p (fun Tsa hsa => ?_) (h.one _ (List.mem_of_getElem? hp))
 refine .nil (Next.mod rfl ?_)
 refine RA.indexO 14 rfl (m) h hp rfl rfl rfl (by kernel_rfl) (fun p27 => ?_)
 refine RA.step 15 rfl (by kernel_rfl) rfl ?_
 obtain ⟨zz, hzz⟩ : ∃ u, (xs.set (a) p)[m]? = some u := ⟨_, List.getElem?_eq_getElem (by rw [List.length_set]; exact (List.getElem?_eq_some_iff.1 hp).1)⟩
 refine .storeO (m) hsa hzz x0 (fun Tsw hsw => ?_) (h.one _ (List.mem_of_getElem? hx0))
 rw [← swp_eq hx0 hp] at hsw
 refine .nil (Next.mod rfl ?_)
 refine RA.nil (by kernel_rfl) ?_
 have hR0 : RP a b xs (swp xs a m) := (RP.refl xs).step (by omega) (by omega) (by omega) (by omega) (by omega)
 have hat : (swp xs a m)[a]? = some p := by
  rw [swp_get (by omega) (by omega)]
  by_cases hk : a = m
  ·rw [if_pos hk, hx0, ← hp, ← hk, hx0]
  ·rw [if_neg hk, if_pos rfl, hp]
 obtain ⟨ws, hws⟩ : ∃ ws, ws = swp xs a m := ⟨_, rfl⟩
 rw [← hws] at hsw hR0 hat
 obtain ⟨T0, hT0⟩ : ∃ T0, T0 = Tsw := ⟨_, rfl⟩
 rw [← hT0] at hsw ⊢
 have hlen0 := hR0.length
 have hO0 := hsw
 clear hsw
 have hQ0 : PQ (fun x => ltc c x p) ws a (a + 1) (b - 1) b p := .start hab hat
 clear hws
 refine seqQ_n<|.sr<|.mo rfl ?_
 refine .q (.i64 ((a + 1 : Nat) : Int) .add ⟨by omega, by omega, by omega⟩) ?_
 refine .mo rfl ?_
 refine .q (.i64 ((b - 1 : Nat) : Int) .sub ⟨by omega, by omega, by omega⟩) ?_
 refine .ag rfl<|.ag rfl<|.zs ?_
 refine Tri.cut (X := Nat) (fun i' => PQ (fun x => ltc c x p) ws a i' (b - 1) b p ∧ ∀ x, i' ≤ b - 1 → ws[i']? = some x → ltc c x p = false) (fun i' => [(0, v), (1, .int .i64 (a : Nat)), (4, .func (.func f) #[] caps.toArray), (12, .int .i64 (i' : Nat)), (13, .int .i64 ((b - 1 : Nat) : Int))]) (fun _ => [T0]) ?_ ?_
 refine .block ?_
 refine .loop (X := Nat) (fun i' => PQ (fun x => ltc c x p) ws a i' (b - 1) b p) (fun i' => [(0, v), (1, .int .i64 (a : Nat)), (4, .func (.func f) #[] caps.toArray), (12, .int .i64 (i' : Nat)), (13, .int .i64 ((b - 1 : Nat) : Int))]) (fun _ => [T0]) (fun i' => b - i') (a + 1) hQ0 (EnvLe.k5 rfl rfl rfl rfl rfl) (HLe.refl _) ?_
 rintro i2 hQ2
 refine .seq<|.seq ?_
 refine .region_tail 13 mixed (by kernel_rfl) ?_
 conv => arg 6; dsimp only [List.take]
 refine .mo rfl<|.mo rfl<|.q .leq<|.mo rfl ?_
 refine .split (t := 35) rfl (fun g3_3 => ?_) (fun g3_3 => ?_)
 have hle2 : i2 ≤ b - 1 := by have := of_decide_eq_true g3_3; omega
 obtain ⟨x2, hx2⟩ : ∃ x, ws[i2]? = some x := ⟨_, List.getElem?_eq_getElem (by omega)⟩
 have okx2 := hok x2 (hR0.perm.mem_iff.1 (List.mem_of_getElem? hx2))
 refine .gT g3_3<|.mo rfl<|.gT g3_3<|.mo rfl<|.gT g3_3<|.mo rfl<|.gT g3_3 ?_
 refine .indexO i2 hO0 hx2 (fun p39 => ?_)
 refine .gT g3_3<|.q (.loadA rfl)<|.gT g3_3<|.mo rfl<|.gT g3_3<|.mo rfl<|.gT g3_3 ?_
 refine .indexO a hO0 hat (fun p43 => ?_)
 refine .gT g3_3<|.q (.loadA rfl)<|.nil<|.gT g3_3 ?_
 refine .callRV (first := []) (captured := caps) (vs := [(fun p : TP => Value.agg (encT p).toArray) x2, (fun p : TP => Value.agg (encT p).toArray) p]) (hf x2 p okx2 okp _ (fun b o hb => .inl hb)) (fun u hu => ?_)
 subst hu
 refine .gT g3_3<|.q .lss<|.q (.pickTh g3_3) ?_
 refine .zn ?_
 refine .cond rfl (fun h1 => ?_) (fun h1 => ?_)
 refine .kn<|.block<|.region<|.mo rfl ?_
 refine .q (.i64 ((i2 + 1 : Nat) : Int) .add ⟨by omega, by omega, by omega⟩) ?_
 refine .ag rfl<|.nil<|blkQ_n ?_
 ·exact loopQ_i (i2 + 1) (hQ2.inc hle2 hx2 h1) (by omega) (EnvLe.k5 rfl rfl rfl rfl rfl) (HLe.refl _)
 refine .exit<|seqQ_x<|loopQ_x<|blkQ_x ?_
 exact joinQ_n i2 ⟨hQ2, fun x hx hxx => by rw [hx2] at hxx; cases hxx; exact h1⟩ (EnvLe.k5 rfl rfl rfl rfl rfl) (HLe.refl _)
 refine .gF g3_3<|.gF g3_3<|.gF g3_3<|.gF g3_3<|.gF g3_3<|.gF g3_3<|.gF g3_3<|.gF g3_3<|.gF g3_3<|.nil<|.gF g3_3<|.gF g3_3<|.q (.pickFh g3_3) ?_
 refine .zn<|.condF<|.exit<|seqQ_x<|loopQ_x<|blkQ_x ?_
 exact joinQ_n i2 ⟨hQ2, fun x hx hxx => by have := of_decide_eq_false g3_3; omega⟩ (EnvLe.k5 rfl rfl rfl rfl rfl) (HLe.refl _)
 intro x hx
 obtain ⟨i3, hi3⟩ : ∃ i3, i3 = x := ⟨_, rfl⟩
 rw [← hi3] at hx ⊢
 clear hi3 x
 obtain ⟨hQ3, hst3⟩ := hx
 refine seqQ_n<|.seq ?_
 refine Tri.cut (X := Nat) (fun j' => j' ≤ b - 1 ∧ PQ (fun x => ltc c x p) ws a i3 j' b p ∧ ∀ x, i3 ≤ j' → ws[j']? = some x → ltc c x p = true) (fun j' => [(0, v), (1, .int .i64 (a : Nat)), (4, .func (.func f) #[] caps.toArray), (12, .int .i64 (i3 : Nat)), (13, .int .i64 (j' : Nat))]) (fun _ => [T0]) ?_ ?_
 refine .block ?_
 refine .loop (X := Nat) (fun j' => j' ≤ b - 1 ∧ PQ (fun x => ltc c x p) ws a i3 j' b p) (fun j' => [(0, v), (1, .int .i64 (a : Nat)), (4, .func (.func f) #[] caps.toArray), (12, .int .i64 (i3 : Nat)), (13, .int .i64 (j' : Nat))]) (fun _ => [T0]) (fun j' => j') (b - 1) ⟨Nat.le_refl _, hQ3⟩ (EnvLe.k5 rfl rfl rfl rfl rfl) (HLe.refl _) ?_
 rintro j2 ⟨hj2, hQ4⟩
 have hi30 := hQ3.i0
 refine .seq<|.seq ?_
 refine .region_tail 13 mixed (by kernel_rfl) ?_
 conv => arg 6; dsimp only [List.take]
 refine .mo rfl<|.mo rfl<|.q .leq<|.mo rfl ?_
 refine .split (t := 53) rfl (fun g5_3 => ?_) (fun g5_3 => ?_)
 have hle4 : i3 ≤ j2 := by have := of_decide_eq_true g5_3; omega
 obtain ⟨x4, hx4⟩ : ∃ x, ws[j2]? = some x := ⟨_, List.getElem?_eq_getElem (by omega)⟩
 have okx4 := hok x4 (hR0.perm.mem_iff.1 (List.mem_of_getElem? hx4))
 refine .gT g5_3<|.mo rfl<|.gT g5_3<|.mo rfl<|.gT g5_3<|.mo rfl<|.gT g5_3 ?_
 refine .indexO j2 hO0 hx4 (fun p57 => ?_)
 refine .gT g5_3<|.q (.loadA rfl)<|.gT g5_3<|.mo rfl<|.gT g5_3<|.mo rfl<|.gT g5_3 ?_
 refine .indexO a hO0 hat (fun p61 => ?_)
 refine .gT g5_3<|.q (.loadA rfl)<|.nil<|.gT g5_3 ?_
 refine .callRV (first := []) (captured := caps) (vs := [(fun p : TP => Value.agg (encT p).toArray) x4, (fun p : TP => Value.agg (encT p).toArray) p]) (hf x4 p okx4 okp _ (fun b o hb => .inl hb)) (fun u hu => ?_)
 subst hu
 refine .gT g5_3<|.q .lss<|.gT g5_3<|.q .not<|.q (.pickTh g5_3) ?_
 refine .zn ?_
 refine .cond rfl (fun h2 => ?_) (fun h2 => ?_)
 refine .kn<|.block<|.region<|.mo rfl ?_
 refine .q (.i64 ((j2 - 1 : Nat) : Int) .sub ⟨by omega, by omega, by omega⟩) ?_
 refine .ag rfl<|.nil<|blkQ_n ?_
 ·have hlt4 : ltc c x4 p = false := by
   have h2' : (!ltc c x4 p) = true := h2
   simpa using h2'
  exact loopQ_i (j2 - 1) ⟨by omega, hQ4.dec hle4 hx4 hlt4⟩ (by omega) (EnvLe.k5 rfl rfl rfl rfl rfl) (HLe.refl _)
 refine .exit<|seqQ_x<|loopQ_x<|blkQ_x ?_
 exact joinQ_n j2 ⟨hj2, hQ4, fun x hx hxx => by
  have hh : (!ltc c x4 p) = false := h2
  rw [hx4] at hxx; cases hxx
  simpa using hh⟩ (EnvLe.k5 rfl rfl rfl rfl rfl) (HLe.refl _)
 refine .gF g5_3<|.gF g5_3<|.gF g5_3<|.gF g5_3<|.gF g5_3<|.gF g5_3<|.gF g5_3<|.gF g5_3<|.gF g5_3<|.nil<|.gF g5_3<|.gF g5_3<|.gF g5_3<|.q (.pickFh g5_3) ?_
 refine .zn<|.condF<|.exit<|seqQ_x<|loopQ_x<|blkQ_x ?_
 exact joinQ_n j2 ⟨hj2, hQ4, fun x hx hxx => by have := of_decide_eq_false g5_3; omega⟩ (EnvLe.k5 rfl rfl rfl rfl rfl) (HLe.refl _)
 intro x hx
 obtain ⟨j3, hj3⟩ : ∃ j3, j3 = x := ⟨_, rfl⟩
 rw [← hj3] at hx ⊢
 clear hj3 x
 obtain ⟨hjj3, hQ5, hst5⟩ := hx
 have hi30 := hQ5.i0
 have hij5 := hQ5.ij
 refine seqQ_n<|.seq<|.sr<|.mo rfl<|.mo rfl<|.q .gtr<|.zn ?_
 refine .cond rfl (fun h3 => ?_) (fun h3 => ?_)
 have hgt5 : j3 < i3 := by have := of_decide_eq_true h3; omega
 obtain ⟨y, hy⟩ : ∃ x, ws[j3]? = some x := ⟨_, List.getElem?_eq_getElem (by omega)⟩
 refine .seq<|.region_all [13, 15] mixed ?_
 refine .takeO 0 rfl .move (by kernel_rfl)<|.takeO 1 rfl .move (by kernel_rfl)<|.take 2 rfl .move (by kernel_rfl)<|.take 3 rfl .move (by kernel_rfl)<|.takeO 4 rfl .move (by kernel_rfl)<|.takeO 5 rfl .move (by kernel_rfl) ?_
 refine RA.indexO 6 rfl (a) hO0 hat rfl rfl rfl (by kernel_rfl) (fun p78 => ?_)
 refine .takeO 7 rfl (.loadA rfl) (by kernel_rfl)<|.takeO 8 rfl .move (by kernel_rfl)<|.takeO 9 rfl .move (by kernel_rfl) ?_
 refine RA.indexO 10 rfl (j3) hO0 hy rfl rfl rfl (by kernel_rfl) (fun p82 => ?_)
 refine .takeO 11 rfl (.loadA rfl) (by kernel_rfl) ?_
 refine RA.indexO 12 rfl (j3) hO0 hy rfl rfl rfl (by kernel_rfl) (fun p84 => ?_)
 refine RA.step 13 rfl (by kernel_rfl) rfl ?_
 refine .storeO (j3) hO0 hy p (fun Tsa hsa => ?_) (hO0.one _ (List.mem_of_getElem? hat))
 refine .nil (Next.mod rfl ?_)
 refine RA.indexO 14 rfl (a) hO0 hat rfl rfl rfl (by kernel_rfl) (fun p85 => ?_)
 refine RA.step 15 rfl (by kernel_rfl) rfl ?_
 obtain ⟨zz, hzz⟩ : ∃ u, (ws.set (j3) p)[a]? = some u := ⟨_, List.getElem?_eq_getElem (by rw [List.length_set]; exact (List.getElem?_eq_some_iff.1 hat).1)⟩
 refine .storeO (a) hsa hzz y (fun Tsw hsw => ?_) (hO0.one _ (List.mem_of_getElem? hy))
 rw [← swp_eq hy hat] at hsw
 refine .nil (Next.mod rfl ?_)
 refine RA.nil (by kernel_rfl) ?_
 refine seqQ_n<|.sr<|.mo rfl<|.ag rfl<|.ag rfl<|.zn ?_
 refine .ret (seqQ_r (retQ_r _ (.two (.tmp rfl) (.tmp rfl)) (HLe.refl _) ?_))
 ·exact ⟨_, rfl, swp ws j3 a, j3, true, rfl, hsw, hR0.step (by omega) (by omega) (by omega) (by omega) (by omega), hQ5.fin hgt5 (by omega)⟩
 have hle5 : i3 ≤ j3 := by have := of_decide_eq_false h3; omega
 obtain ⟨x, hx⟩ : ∃ x, ws[i3]? = some x := ⟨_, List.getElem?_eq_getElem (by omega)⟩
 obtain ⟨y, hy⟩ : ∃ x, ws[j3]? = some x := ⟨_, List.getElem?_eq_getElem (by omega)⟩
 have hq6 := hQ5.sw hle5 (by omega) hx hy (hst3 x (by omega) hx) (hst5 y hle5 hy)
 refine .kn<|.seq<|.region_all [13, 15] mixed ?_
 refine .takeO 0 rfl .move (by kernel_rfl)<|.takeO 1 rfl .move (by kernel_rfl)<|.take 2 rfl .move (by kernel_rfl)<|.take 3 rfl .move (by kernel_rfl)<|.takeO 4 rfl .move (by kernel_rfl)<|.takeO 5 rfl .move (by kernel_rfl) ?_
 refine RA.indexO 6 rfl (j3) hO0 hy rfl rfl rfl (by kernel_rfl) (fun p93 => ?_)
 refine .takeO 7 rfl (.loadA rfl) (by kernel_rfl)<|.takeO 8 rfl .move (by kernel_rfl)<|.takeO 9 rfl .move (by kernel_rfl) ?_
 refine RA.indexO 10 rfl (i3) hO0 hx rfl rfl rfl (by kernel_rfl) (fun p97 => ?_)
 refine .takeO 11 rfl (.loadA rfl) (by kernel_rfl) ?_
 refine RA.indexO 12 rfl (i3) hO0 hx rfl rfl rfl (by kernel_rfl) (fun p99 => ?_)
 refine RA.step 13 rfl (by kernel_rfl) rfl ?_
 refine .storeO (i3) hO0 hx y (fun Tsa hsa => ?_) (hO0.one _ (List.mem_of_getElem? hy))
 refine .nil (Next.mod rfl ?_)
 refine RA.indexO 14 rfl (j3) hO0 hy rfl rfl rfl (by kernel_rfl) (fun p100 => ?_)
 refine RA.step 15 rfl (by kernel_rfl) rfl ?_
 obtain ⟨zz, hzz⟩ : ∃ u, (ws.set (i3) y)[j3]? = some u := ⟨_, List.getElem?_eq_getElem (by rw [List.length_set]; exact (List.getElem?_eq_some_iff.1 hy).1)⟩
 refine .storeO (j3) hsa hzz x (fun Tsw hsw => ?_) (hO0.one _ (List.mem_of_getElem? hx))
 rw [← swp_eq hx hy] at hsw
 refine .nil (Next.mod rfl ?_)
 refine RA.nil (by kernel_rfl) ?_
 refine seqQ_n<|.sr<|.mo rfl ?_
 refine .q (.i64 ((i3 + 1 : Nat) : Int) .add ⟨by omega, by omega, by omega⟩) ?_
 refine .ag rfl<|.z<|.mo rfl ?_
 refine .q (.i64 ((j3 - 1 : Nat) : Int) .sub ⟨by omega, by omega, by omega⟩) ?_
 refine .ag rfl<|.zs ?_
 refine Tri.cut (X := Nat × Nat × List TP × Seg) (fun y => OS 48 9 encT v y.2.2.1 y.2.2.2 ∧ RP a b xs y.2.2.1 ∧ PQ (fun x => ltc c x p) y.2.2.1 a y.1 y.2.1 b p ∧ y.2.1 < y.1) (fun y => [(0, v), (1, .int .i64 (a : Nat)), (4, .func (.func f) #[] caps.toArray), (12, .int .i64 (y.1 : Nat)), (13, .int .i64 (y.2.1 : Nat))]) (fun y => [y.2.2.2]) ?_ ?_
 refine .block ?_
 refine .loop (X := Nat × Nat × List TP × Seg) (fun y => OS 48 9 encT v y.2.2.1 y.2.2.2 ∧ RP a b xs y.2.2.1 ∧ PQ (fun x => ltc c x p) y.2.2.1 a y.1 y.2.1 b p) (fun y => [(0, v), (1, .int .i64 (a : Nat)), (4, .func (.func f) #[] caps.toArray), (12, .int .i64 (y.1 : Nat)), (13, .int .i64 (y.2.1 : Nat))]) (fun y => [y.2.2.2]) (fun y => y.2.1 + 1 - y.1) (i3 + 1, j3 - 1, swp ws i3 j3, Tsw) ⟨hsw, hR0.step (by omega) (by omega) (by omega) (by omega) (by omega), hq6.2⟩ (EnvLe.k5 rfl rfl rfl rfl rfl) (HLe.refl _) ?_
 rintro ⟨i, j, ys, T1⟩ ⟨hO1, hR1, hQ1⟩
 simp only at hO1 hR1 hQ1 ⊢
 have hlen := hR1.length
 have hi0 := hQ1.i0
 have hij := hQ1.ij
 have hjb := hQ1.jb
 have hpa := hQ1.at_
 refine .block<|.seq ?_
 refine Tri.cut (X := Nat) (fun i' => i ≤ i' ∧ PQ (fun x => ltc c x p) ys a i' j b p ∧ ∀ x, i' ≤ j → ys[i']? = some x → ltc c x p = false) (fun i' => [(0, v), (1, .int .i64 (a : Nat)), (4, .func (.func f) #[] caps.toArray), (12, .int .i64 (i' : Nat)), (13, .int .i64 (j : Nat))]) (fun _ => [T1]) ?_ ?_
 refine .block ?_
 refine .loop (X := Nat) (fun i' => i ≤ i' ∧ PQ (fun x => ltc c x p) ys a i' j b p) (fun i' => [(0, v), (1, .int .i64 (a : Nat)), (4, .func (.func f) #[] caps.toArray), (12, .int .i64 (i' : Nat)), (13, .int .i64 (j : Nat))]) (fun _ => [T1]) (fun i' => j + 1 - i') i ⟨Nat.le_refl _, hQ1⟩ (EnvLe.k5 rfl rfl rfl rfl rfl) (HLe.refl _) ?_
 rintro k2 ⟨hk2, hW2⟩
 refine .seq<|.seq ?_
 refine .region_tail 13 mixed (by kernel_rfl) ?_
 conv => arg 6; dsimp only [List.take]
 refine .mo rfl<|.mo rfl<|.q .leq<|.mo rfl ?_
 refine .split (t := 108) rfl (fun g13_3 => ?_) (fun g13_3 => ?_)
 have hle6 : k2 ≤ j := by have := of_decide_eq_true g13_3; omega
 obtain ⟨x6, hx6⟩ : ∃ x, ys[k2]? = some x := ⟨_, List.getElem?_eq_getElem (by omega)⟩
 have okx6 := hok x6 (hR1.perm.mem_iff.1 (List.mem_of_getElem? hx6))
 refine .gT g13_3<|.mo rfl<|.gT g13_3<|.mo rfl<|.gT g13_3<|.mo rfl<|.gT g13_3 ?_
 refine .indexO k2 hO1 hx6 (fun p112 => ?_)
 refine .gT g13_3<|.q (.loadA rfl)<|.gT g13_3<|.mo rfl<|.gT g13_3<|.mo rfl<|.gT g13_3 ?_
 refine .indexO a hO1 hpa (fun p116 => ?_)
 refine .gT g13_3<|.q (.loadA rfl)<|.nil<|.gT g13_3 ?_
 refine .callRV (first := []) (captured := caps) (vs := [(fun p : TP => Value.agg (encT p).toArray) x6, (fun p : TP => Value.agg (encT p).toArray) p]) (hf x6 p okx6 okp _ (fun b o hb => .inl hb)) (fun u hu => ?_)
 subst hu
 refine .gT g13_3<|.q .lss<|.q (.pickTh g13_3) ?_
 refine .zn ?_
 refine .cond rfl (fun h4 => ?_) (fun h4 => ?_)
 refine .kn<|.block<|.region<|.mo rfl ?_
 refine .q (.i64 ((k2 + 1 : Nat) : Int) .add ⟨by omega, by omega, by omega⟩) ?_
 refine .ag rfl<|.nil<|blkQ_n ?_
 ·exact loopQ_i (k2 + 1) ⟨by omega, hW2.inc hle6 hx6 h4⟩ (by omega) (EnvLe.k5 rfl rfl rfl rfl rfl) (HLe.refl _)
 refine .exit<|seqQ_x<|loopQ_x<|blkQ_x ?_
 exact joinQ_n k2 ⟨hk2, hW2, fun x hx hxx => by rw [hx6] at hxx; cases hxx; exact h4⟩ (EnvLe.k5 rfl rfl rfl rfl rfl) (HLe.refl _)
 refine .gF g13_3<|.gF g13_3<|.gF g13_3<|.gF g13_3<|.gF g13_3<|.gF g13_3<|.gF g13_3<|.gF g13_3<|.gF g13_3<|.nil<|.gF g13_3<|.gF g13_3<|.q (.pickFh g13_3) ?_
 refine .zn<|.condF<|.exit<|seqQ_x<|loopQ_x<|blkQ_x ?_
 exact joinQ_n k2 ⟨hk2, hW2, fun x hx hxx => by have := of_decide_eq_false g13_3; omega⟩ (EnvLe.k5 rfl rfl rfl rfl rfl) (HLe.refl _)
 intro x hx
 obtain ⟨k3, hk3⟩ : ∃ k3, k3 = x := ⟨_, rfl⟩
 rw [← hk3] at hx ⊢
 clear hk3 x
 obtain ⟨hik3, hW3, hst6⟩ := hx
 refine seqQ_n<|.seq ?_
 refine Tri.cut (X := Nat) (fun j' => j' ≤ j ∧ PQ (fun x => ltc c x p) ys a k3 j' b p ∧ ∀ x, k3 ≤ j' → ys[j']? = some x → ltc c x p = true) (fun j' => [(0, v), (1, .int .i64 (a : Nat)), (4, .func (.func f) #[] caps.toArray), (12, .int .i64 (k3 : Nat)), (13, .int .i64 (j' : Nat))]) (fun _ => [T1]) ?_ ?_
 refine .block ?_
 refine .loop (X := Nat) (fun j' => j' ≤ j ∧ PQ (fun x => ltc c x p) ys a k3 j' b p) (fun j' => [(0, v), (1, .int .i64 (a : Nat)), (4, .func (.func f) #[] caps.toArray), (12, .int .i64 (k3 : Nat)), (13, .int .i64 (j' : Nat))]) (fun _ => [T1]) (fun j' => j') j ⟨Nat.le_refl _, hW3⟩ (EnvLe.k5 rfl rfl rfl rfl rfl) (HLe.refl _) ?_
 rintro m2 ⟨hm2, hW4⟩
 have hk30 := hW3.i0
 refine .seq<|.seq ?_
 refine .region_tail 13 mixed (by kernel_rfl) ?_
 conv => arg 6; dsimp only [List.take]
 refine .mo rfl<|.mo rfl<|.q .leq<|.mo rfl ?_
 refine .split (t := 126) rfl (fun g15_3 => ?_) (fun g15_3 => ?_)
 have hle7 : k3 ≤ m2 := by have := of_decide_eq_true g15_3; omega
 obtain ⟨x7, hx7⟩ : ∃ x, ys[m2]? = some x := ⟨_, List.getElem?_eq_getElem (by omega)⟩
 have okx7 := hok x7 (hR1.perm.mem_iff.1 (List.mem_of_getElem? hx7))
 refine .gT g15_3<|.mo rfl<|.gT g15_3<|.mo rfl<|.gT g15_3<|.mo rfl<|.gT g15_3 ?_
 refine .indexO m2 hO1 hx7 (fun p130 => ?_)
 refine .gT g15_3<|.q (.loadA rfl)<|.gT g15_3<|.mo rfl<|.gT g15_3<|.mo rfl<|.gT g15_3 ?_
 refine .indexO a hO1 hpa (fun p134 => ?_)
 refine .gT g15_3<|.q (.loadA rfl)<|.nil<|.gT g15_3 ?_
 refine .callRV (first := []) (captured := caps) (vs := [(fun p : TP => Value.agg (encT p).toArray) x7, (fun p : TP => Value.agg (encT p).toArray) p]) (hf x7 p okx7 okp _ (fun b o hb => .inl hb)) (fun u hu => ?_)
 subst hu
 refine .gT g15_3<|.q .lss<|.gT g15_3<|.q .not<|.q (.pickTh g15_3) ?_
 refine .zn ?_
 refine .cond rfl (fun h5 => ?_) (fun h5 => ?_)
 refine .kn<|.block<|.region<|.mo rfl ?_
 refine .q (.i64 ((m2 - 1 : Nat) : Int) .sub ⟨by omega, by omega, by omega⟩) ?_
 refine .ag rfl<|.nil<|blkQ_n ?_
 ·have hlt7 : ltc c x7 p = false := by
   have h5' : (!ltc c x7 p) = true := h5
   simpa using h5'
  exact loopQ_i (m2 - 1) ⟨by omega, hW4.dec hle7 hx7 hlt7⟩ (by omega) (EnvLe.k5 rfl rfl rfl rfl rfl) (HLe.refl _)
 refine .exit<|seqQ_x<|loopQ_x<|blkQ_x ?_
 exact joinQ_n m2 ⟨hm2, hW4, fun x hx hxx => by
  have hh : (!ltc c x7 p) = false := h5
  rw [hx7] at hxx; cases hxx
  simpa using hh⟩ (EnvLe.k5 rfl rfl rfl rfl rfl) (HLe.refl _)
 refine .gF g15_3<|.gF g15_3<|.gF g15_3<|.gF g15_3<|.gF g15_3<|.gF g15_3<|.gF g15_3<|.gF g15_3<|.gF g15_3<|.nil<|.gF g15_3<|.gF g15_3<|.gF g15_3<|.q (.pickFh g15_3) ?_
 refine .zn<|.condF<|.exit<|seqQ_x<|loopQ_x<|blkQ_x ?_
 exact joinQ_n m2 ⟨hm2, hW4, fun x hx hxx => by have := of_decide_eq_false g15_3; omega⟩ (EnvLe.k5 rfl rfl rfl rfl rfl) (HLe.refl _)
 intro x hx
 obtain ⟨m3, hm3⟩ : ∃ m3, m3 = x := ⟨_, rfl⟩
 rw [← hm3] at hx ⊢
 clear hm3 x
 obtain ⟨hjm3, hW5, hst8⟩ := hx
 have hk30 := hW5.i0
 have hij8 := hW5.ij
 refine seqQ_n<|.seq<|.sr<|.mo rfl<|.mo rfl<|.q .gtr<|.zn ?_
 refine .cond rfl (fun h6 => ?_) (fun h6 => ?_)
 refine .exit (seqQ_x (blkQ_y (loopQ_x (blkQ_x ?_))))
 exact joinQ_n (k3, m3, ys, T1) ⟨hO1, hR1, hW5, by have := of_decide_eq_true h6; simp only; omega⟩ (EnvLe.k5 rfl rfl rfl rfl rfl) (HLe.refl _)
 have hle8 : k3 ≤ m3 := by have := of_decide_eq_false h6; omega
 obtain ⟨x8, hx8⟩ : ∃ x, ys[k3]? = some x := ⟨_, List.getElem?_eq_getElem (by omega)⟩
 obtain ⟨y8, hy8⟩ : ∃ x, ys[m3]? = some x := ⟨_, List.getElem?_eq_getElem (by omega)⟩
 have hq8 := hW5.sw hle8 (by omega) hx8 hy8 (hst6 x8 (by omega) hx8) (hst8 y8 hle8 hy8)
 refine .kn<|.seq<|.region_all [13, 15] mixed ?_
 refine .takeO 0 rfl .move (by kernel_rfl)<|.takeO 1 rfl .move (by kernel_rfl)<|.take 2 rfl .move (by kernel_rfl)<|.take 3 rfl .move (by kernel_rfl)<|.takeO 4 rfl .move (by kernel_rfl)<|.takeO 5 rfl .move (by kernel_rfl) ?_
 refine RA.indexO 6 rfl (m3) hO1 hy8 rfl rfl rfl (by kernel_rfl) (fun p151 => ?_)
 refine .takeO 7 rfl (.loadA rfl) (by kernel_rfl)<|.takeO 8 rfl .move (by kernel_rfl)<|.takeO 9 rfl .move (by kernel_rfl) ?_
 refine RA.indexO 10 rfl (k3) hO1 hx8 rfl rfl rfl (by kernel_rfl) (fun p155 => ?_)
 refine .takeO 11 rfl (.loadA rfl) (by kernel_rfl) ?_
 refine RA.indexO 12 rfl (k3) hO1 hx8 rfl rfl rfl (by kernel_rfl) (fun p157 => ?_)
 refine RA.step 13 rfl (by kernel_rfl) rfl ?_
 refine .storeO (k3) hO1 hx8 y8 (fun Tsa hsa => ?_) (hO1.one _ (List.mem_of_getElem? hy8))
 refine .nil (Next.mod rfl ?_)
 refine RA.indexO 14 rfl (m3) hO1 hy8 rfl rfl rfl (by kernel_rfl) (fun p158 => ?_)
 refine RA.step 15 rfl (by kernel_rfl) rfl ?_
 obtain ⟨zz, hzz⟩ : ∃ u, (ys.set (k3) y8)[m3]? = some u := ⟨_, List.getElem?_eq_getElem (by rw [List.length_set]; exact (List.getElem?_eq_some_iff.1 hy8).1)⟩
 refine .storeO (m3) hsa hzz x8 (fun Tsw hsw => ?_) (hO1.one _ (List.mem_of_getElem? hx8))
 rw [← swp_eq hx8 hy8] at hsw
 refine .nil (Next.mod rfl ?_)
 refine RA.nil (by kernel_rfl) ?_
 refine seqQ_n<|.sr<|.mo rfl ?_
 refine .q (.i64 ((k3 + 1 : Nat) : Int) .add ⟨by omega, by omega, by omega⟩) ?_
 refine .ag rfl<|.zn<|.region<|.mo rfl ?_
 refine .q (.i64 ((m3 - 1 : Nat) : Int) .sub ⟨by omega, by omega, by omega⟩) ?_
 refine .ag rfl<|.nil<|blkQ_n ?_
 ·exact loopQ_i (k3 + 1, m3 - 1, swp ys k3 m3, Tsw) ⟨hsw, hR1.step (by omega) (by omega) (by omega) (by omega) (by omega), hq8.2⟩ (by simp only; omega) (EnvLe.k5 rfl rfl rfl rfl rfl) (HLe.refl _)
 intro x hx
 obtain ⟨i9, j9, zs, T9⟩ := x
 obtain ⟨hO9, hR9, hQ9, hji9⟩ := hx
 simp only at hO9 hR9 hQ9 hji9 ⊢
 have hlen9 := hR9.length
 have hij9 := hQ9.ij
 have hi09 := hQ9.i0
 have hjb9 := hQ9.jb
 have hp9 := hQ9.at_
 obtain ⟨y9, hy9⟩ : ∃ x, zs[j9]? = some x := ⟨_, List.getElem?_eq_getElem (by omega)⟩
 refine seqQ_n<|.seq<|.region_all [13, 15] mixed ?_
 refine .takeO 0 rfl .move (by kernel_rfl)<|.takeO 1 rfl .move (by kernel_rfl)<|.take 2 rfl .move (by kernel_rfl)<|.take 3 rfl .move (by kernel_rfl)<|.takeO 4 rfl .move (by kernel_rfl)<|.takeO 5 rfl .move (by kernel_rfl) ?_
 refine RA.indexO 6 rfl (a) hO9 hp9 rfl rfl rfl (by kernel_rfl) (fun p169 => ?_)
 refine .takeO 7 rfl (.loadA rfl) (by kernel_rfl)<|.takeO 8 rfl .move (by kernel_rfl)<|.takeO 9 rfl .move (by kernel_rfl) ?_
 refine RA.indexO 10 rfl (j9) hO9 hy9 rfl rfl rfl (by kernel_rfl) (fun p173 => ?_)
 refine .takeO 11 rfl (.loadA rfl) (by kernel_rfl) ?_
 refine RA.indexO 12 rfl (j9) hO9 hy9 rfl rfl rfl (by kernel_rfl) (fun p175 => ?_)
 refine RA.step 13 rfl (by kernel_rfl) rfl ?_
 refine .storeO (j9) hO9 hy9 p (fun Tsa hsa => ?_) (hO9.one _ (List.mem_of_getElem? hp9))
 refine .nil (Next.mod rfl ?_)
 refine RA.indexO 14 rfl (a) hO9 hp9 rfl rfl rfl (by kernel_rfl) (fun p176 => ?_)
 refine RA.step 15 rfl (by kernel_rfl) rfl ?_
 obtain ⟨zz, hzz⟩ : ∃ u, (zs.set (j9) p)[a]? = some u := ⟨_, List.getElem?_eq_getElem (by rw [List.length_set]; exact (List.getElem?_eq_some_iff.1 hp9).1)⟩
 refine .storeO (a) hsa hzz y9 (fun Tsw hsw => ?_) (hO9.one _ (List.mem_of_getElem? hy9))
 rw [← swp_eq hy9 hp9] at hsw
 refine .nil (Next.mod rfl ?_)
 refine RA.nil (by kernel_rfl) ?_
 refine seqQ_n<|.sr<|.mo rfl<|.ag rfl<|.ag rfl<|.zn ?_
 refine .ret (retQ_r _ (.two (.tmp rfl) (.tmp rfl)) (HLe.refl _) ?_)
 ·exact ⟨_, rfl, swp zs j9 a, j9, false, rfl, hsw, hR9.step (by omega) (by omega) (by omega) (by omega) (by omega), hQ9.fin hji9 (by omega)⟩
end
end STK
namespace STK
section
variable {c : TP → TP → Int} {ok : TP → Prop} {f : FuncId} {caps : List Value} [e : Ent Tryz.prog f]
def Pdq (c : TP → TP → Int) (ok : TP → Prop) (f : FuncId) (caps : List Value) (n : Nat) : Prop := ∀ (v : Value) (xs : List TP) (T : Seg) (a b lim : Nat) (R : Rds), OS 48 9 encT v xs T → a ≤ b → b ≤ xs.length → xs.length ≤ 1000000000 → lim ≤ 1000000000 → FnC Tryz.prog f caps R (fun p : TP => Value.agg (encT p).toArray) c ok → (∀ x ∈ xs, ok x) → LB (ltc c) xs a b → b - a < n →
  Spec Tryz.prog 106 [v, .int .i64 a, .int .i64 b, .int .i64 lim, .func (.func f) #[] caps.toArray] R [T] fun u H' => ∃ T', H' = [T'] ∧ u = .tuple #[] ∧ ∃ ys, OS 48 9 encT v ys T' ∧ RP a b xs ys ∧ SR (ltc c) ys a b
theorem pdq_step (n : Nat) (ih : Pdq c ok f caps n) (so : SO (ltc c)) (v : Value) (xs : List TP) (T : Seg) (a0 b0 lim : Nat) (R : Rds) (h : OS 48 9 encT v xs T) (hab : a0 ≤ b0) (hb : b0 ≤ xs.length) (hl : xs.length ≤ 1000000000) (hlim : lim ≤ 1000000000) (hf : FnC Tryz.prog f caps R (fun p : TP => Value.agg (encT p).toArray) c ok) (hok : ∀ x ∈ xs, ok x) (hlb : LB (ltc c) xs a0 b0) (hn : b0 - a0 < n + 1) :
  Spec Tryz.prog 106 [v, .int .i64 a0, .int .i64 b0, .int .i64 lim, .func (.func f) #[] caps.toArray] R [T] fun u H' => ∃ T', H' = [T'] ∧ u = .tuple #[] ∧ ∃ ys, OS 48 9 encT v ys T' ∧ RP a0 b0 xs ys ∧ SR (ltc c) ys a0 b0 := by
 have iv := h.oneCell
 refine Spec.body Tryz.func106 rfl Tryz.results106 Tryz.ntmps106 rfl ?_
 refine .sr<|.ag rfl<|.z<|.ag rfl<|.zn<|.block ?_
 refine .loop (X := Nat × Nat × Nat × Bool × Bool × List TP × Seg) (fun y => (a0 ≤ y.1 ∧ y.1 ≤ y.2.1 ∧ y.2.1 ≤ b0 ∧ y.2.2.1 ≤ 1000000000) ∧ OS 48 9 encT v y.2.2.2.2.2.1 y.2.2.2.2.2.2 ∧ RP a0 b0 xs y.2.2.2.2.2.1 ∧ OX (ltc c) y.2.2.2.2.2.1 a0 b0 y.1 y.2.1) (fun y => [(0, v), (1, .int .i64 (y.1 : Nat)), (2, .int .i64 (y.2.1 : Nat)), (3, .int .i64 (y.2.2.1 : Nat)), (4, .func (.func f) #[] caps.toArray), (10, .bool y.2.2.2.1), (11, .bool y.2.2.2.2.1)]) (fun y => [y.2.2.2.2.2.2]) (fun y => y.2.1 - y.1) (a0, b0, lim, true, true, xs, T) ⟨⟨Nat.le_refl _, hab, Nat.le_refl _, hlim⟩, h, .refl _, .start⟩ (EnvLe.k7 rfl rfl rfl rfl rfl rfl rfl) (HLe.refl _) ?_
 rintro ⟨a, b, l, wb, wp, ys, T1⟩ ⟨⟨ha0, hab1, hb0, hl1⟩, hO1, hR1, hX1⟩
 simp only at ha0 hab1 hb0 hl1 hO1 hR1 hX1 ⊢
 have hlen := hR1.length
 have hok1 : ∀ x ∈ ys, ok x := fun x hx => hok x (hR1.perm.mem_iff.1 hx)
 have hlb1 := hX1.lb (hlb.rp hR1) ha0 hb0
 refine .block<|.sr<|.mo rfl<|.mo rfl ?_
 refine .q (.i64 ((b - a : Nat) : Int) .sub ⟨by omega, by omega, by omega⟩) ?_
 refine .ag rfl<|.zs<|.sr<|.mo rfl<|.q .leq<|.zn ?_
 refine .cond rfl (fun h1 => ?_) (fun h1 => ?_)
 refine .sr<|.mo rfl<|.mo rfl<|.mo rfl<|.mo rfl ?_
 refine .callM (ins_spec v ys T1 a b _ hO1 hab1 (by omega) (by omega) hf hok1 so) (fun u T2 hu => ?_)
 obtain ⟨rfl, zs, hO2, hR2, hS2⟩ := hu
 refine .zn ?_
 refine .ret (seqQ_r (blkQ_r (loopQ_r (blkQ_r (retQ_r _ .none (HLe.refl _) ?_)))))
 ·exact ⟨_, rfl, rfl, zs, hO2, hR1.trans (hR2.mono ha0 hb0 (by omega)), (hX1.rp hR2 ha0 hb0).sorted hS2⟩
 have hlong : 12 < b - a := by have := of_decide_eq_false h1; omega
 refine .kn<|.seq<|.sr<|.mo rfl<|.q .eqI<|.zn ?_
 refine .cond rfl (fun h2 => ?_) (fun h2 => ?_)
 refine .sr<|.mo rfl<|.mo rfl<|.mo rfl<|.mo rfl ?_
 refine .callM (heap_spec v ys T1 a b _ hO1 hab1 (by omega) (by omega) hf hok1 so) (fun u T2 hu => ?_)
 obtain ⟨rfl, zs, hO2, hR2, hS2⟩ := hu
 refine .zn ?_
 refine .ret (seqQ_r (blkQ_r (loopQ_r (blkQ_r (retQ_r _ .none (HLe.refl _) ?_)))))
 ·exact ⟨_, rfl, rfl, zs, hO2, hR1.trans (hR2.mono ha0 hb0 (by omega)), (hX1.rp hR2 ha0 hb0).sorted hS2⟩
 have hl0 : 0 < l := by
  have h2' : ¬ ((l : Int) = 0) := by simpa using h2
  omega
 refine .kn<|.seq ?_
 refine Tri.cut (X := Nat × List TP × Seg) (fun z => z.1 ≤ 1000000000 ∧ OS 48 9 encT v z.2.1 z.2.2 ∧ RP a b ys z.2.1) (fun z => [(0, v), (1, .int .i64 (a : Nat)), (2, .int .i64 (b : Nat)), (3, .int .i64 (z.1 : Nat)), (4, .func (.func f) #[] caps.toArray), (10, .bool wb), (11, .bool wp), (12, .int .i64 ((b - a : Nat) : Int))]) (fun z => [z.2.2]) ?_ ?_
 refine .sr<|.mo rfl<|.q .not<|.zn ?_
 refine .cond rfl (fun h3 => ?_) (fun h3 => ?_)
 refine .sr<|.mo rfl<|.mo rfl<|.mo rfl<|.mo rfl ?_
 refine .callM (break_spec v ys T1 a b _ (.func (.func f) #[] caps.toArray) inferInstance hO1 hab1 (by omega) (by omega)) (fun u T2 hu => ?_)
 obtain ⟨rfl, zs, hO2, hR2⟩ := hu
 refine .zn<|.region<|.mo rfl ?_
 refine .q (.i64 ((l - 1 : Nat) : Int) .sub ⟨by omega, by omega, by omega⟩) ?_
 refine .ag rfl<|.nil ?_
 ·exact joinQ_n (l - 1, zs, T2) ⟨by simp only; omega, hO2, hR2⟩ (EnvLe.k8 rfl rfl rfl rfl rfl rfl rfl rfl) (HLe.refl _)
 refine .skip ?_
 ·exact joinQ_n (l, ys, T1) ⟨by simp only; omega, hO1, .refl _⟩ (EnvLe.k8 rfl rfl rfl rfl rfl rfl rfl rfl) (HLe.refl _)
 intro y hy
 obtain ⟨l2, zs, T2⟩ := y
 obtain ⟨hl2, hO2, hR2⟩ := hy
 simp only at hl2 hO2 hR2 ⊢
 have hlen2 := hR2.length
 have hok2 : ∀ x ∈ zs, ok x := fun x hx => hok1 x (hR2.perm.mem_iff.1 hx)
 refine seqQ_n<|.sr<|.mo rfl<|.mo rfl<|.mo rfl<|.mo rfl ?_
 refine .callR (choose_spec v zs a b _ (hO2.rs fun p hp => .inr (by simpa using hp)) (by omega) (by omega) (by omega) (hf.mono fun b o hb => .inl hb) hok2) (fun u hu => ?_)
 obtain ⟨pv, hint, rfl, hpa, hpb⟩ := hu
 refine .mo rfl<|.q .extract<|.q .extract<|.ag rfl<|.ag rfl<|.zs ?_
 refine Tri.cut (X := Nat × Int × List TP × Seg) (fun z => (a ≤ z.1 ∧ z.1 < b) ∧ OS 48 9 encT v z.2.2.1 z.2.2.2 ∧ RP a b ys z.2.2.1) (fun z => [(0, v), (1, .int .i64 (a : Nat)), (2, .int .i64 (b : Nat)), (3, .int .i64 (l2 : Nat)), (4, .func (.func f) #[] caps.toArray), (10, .bool wb), (11, .bool wp), (12, .int .i64 ((b - a : Nat) : Int)), (13, .int .i64 (z.1 : Nat)), (14, .int .i64 z.2.1)]) (fun z => [z.2.2.2]) ?_ ?_
 refine .sr<|.mo rfl<|.q .eqI<|.zn ?_
 refine .cond rfl (fun h4 => ?_) (fun h4 => ?_)
 refine .sr<|.mo rfl<|.mo rfl<|.mo rfl<|.mo rfl ?_
 refine .callM (reverse_spec v zs T2 a b _ (.func (.func f) #[] caps.toArray) inferInstance hO2 (by omega) (by omega) (by omega)) (fun u T3 hu => ?_)
 obtain ⟨rfl, ws, hO3, hR3⟩ := hu
 refine .z<|.mo rfl ?_
 refine .q (.i64 ((b - 1 : Nat) : Int) .sub ⟨by omega, by omega, by omega⟩) ?_
 refine .mo rfl<|.mo rfl ?_
 refine .q (.i64 ((pv - a : Nat) : Int) .sub ⟨by omega, by omega, by omega⟩) ?_
 refine .q (.i64 (((b - 1) - (pv - a) : Nat) : Int) .sub ⟨by omega, by omega, by omega⟩) ?_
 refine .ag rfl<|.zn<|.region<|.ag rfl<|.nil ?_
 ·exact joinQ_n ((b - 1) - (pv - a), 1, ws, T3) ⟨by simp only; omega, hO3, hR2.trans hR3⟩ (EnvLe.k10 rfl rfl rfl rfl rfl rfl rfl rfl rfl rfl) (HLe.refl _)
 refine .skip ?_
 ·exact joinQ_n (pv, hint, zs, T2) ⟨⟨hpa, hpb⟩, hO2, hR2⟩ (EnvLe.k10 rfl rfl rfl rfl rfl rfl rfl rfl rfl rfl) (HLe.refl _)
 intro y hy
 obtain ⟨q, hn3, us, T4⟩ := y
 obtain ⟨⟨hqa, hqb⟩, hO4, hR4⟩ := hy
 simp only at hqa hqb hO4 hR4 ⊢
 have hlen4 := hR4.length
 have hok4 : ∀ x ∈ us, ok x := fun x hx => hok1 x (hR4.perm.mem_iff.1 hx)
 refine seqQ_n<|.seq ?_
 refine Tri.cut (X := List TP × Seg) (fun z => OS 48 9 encT v z.1 z.2 ∧ RP a b ys z.1) (fun z => [(0, v), (1, .int .i64 (a : Nat)), (2, .int .i64 (b : Nat)), (3, .int .i64 (l2 : Nat)), (4, .func (.func f) #[] caps.toArray), (10, .bool wb), (11, .bool wp), (12, .int .i64 ((b - a : Nat) : Int)), (13, .int .i64 (q : Nat))]) (fun z => [z.2]) ?_ ?_
 refine .sr<|.mo rfl<|.mo rfl ?_
 refine .split (t := 69) rfl (fun g15_1 => ?_) (fun g15_1 => ?_)
 refine .gT g15_1<|.mo rfl<|.q (.pickTh g15_1) ?_
 refine .mo rfl ?_
 refine .split (t := 72) rfl (fun g15_4 => ?_) (fun g15_4 => ?_)
 refine .gT g15_4<|.mo rfl<|.gT g15_4<|.q .eqI<|.q (.pickTh g15_4) ?_
 refine .zn ?_
 refine .cond rfl (fun h5 => ?_) (fun h5 => ?_)
 refine .sr<|.mo rfl<|.mo rfl<|.mo rfl<|.mo rfl ?_
 refine .callM (part_spec v us T4 a b _ hO4 (by omega) (by omega) (by omega) hf hok4 so (hlb1.rp hR4)) (fun u T5 hu => ?_)
 obtain ⟨ms, mb, rfl, hO5, hR5, hS5⟩ := hu
 refine .zn ?_
 refine .cond rfl (fun h6 => ?_) (fun h6 => ?_)
 refine .ret (joinQ_r (seqQ_r (blkQ_r (loopQ_r (blkQ_r (retQ_r _ .none (HLe.refl _) ?_))))))
 ·exact ⟨_, rfl, rfl, ms, hO5, hR1.trans ((hR4.trans hR5).mono ha0 hb0 (by omega)), (hX1.rp (hR4.trans hR5) ha0 hb0).sorted (hS5 (by assumption))⟩
 refine .skip ?_
 ·exact joinQ_n (ms, T5) ⟨hO5, hR4.trans hR5⟩ (EnvLe.k9 rfl rfl rfl rfl rfl rfl rfl rfl rfl) (HLe.refl _)
 refine .skip ?_
 ·exact joinQ_n (us, T4) ⟨hO4, hR4⟩ (EnvLe.k9 rfl rfl rfl rfl rfl rfl rfl rfl rfl) (HLe.refl _)
 refine .gF g15_4<|.gF g15_4<|.q (.pickFh g15_4) ?_
 refine .zn<|.condF<|.skip ?_
 ·exact joinQ_n (us, T4) ⟨hO4, hR4⟩ (EnvLe.k9 rfl rfl rfl rfl rfl rfl rfl rfl rfl) (HLe.refl _)
 refine .gF g15_1<|.q (.pickFh g15_1) ?_
 refine .mo rfl<|.gf rfl rfl<|.gf rfl rfl<|.q .pickF<|.zn<|.condF<|.skip ?_
 ·exact joinQ_n (us, T4) ⟨hO4, hR4⟩ (EnvLe.k9 rfl rfl rfl rfl rfl rfl rfl rfl rfl) (HLe.refl _)
 intro y hy
 obtain ⟨us2, T6⟩ := y
 obtain ⟨hO6, hR6⟩ := hy
 simp only at hO6 hR6 ⊢
 have hlen6 := hR6.length
 have hok6 : ∀ x ∈ us2, ok x := fun x hx => hok1 x (hR6.perm.mem_iff.1 hx)
 have hR06 : RP a0 b0 xs us2 := hR1.trans (hR6.mono ha0 hb0 (by omega))
 have hX6 := hX1.rp hR6 ha0 hb0
 have hlb6 := hlb1.rp hR6
 obtain ⟨p, hp⟩ : ∃ x, us2[q]? = some x := ⟨_, List.getElem?_eq_getElem (by omega)⟩
 have okp := hok6 p (List.mem_of_getElem? hp)
 refine seqQ_n<|.seq<|.seq ?_
 refine .region_tail 13 mixed (by kernel_rfl) ?_
 conv => arg 6; dsimp only [List.take]
 refine .mo rfl<|.q .gtr<|.mo rfl ?_
 refine .split (t := 83) rfl (fun g17_2 => ?_) (fun g17_2 => ?_)
 have ha1 : 0 < a := by have := of_decide_eq_true g17_2; omega
 obtain ⟨w, hw⟩ : ∃ x, us2[a - 1]? = some x := ⟨_, List.getElem?_eq_getElem (by omega)⟩
 have okw := hok6 w (List.mem_of_getElem? hw)
 refine .gT g17_2<|.mo rfl<|.gT g17_2<|.mo rfl<|.gT g17_2<|.mo rfl<|.gT g17_2 ?_
 refine .q (.i64 ((a - 1 : Nat) : Int) .sub ⟨by omega, by omega, by omega⟩) ?_
 refine .gT g17_2 ?_
 refine .indexO (a - 1) hO6 hw (fun p88 => ?_)
 refine .gT g17_2<|.q (.loadA rfl)<|.gT g17_2<|.mo rfl<|.gT g17_2<|.mo rfl<|.gT g17_2 ?_
 refine .indexO q hO6 hp (fun p92 => ?_)
 refine .gT g17_2<|.q (.loadA rfl)<|.nil<|.gT g17_2 ?_
 refine .callRV (first := []) (captured := caps) (vs := [(fun p : TP => Value.agg (encT p).toArray) w, (fun p : TP => Value.agg (encT p).toArray) p]) (hf w p okw okp _ (fun b o hb => .inl hb)) (fun u hu => ?_)
 subst hu
 refine .gT g17_2<|.q .lss<|.gT g17_2<|.q .not<|.q (.pickTh g17_2) ?_
 refine .zn ?_
 refine .cond rfl (fun h7 => ?_) (fun h7 => ?_)
 have hnl : ltc c w p = false := by
  have h7' : (!ltc c w p) = true := h7
  simpa using h7'
 refine .sr<|.mo rfl<|.mo rfl<|.mo rfl<|.mo rfl<|.mo rfl ?_
 refine .callM (partE_spec v us2 T6 a b q p _ hO6 (by omega) ⟨hqa, hqb⟩ hp (by omega) (by omega) hf hok6 so (hlb6.nol so ha1 hw hnl)) (fun u T7 hu => ?_)
 obtain ⟨qs, mid, rfl, hO7, hR7, hP7⟩ := hu
 have hmlo := hP7.lo
 have hmhi := hP7.hi
 refine .ag rfl<|.z<|.mo rfl<|.ag rfl<|.zn<|.exit<|seqQ_x<|blkQ_x ?_
 ·exact loopQ_i (mid, b, l2, _, _, qs, T7) ⟨⟨by simp only; omega, hmhi, hb0, hl2⟩, hO7, hR06.trans (hR7.mono ha0 hb0 (by omega)), (hX6.rp hR7 ha0 hb0).eqs so hP7⟩ (by simp only; omega) (EnvLe.k7 rfl rfl rfl rfl rfl rfl rfl) (HLe.refl _)
 refine .kn<|.sr<|.mo rfl<|.mo rfl<|.mo rfl<|.mo rfl<|.mo rfl ?_
 refine .callM (parti_spec v us2 T6 a b q p _ hO6 (by omega) ⟨hqa, hqb⟩ hp (by omega) (by omega) hf hok6 so) (fun u T7 hu => ?_)
 obtain ⟨qs, mid, wp2, rfl, hO7, hR7, hP7⟩ := hu
 have hmlo := hP7.lo
 have hmhi := hP7.hi
 have hlen7 := hR7.length
 have hok7 : ∀ x ∈ qs, ok x := fun x hx => hok6 x (hR7.perm.mem_iff.1 hx)
 have hX7 := hX6.rp hR7 ha0 hb0
 have hR07 : RP a0 b0 xs qs := hR06.trans (hR7.mono ha0 hb0 (by omega))
 have hlb7 := hlb6.rp hR7
 refine .mo rfl<|.q .extract<|.q .extract<|.ag rfl<|.ag rfl<|.z<|.mo rfl<|.ag rfl<|.z<|.mo rfl<|.mo rfl ?_
 refine .q (.i64 ((mid - a : Nat) : Int) .sub ⟨by omega, by omega, by omega⟩) ?_
 refine .mo rfl<|.mo rfl ?_
 refine .q (.i64 ((b - mid : Nat) : Int) .sub ⟨by omega, by omega, by omega⟩) ?_
 refine .ag rfl<|.ag rfl<|.z<|.mo rfl ?_
 refine .q (.i64 (((b - a) / 8 : Nat) : Int) .quo ⟨by rw [Int.tdiv_eq_ediv_of_nonneg (by omega)]; omega, by omega, by omega⟩) ?_
 refine .ag rfl<|.z<|.mo rfl<|.mo rfl<|.q .lss<|.zn ?_
 refine .cond rfl (fun h8 => ?_) (fun h8 => ?_)
 refine .sr<|.mo rfl<|.mo rfl<|.q .geq<|.ag rfl<|.z<|.mo rfl<|.mo rfl<|.mo rfl<|.mo rfl<|.mo rfl ?_
 refine .callM (ih v qs T7 a mid l2 _ hO7 (by omega) (by omega) (by omega) hl2 hf hok7 (hlb7.less (by omega)) (by omega)) (fun u T8 hu => ?_)
 obtain ⟨rfl, rs, hO8, hR8, hS8⟩ := hu
 have hX8 := hX7.left so hP7 hR8 hS8 ha0 hb0 (by omega)
 have hR08 := hR07.trans (hR8.mono ha0 (by omega) (by omega))
 refine .zn<|.region<|.mo rfl ?_
 refine .q (.i64 ((mid + 1 : Nat) : Int) .add ⟨by omega, by omega, by omega⟩) ?_
 refine .ag rfl<|.nil<|blkQ_n ?_
 ·exact loopQ_i (mid + 1, b, l2, _, _, rs, T8) ⟨⟨by simp only; omega, by simp only; omega, by simp only; omega, hl2⟩, hO8, hR08, hX8⟩ (by simp only; omega) (EnvLe.k7 rfl rfl rfl rfl rfl rfl rfl) (HLe.refl _)
 refine .sr<|.mo rfl<|.mo rfl<|.q .geq<|.ag rfl<|.z<|.mo rfl<|.mo rfl ?_
 refine .q (.i64 ((mid + 1 : Nat) : Int) .add ⟨by omega, by omega, by omega⟩) ?_
 refine .mo rfl<|.mo rfl<|.mo rfl ?_
 refine .callM (ih v qs T7 (mid + 1) b l2 _ hO7 (by omega) (by omega) (by omega) hl2 hf hok7 hP7.lb (by omega)) (fun u T8 hu => ?_)
 obtain ⟨rfl, rs, hO8, hR8, hS8⟩ := hu
 have hX8 := hX7.right so hP7 hR8 hS8 ha0 hb0 (by omega)
 have hR08 := hR07.trans (hR8.mono (by omega) hb0 (by omega))
 refine .zn<|.region<|.mo rfl<|.ag rfl<|.nil<|blkQ_n ?_
 ·exact loopQ_i (a, mid, l2, _, _, rs, T8) ⟨⟨ha0, hmlo, by simp only; omega, hl2⟩, hO8, hR08, hX8⟩ (by simp only; omega) (EnvLe.k7 rfl rfl rfl rfl rfl rfl rfl) (HLe.refl _)
 refine .gF g17_2<|.gF g17_2<|.gF g17_2<|.gF g17_2<|.gF g17_2<|.gF g17_2<|.gF g17_2<|.gF g17_2<|.gF g17_2<|.gF g17_2<|.nil<|.gF g17_2<|.gF g17_2<|.gF g17_2<|.q (.pickFh g17_2) ?_
 refine .zn<|.condF<|.kn<|.sr<|.mo rfl<|.mo rfl<|.mo rfl<|.mo rfl<|.mo rfl ?_
 refine .callM (parti_spec v us2 T6 a b q p _ hO6 (by omega) ⟨hqa, hqb⟩ hp (by omega) (by omega) hf hok6 so) (fun u T7 hu => ?_)
 obtain ⟨qs, mid, wp2, rfl, hO7, hR7, hP7⟩ := hu
 have hmlo := hP7.lo
 have hmhi := hP7.hi
 have hlen7 := hR7.length
 have hok7 : ∀ x ∈ qs, ok x := fun x hx => hok6 x (hR7.perm.mem_iff.1 hx)
 have hX7 := hX6.rp hR7 ha0 hb0
 have hR07 : RP a0 b0 xs qs := hR06.trans (hR7.mono ha0 hb0 (by omega))
 have hlb7 := hlb6.rp hR7
 refine .mo rfl<|.q .extract<|.q .extract<|.ag rfl<|.ag rfl<|.z<|.mo rfl<|.ag rfl<|.z<|.mo rfl<|.mo rfl ?_
 refine .q (.i64 ((mid - a : Nat) : Int) .sub ⟨by omega, by omega, by omega⟩) ?_
 refine .mo rfl<|.mo rfl ?_
 refine .q (.i64 ((b - mid : Nat) : Int) .sub ⟨by omega, by omega, by omega⟩) ?_
 refine .ag rfl<|.ag rfl<|.z<|.mo rfl ?_
 refine .q (.i64 (((b - a) / 8 : Nat) : Int) .quo ⟨by rw [Int.tdiv_eq_ediv_of_nonneg (by omega)]; omega, by omega, by omega⟩) ?_
 refine .ag rfl<|.z<|.mo rfl<|.mo rfl<|.q .lss<|.zn ?_
 refine .cond rfl (fun h8 => ?_) (fun h8 => ?_)
 refine .sr<|.mo rfl<|.mo rfl<|.q .geq<|.ag rfl<|.z<|.mo rfl<|.mo rfl<|.mo rfl<|.mo rfl<|.mo rfl ?_
 refine .callM (ih v qs T7 a mid l2 _ hO7 (by omega) (by omega) (by omega) hl2 hf hok7 (hlb7.less (by omega)) (by omega)) (fun u T8 hu => ?_)
 obtain ⟨rfl, rs, hO8, hR8, hS8⟩ := hu
 have hX8 := hX7.left so hP7 hR8 hS8 ha0 hb0 (by omega)
 have hR08 := hR07.trans (hR8.mono ha0 (by omega) (by omega))
 refine .zn<|.region<|.mo rfl ?_
 refine .q (.i64 ((mid + 1 : Nat) : Int) .add ⟨by omega, by omega, by omega⟩) ?_
 refine .ag rfl<|.nil<|blkQ_n ?_
 ·exact loopQ_i (mid + 1, b, l2, _, _, rs, T8) ⟨⟨by simp only; omega, by simp only; omega, by simp only; omega, hl2⟩, hO8, hR08, hX8⟩ (by simp only; omega) (EnvLe.k7 rfl rfl rfl rfl rfl rfl rfl) (HLe.refl _)
 refine .sr<|.mo rfl<|.mo rfl<|.q .geq<|.ag rfl<|.z<|.mo rfl<|.mo rfl ?_
 refine .q (.i64 ((mid + 1 : Nat) : Int) .add ⟨by omega, by omega, by omega⟩) ?_
 refine .mo rfl<|.mo rfl<|.mo rfl ?_
 refine .callM (ih v qs T7 (mid + 1) b l2 _ hO7 (by omega) (by omega) (by omega) hl2 hf hok7 hP7.lb (by omega)) (fun u T8 hu => ?_)
 obtain ⟨rfl, rs, hO8, hR8, hS8⟩ := hu
 have hX8 := hX7.right so hP7 hR8 hS8 ha0 hb0 (by omega)
 have hR08 := hR07.trans (hR8.mono (by omega) hb0 (by omega))
 refine .zn<|.region<|.mo rfl<|.ag rfl<|.nil<|blkQ_n ?_
 ·exact loopQ_i (a, mid, l2, _, _, rs, T8) ⟨⟨ha0, hmlo, by simp only; omega, hl2⟩, hO8, hR08, hX8⟩ (by simp only; omega) (EnvLe.k7 rfl rfl rfl rfl rfl rfl rfl) (HLe.refl _)
theorem pdq_spec (so : SO (ltc c)) (n : Nat) : Pdq c ok f caps n := by
 induction n with
 | zero => exact fun v xs T a b lim R _ _ _ _ _ _ _ _ hn => by omega
 | succ n ih => exact fun v xs T a b lim R h1 h2 h3 h4 h5 h6 h7 h8 h9 => pdq_step n ih so v xs T a b lim R h1 h2 h3 h4 h5 h6 h7 h8 h9
end
end STK
namespace STK
section
variable {c : TP → TP → Int} {ok : TP → Prop} {f : FuncId} {caps : List Value} [e : Ent Tryz.prog f]
theorem sort_spec (v : Value) (xs : List TP) (T : Seg) (R : Rds) (h : OS 48 9 encT v xs T) (hl : xs.length ≤ 1000000000) (hf : FnC Tryz.prog f caps R (fun p : TP => Value.agg (encT p).toArray) c ok) (hok : ∀ x ∈ xs, ok x) (so : SO (ltc c)) :
  Spec Tryz.prog 47 [v, .func (.func f) #[] caps.toArray] R [T] fun u H' => ∃ T', H' = [T'] ∧ u = .tuple #[] ∧ ∃ ys, OS 48 9 encT v ys T' ∧ ys.Perm xs ∧ SR (ltc c) ys 0 ys.length := by
 have iv := h.oneCell
 have hbl : Lib.bitLen xs.length ≤ 1000000000 := by
  have h64 := bitLen_le 64 xs.length
  have e64 : Lib.bitLen xs.length = Lib.bitLenAux 64 xs.length := rfl
  omega
 refine Spec.body Tryz.func47 rfl Tryz.results47 Tryz.ntmps47 rfl ?_
 refine .sr<|.mo rfl<|.q (.lenO h) ?_
 refine .ag rfl<|.zn<|.region<|.mo rfl<|.mo rfl<|.mo rfl ?_
 refine .q (Quiet.cast (v' := .int .u64 ((xs.length : Nat) : Int)) .convI (by rw [wrap_u64_in (by omega) (by omega)])) ?_
 refine .callR (len_bits xs.length (by omega) _) (fun u hu => ?_)
 subst hu
 refine .mo rfl ?_
 refine .callM (pdq_spec so (xs.length + 1) v xs T 0 xs.length (Lib.bitLen xs.length) _ h (Nat.zero_le _) (Nat.le_refl _) hl hbl hf hok (fun h0 => absurd h0 (by omega)) (by omega)) (fun u T2 hu => ?_)
 obtain ⟨rfl, ys, hO2, hR2, hS2⟩ := hu
 refine .nil<|retQ_n _ .none (HLe.refl _) ?_
 ·exact ⟨_, rfl, rfl, ys, hO2, hR2.perm, hR2.length ▸ hS2⟩
end
end STK
def ftok (M : List (ByteArray × TP)) (k : ByteArray) : Tok := ((mget k M).map (·.2)).getD Tok.zero
theorem ftok_all {M : List (ByteArray × TP)} (hn : (M.map (·.1)).Nodup) : (M.map (·.1)).map (ftok M) = M.map (·.2.2) := by
 rw [List.map_map]
 refine List.map_congr_left fun p hp => ?_
 have : mget p.1 M = some p.2 := mget_of_mem hn (by exact hp)
 simp [ftok, this]
abbrev toks (ps : List TP) : List Tok := ps.map (·.2)
def kv (L : List Tok) : List (ByteArray × Tok) := L.map fun t => (t.text, t)
theorem kv_snd {A : List (ByteArray × Tok)} (h : ∀ p ∈ A, p.1 = p.2.text) : kv (A.map (·.2)) = A := by
 unfold kv
 rw [List.map_map]
 conv => rhs; rw [← List.map_id A]
 exact List.map_congr_left fun p hp => by rw [Function.comp, ← h p hp]; rfl
theorem vlist_spec (g : Nat) (A : List (ByteArray × Tok)) (last : Int) (T : Seg) (h : VI g A last T) (hl : A.length ≤ 1000000) (R : Rds) (hr : ∀ p ∈ T, R p.1 p.2) :
  Spec Tryz.prog 12 [.pointer (some ⟨g, 0, none⟩)] R [] fun v H' => ∃ T', H' = [T'] ∧ ∃ ps To Ti, T' = To ++ Ti ∧ OS 48 9 encT v ps To ∧ (∀ p ∈ ps, TokR (sg0 Ti) p) ∧ (kv (toks ps)).Perm A ∧ ps.Pairwise (fun p q => sLt q.2.text p.2.text = false) := by
 have hkeys := h.keys
 obtain ⟨Td, _, rfl, vm, M, q, Tm, Tq, rfl, hM, hI, hA, hQ⟩ := h
 obtain ⟨bm, rfl⟩ : ∃ b, vm = .map (some b) := by obtain ⟨b, es, clock, h1, _⟩ := hM; exact ⟨b, h1⟩
 have pq : PC R (.pointer (some ⟨g, 0, none⟩)) [.map (some bm), .pointer (some ⟨q, 0, none⟩), .int .i64 last] := PC.of (E := 102) (fr := (0, 0)) (hr (g, .cells [.map (some bm), .pointer (some ⟨q, 0, none⟩), .int .i64 last].toArray 102 (0, 0)) (by simp))
 have rm : RM R (fun s : ByteArray => .string s) (fun p : TP => .agg (encT p).toArray) (.map (some bm)) M := hM.rm fun p hp => hr p (by simp [hp])
 have hT : ∀ b o, sg0 Td b o → R b o := fun b o hb => hr (b, o) (by have : (b, o) ∈ Td := hb.1; simp [this])
 have hAs : (M.map (·.2.2)).Perm (A.map (·.2)) := by
  have := hA.map (·.2)
  unfold kmap at this
  rw [List.map_map] at this
  exact this
 have hMl : M.length = A.length := by simpa using hAs.length_eq
 refine Spec.segs (H' := [[], []]) (by simp) ?_
 refine Spec.body Tryz.func12 rfl Tryz.results12 Tryz.ntmps12 rfl ?_
 refine .sr<|.ag rfl<|.zs<|.sr<|.mo rfl ?_
 refine .callR (vok_spec g bm _ _ _) (fun v hv => ?_)
 subst hv
 refine .q .not<|.zn<|.condF<|.kn<|.sr<|.ag rfl<|.zs<|.sr<|.mo rfl<|.nc rfl<|.fa rfl<|.lo rfl ?_
 refine .range rm (fun _ _ => .inl) rfl (fun it Ti0 hit0 => ?_)
 refine .zn<|.block ?_
 refine .loop (X := List TP × List ByteArray × Value × Seg × Seg × Seg) (fun y => (∀ p ∈ y.1, TokR (sg0 y.2.2.2.2.1) p) ∧ y.2.1.Nodup ∧ (toks y.1 ++ y.2.1.map (ftok M)).Perm (A.map (·.2)) ∧ OS 48 9 encT y.2.2.1 y.1 y.2.2.2.1 ∧ It R (fun s : ByteArray => .string s) (fun p : TP => .agg (encT p).toArray) (.map (some bm)) M it y.2.1 y.2.2.2.2.2) (fun y => [(0, .pointer (some ⟨g, 0, none⟩)), (3, y.2.2.1), (13, it)]) (fun y => [y.2.2.2.2.2, y.2.2.2.1, y.2.2.2.2.1]) (fun y => y.2.1.length) ([], M.map (·.1), .slice none 0 0, [], [], Ti0) ⟨by simp, hM.nd, by rw [ftok_all hM.nd]; exact hAs, OS.nil, hit0⟩ (EnvLe.k3 rfl rfl rfl) (HLe.refl _) ?_
 rintro ⟨ps, todo, vo, To, Td2, Ti⟩ ⟨hps, hnd, hpm, hO, hit⟩
 simp only at hps hnd hpm hO hit ⊢
 have i2 := hO.oneCell
 have hlen := hpm.length_eq
 simp only [List.length_append, List.length_map] at hlen
 refine .sr ?_
 refine .nextB hit (fun _ _ => .inl) rfl (fun b rest Ti2 hf ht => ?_)
 refine .q .extract<|.zs ?_
 refine .cond rfl (fun h2 => ?_) (fun h2 => ?_)
 obtain ⟨k, ⟨w0, t0⟩, hk, hku, hitc⟩ := ht h2
 obtain ⟨_, hc0, hf0⟩ := hI (k, (w0, t0)) (mget_some hku)
 have i3 : Ones (encT (w0, t0)) := ⟨hc0.ones⟩
 have hfk : ftok M k = t0 := by simp [ftok, hku]
 have hft := filter_one hnd hk
 refine .kn<|.block<|.sr ?_
 refine .q (.entry hitc (fun _ _ => .inl) rfl) ?_
 refine .q .extract ?_
 refine .allocA (fun b5 => ?_)
 refine .storeA rfl rfl<|.zn<|.region<|.mo rfl<|.q (.loadA rfl) ?_
 refine .callN (tcopied_spec w0 t0 _ (hc0.mono fun b o hb => .inl (hT b o hb)) hf0) (fun v T1 hv => ?_)
 obtain ⟨w1, rfl, hc1⟩ := hv
 have i4 : Ones (encT (w1, t0)) := ⟨hc1.ones⟩
 refine .buildSlice1A (fun b21 => ?_)
 refine .append hO (RS.lits (xs := [((w1, t0) : TP)]) rfl (by simp [encT]) (by have := hc1.ones; simpa using this)) (by simp; omega) (fun v5 T5 hO5 => ?_)
 refine .ag rfl<|.nil<|blkQ_n ?_
 ·refine loopQ_i (ps ++ [(w1, t0)], todo.filter fun k' => decide (k' ≠ k), v5, T5, T1 ++ Td2, Ti2) ⟨fun p hp => ?_, hnd.sublist List.filter_sublist, ?_, hO5, hitc.it⟩ ?_ (EnvLe.k3 rfl rfl rfl) ((HLe.pick [3, 3, 1, 2] _).trans (HLe.ofPerm (by simp [take, dropAt])))
  ·simp only
   rcases List.mem_append.1 hp with hp | hp
   ·exact (hps p hp).mono fun b o hb => sg0_right hb
   ·simp only [List.mem_singleton] at hp; subst hp
    exact hc1.mono fun b o hb => sg0_left hb
  ·simp only
   refine List.Perm.trans ?_ hpm
   rw [toks, List.map_append, List.append_assoc]
   refine List.Perm.append_left _ ?_
   have := (hft.map (ftok M)).symm
   rw [List.map_cons, hfk] at this
   exact this
  ·have := hft.length_eq
   simp only [List.length_cons] at this
   simp only; omega
 have ht0 := hf h2
 subst ht0
 simp only [List.map_nil, List.append_nil] at hpm
 have hfc : FnC Tryz.prog 48 [] R (fun p : TP => Value.agg (encT p).toArray) tcmp TPok := fun x y hx hy R2 _ => tcmp_spec x y R2 hx hy
 refine .exit<|seqQ_x<|loopQ_x<|blkQ_x<|seqQ_n<|.sr<|.mo rfl ?_
 refine .callM (STK.sort_spec (caps := []) vo ps To _ hO (by simp at hlen; omega) hfc (fun p hp => (hps p hp).ones) tcmp_so) (fun u T3 hu => ?_)
 obtain ⟨rfl, ys, hO3, hpy, hsy⟩ := hu
 have i5 := hO3.oneCell
 refine .z<|.mo rfl<|.ag rfl<|.zn ?_
 refine .ret (retQ_r _ (.one (.tmp rfl)) ((HLe.pick [1, 1] _).trans (HLe.ofPerm (H' := [T3 ++ Td2]) (by simp [take, dropAt]))) ?_)
 ·refine ⟨_, rfl, ys, T3, Td2, rfl, hO3, fun p hp => hps p (hpy.mem_iff.1 hp), ?_, hsy.ordered.imp fun {a b} hab => by rw [ltc_tcmp] at hab; exact hab⟩
  have h7 := ((hpy.map (·.2)).trans hpm).map fun t : Tok => (t.text, t)
  have h8 := kv_snd hkeys
  unfold kv at h8
  rw [h8] at h7
  exact h7
theorem VI.ps {g : Nat} {A : List (ByteArray × Tok)} {last : Int} {T : Seg} (h : VI g A last T) : ∃ bm q, PS T (.pointer (some ⟨g, 0, none⟩)) [.map (some bm), .pointer (some ⟨q, 0, none⟩), .int .i64 last] := by
 obtain ⟨Td, _, rfl, vm, M, q, Tm, Tq, rfl, hM, hI, hA, hQ⟩ := h
 obtain ⟨bm, rfl⟩ : ∃ b, vm = .map (some b) := by obtain ⟨b, es, clock, h1, _⟩ := hM; exact ⟨b, h1⟩
 exact ⟨bm, q, PS.of (E := 102) (fr := (0, 0)) (by simp)⟩
theorem tput_len {A : List (ByteArray × Tok)} {last : Int} {t : Tok} : (tput A last t).2.length ≤ A.length + 1 := by
 by_cases h0 : (tput A last t).1 = 0
 ·rw [(tput_zero h0).1]; exact kset_length
 ·rw [tput_else h0]; omega
end Go.Proofs.YtkagfkbkpiebjaaGreatDoor
