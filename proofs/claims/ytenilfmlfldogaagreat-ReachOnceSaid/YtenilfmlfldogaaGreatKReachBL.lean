/- What the law 'ReachB' uses. No condition. -/
import Derived.Test.YtenilfmlfldogaaGreatKReachBB
import Derived.Test.YtenilfmlfldogaaGreatKReachBF
import Derived.Test.YtenilfmlfldogaaGreatKReachBH
import Derived.Test.YtenilfmlfldogaaGreatKReachBK
namespace Go.Proofs.YtenilfmlfldogaaGreat
open Tryz (prog)
set_option linter.unusedVariables false
set_option maxRecDepth 4000
theorem bitLen_pow : ∀ (f x : Nat), x < 2 ^ f -> x ≠ 0 -> 2 ^ Lib.bitLenAux f x <= 2 * x /\ x < 2 ^ Lib.bitLenAux f x
 | 0, x, h, h0 => by simp at h; omega
 | f + 1, x, h, h0 => by
  unfold Lib.bitLenAux
  rw [if_neg h0]
  by_cases h1 : x / 2 = 0
  ·have : x = 1 := by omega
   subst this
   have : Lib.bitLenAux f (1 / 2) = 0 := by cases f <;> simp [Lib.bitLenAux]
   rw [this]; omega
  ·have ih := bitLen_pow f (x / 2) (by rw [Nat.pow_succ] at h; omega) h1
   rw [Nat.add_comm, Nat.pow_succ]
   omega
theorem bitLen_le : ∀ (f x : Nat), Lib.bitLenAux f x <= f
 | 0, x => by simp [Lib.bitLenAux]
 | f + 1, x => by
  unfold Lib.bitLenAux
  split
  ·omega
  ·have := bitLen_le f (x / 2); omega
theorem len_bits (n : Nat) (h : n < 2 ^ 63) (R : Rds) : Spec prog 168 [.int .u64 n] R [] λ v H' => v = .int .i64 (Lib.bitLen n : Nat) /\ H' = [] := by
 have := Spec.ofCalls (λ w => Tryz.bits_Len (n : Int) w (by omega) (by omega)) R
 simpa using this
theorem npow_spec (n : Nat) (h0 : n ≠ 0) (h : n <= 1000000000) (R : Rds) : Spec prog 257 [.int .i64 n] R [] λ v H' => (∃ m : Nat, v = .int .u64 m /\ n < m /\ m <= 2 * n) /\ H' = [] := by
 have hp := bitLen_pow 64 n (by omega) h0
 have hb := bitLen_le 64 n
 refine Spec.body Tryz.func257 rfl Tryz.results257 Tryz.ntmps257 rfl<|.sr<|.ag rfl<|.z<|.mo rfl<|.q (Quiet.cast (v' := .int .u64 (n : Nat)) .convI (by rw [wrap_u64_in (by omega) (by omega)]))<|.callR (len_bits n (by omega) _) (λ v hv => ?_)
 subst hv
 refine .q (Quiet.cast (v' := .int .u64 ((2 ^ Lib.bitLen n : Nat) : Int)) (.shlI) (by
  have e : min ((Lib.bitLen n : Nat) : Int).toNat IntKind.u64.bits = Lib.bitLen n := by
   unfold Lib.bitLen; simp [IntKind.bits]; omega
  rw [e, Int.one_mul, wrap_u64_in]
  ·congr 1
  ·exact Int.le_of_lt (Int.pow_pos (by omega))
  ·have h1 : (2 ^ Lib.bitLen n : Nat) <= 2 * n := hp.1
   have h2 : ((2 : Int) ^ Lib.bitLen n) = ((2 ^ Lib.bitLen n : Nat) : Int) := by push_cast; rfl
   rw [h2]; omega)) ?_
 refine .az rfl<|.ret (rq1 rfl ?_)
 ·exact ⟨⟨2 ^ Lib.bitLen n, rfl, hp.2, hp.1⟩, rfl⟩
theorem rnd_spec (b : Nat) (z : Int) (R : Rds) : Spec prog 258 [pT b] R [bl b [.int .u64 z] 393] λ v H' => ∃ T', H' = [T'] /\ ∃ z', v = .int .u64 z' /\ T' = (bl b [.int .u64 z'] 393) := by
 refine Spec.body Tryz.func258 rfl Tryz.results258 Tryz.ntmps258 rfl<|.sr<|.ag rfl<|.zs<|.region_tail 9 mixed (by kernel_rfl) ?_
 conv => arg 6; dsimp only [List.take]
 refine .mo rfl<|.nc rfl<|.lo rfl<|.mo rfl<|.nc rfl<|.lo rfl<|.q .shlI<|.q .xorI<|.nc rfl<|.nil<|.store1 rfl rfl<|.zs<|.region_tail 9 mixed (by kernel_rfl) ?_
 conv => arg 6; dsimp only [List.take]
 refine .mo rfl<|.nc rfl<|.lo rfl<|.mo rfl<|.nc rfl<|.lo rfl<|.q .shrI<|.q .xorI<|.nc rfl<|.nil<|.store1 rfl rfl<|.zs<|.region_tail 9 mixed (by kernel_rfl) ?_
 conv => arg 6; dsimp only [List.take]
 refine .mo rfl<|.nc rfl<|.lo rfl<|.mo rfl<|.nc rfl<|.lo rfl<|.q .shlI<|.q .xorI<|.nc rfl<|.nil<|.store1 rfl rfl<|.z<|.mo rfl<|.nc rfl<|.lo rfl<|.az rfl<|.ret (retQ_r _ (.one (.tmp rfl)) rH ?_)
 ·exact ⟨_, rfl, _, rfl, rfl⟩
namespace STP
section
variable {c : Tpl -> Tpl -> Int} {ok : Tpl -> Prop} {f : FuncId} {caps : List Value} [e : Ent prog f]
theorem ins_spec (v : Value) (xs : List Tpl) (T : Seg) (a b : Nat) (R : Rds) (h : OS 151 7 Tpl.enc v xs T) (hab : a <= b) (hb : b <= xs.length) (hl : xs.length <= 1000000000) (hf : FnC prog f caps R (λ t : Tpl => Value.agg t.enc.toArray) c ok) (hok : ∀ x ∈ xs, ok x) (so : SO (ltc c)) :
  Spec prog 235 [v, .int .i64 a, .int .i64 b, .func (.func f) #[] caps.toArray] R [T] λ u H' => ∃ T', H' = [T'] /\ u = .tuple #[] /\ ∃ ys, OS 151 7 Tpl.enc v ys T' /\ RP a b xs ys /\ SR (ltc c) ys a b := by
 have iv := h.oneCell
 refine Spec.body Tryz.func235 rfl Tryz.results235 Tryz.ntmps235 rfl<|.sr<|.mo rfl<|.ia (a + 1) .add<|.az rfl<|.block<|.loop (X := Nat × List Tpl × Seg) (λ y => (a + 1 <= y.1 /\ (y.1 <= b \/ y.1 = a + 1)) /\ OS 151 7 Tpl.enc v y.2.1 y.2.2 /\ RP a b xs y.2.1 /\ SR (ltc c) y.2.1 a y.1) (λ y => [(0, v), (1, iN a), (2, iN b), (3, .func (.func f) #[] caps.toArray), (8, iN y.1)]) (λ y => [y.2.2]) (λ y => b - y.1) (a + 1, xs, T) ⟨⟨by simp only; omega, .inr rfl⟩, h, .refl _, λ i j h1 h2 h3 => by simp only at h3; omega⟩ kE.c.c.c.c.c rH ?_
 rintro ⟨i, ys, T1⟩ ⟨⟨hi1, hi2⟩, hO1, hR1, hS1⟩
 simp only at hi1 hi2 hO1 hR1 hS1 ⊢
 have hlen := hR1.length
 refine .seq<|.sr<|.mo rfl<|.mo rfl<|.q .lss<|.zn<|.cond rfl (λ h1 => ?_) λ h1 => ?_
 have hib : i < b := by simp at h1; omega
 refine .kn<|.seq<|.block<|.sr<|.mo rfl<|.az rfl<|.block<|.loop (X := Nat × List Tpl × Seg) (λ y => (a <= y.1 /\ y.1 <= i) /\ OS 151 7 Tpl.enc v y.2.1 y.2.2 /\ RP a b xs y.2.1 /\ Ins (ltc c) y.2.1 a y.1 (i + 1)) (λ y => [(0, v), (1, iN a), (2, iN b), (3, .func (.func f) #[] caps.toArray), (8, iN i), (9, iN y.1)]) (λ y => [y.2.2]) (λ y => y.1) (i, ys, T1) ⟨⟨by simp only; omega, Nat.le_refl _⟩, hO1, hR1, hS1.ins⟩ kE.c.c.c.c.c.c rH ?_
 rintro ⟨j, zs, T2⟩ ⟨⟨hj1, hj2⟩, hO2, hR2, hI2⟩
 simp only at hj1 hj2 hO2 hR2 hI2 ⊢
 have hlen2 := hR2.length
 refine .seq<|.seq<|.region_tail 14 mixed (by kernel_rfl) ?_
 conv => arg 6; dsimp only [List.take]
 refine .mo rfl<|.mo rfl<|.q .gtr<|.mo rfl<|.split (t := 21) rfl (λ g4_3 => ?_) (λ g4_3 => ?_)
 have haj : a < j := by have := odt g4_3; omega
 obtain ⟨x, hx⟩ : ∃ x, zs[j]? = some x := ⟨_, gge (by omega)⟩
 obtain ⟨y, hy⟩ : ∃ x, zs[j - 1]? = some x := ⟨_, gge (by omega)⟩
 have okx := hok x (hR2.perm.mem_iff.1 (mog hx))
 have oky := hok y (hR2.perm.mem_iff.1 (mog hy))
 refine .gT g4_3<|.mo rfl<|.gT g4_3<|.mo rfl<|.gT g4_3<|.mo rfl<|.gT g4_3 ?_
 refine .indexO j hO2 hx (λ p25 => ?_)
 refine .gT g4_3<|.q (.loadA rfl)<|.gT g4_3<|.mo rfl<|.gT g4_3<|.mo rfl<|.gT g4_3<|.ia (j - 1) .sub<|.gT g4_3 ?_
 refine .indexO (j - 1) hO2 hy (λ p30 => ?_)
 refine .gT g4_3<|.q (.loadA rfl)<|.nil<|.gT g4_3<|.callRV (first := []) (captured := caps) (vs := [(λ t : Tpl => Value.agg t.enc.toArray) x, (λ t : Tpl => Value.agg t.enc.toArray) y]) (hf x y okx oky _ (λ b o hb => .inl hb)) (λ u hu => ?_)
 subst hu
 refine .gT g4_3<|.q .lss<|.q (.pickTh g4_3)<|.zn<|.cond rfl (λ h2 => ?_) λ h2 => ?_
 refine .kn<|.seq<|.block<|.region_all [15, 17] mixed<|.tO 0 rfl .move<|.tO 1 rfl .move<|.tK 2 rfl .move<|.tK 3 rfl .move<|.take 4 rfl (.i64 ((j - 1 : Nat) : Int) .sub ⟨by omega, by omega, by omega⟩) (by kernel_rfl)<|.tO 5 rfl .move<|.tO 6 rfl .move<|.takeO 7 rfl (.i64 ((j - 1 : Nat) : Int) .sub ⟨by omega, by omega, by omega⟩) (by kernel_rfl) ?_
 refine RA.indexO 8 rfl (j - 1) hO2 hy rfl rfl rfl (by kernel_rfl) (λ p45 => ?_)
 refine .tO 9 rfl (.loadA rfl)<|.tO 10 rfl .move<|.tO 11 rfl .move ?_
 refine RA.indexO 12 rfl (j) hO2 hx rfl rfl rfl (by kernel_rfl) (λ p49 => ?_)
 refine .tO 13 rfl (.loadA rfl) ?_
 refine RA.indexO 14 rfl (j) hO2 hx rfl rfl rfl (by kernel_rfl) (λ p51 => ?_)
 refine .sT 15 rfl<|.storeO (j) hO2 hx y (λ Tsa hsa => ?_) (hO2.one _ (mog hy))
 refine .nil (Next.mod rfl ?_)
 refine RA.indexO 16 rfl (j - 1) hO2 hy rfl rfl rfl (by kernel_rfl) (λ p52 => ?_)
 refine .sT 17 rfl ?_
 obtain ⟨zz, hzz⟩ : ∃ u, (zs.set (j) y)[j - 1]? = some u := ⟨_, gge (by rw [List.length_set]; exact (List.getElem?_eq_some_iff.1 hy).1)⟩
 refine .storeO (j - 1) hsa hzz x (λ Tsw hsw => ?_) (hO2.one _ (mog hx))
 rw [<- swp_eq hx hy] at hsw
 refine .nil<|Next.mod rfl<|RA.nil (by kernel_rfl)<|blkQ_n<|seqQ_n<|.region<|.mo rfl<|.ia (j - 1) .sub<|.ag rfl<|.nil ?_
 ·have hlt : ltc c x y = true := h2
  exact loopQ_i (j - 1, swp zs j (j - 1), Tsw) ⟨⟨by simp only; omega, by simp only; omega⟩, hsw, hR2.step (by omega) (by omega) (by omega) (by omega) (by omega), hI2.step so (by omega) (by omega) haj hx hy hlt⟩ (by simp only; omega) kE.c.c.c.c.c.c rH
 refine .exit<|seqQ_x<|loopQ_x<|blkQ_x<|blkQ_n<|seqQ_n<|.region<|.mo rfl<|.ia (i + 1) .add<|.ag rfl<|.nil ?_
 ·refine loopQ_i (i + 1, zs, T2) ⟨⟨by simp only; omega, .inl (by simp only; omega)⟩, hO2, hR2, hI2.done so (by omega) (by omega) ?_⟩ (by simp only; omega) kE.c.c.c.c.c rH
  exact .inr ⟨haj, λ u w hu hw => by
   rw [hy] at hu; rw [hx] at hw; cases hu; cases hw; exact h2⟩
 refine .gF g4_3<|.gF g4_3<|.gF g4_3<|.gF g4_3<|.gF g4_3<|.gF g4_3<|.gF g4_3<|.gF g4_3<|.gF g4_3<|.gF g4_3<|.nil<|.gF g4_3<|.gF g4_3<|.q (.pickFh g4_3)<|.zn<|.condF<|.exit<|seqQ_x<|loopQ_x<|blkQ_x<|blkQ_n<|seqQ_n<|.region<|.mo rfl<|.ia (i + 1) .add<|.ag rfl<|.nil ?_
 ·refine loopQ_i (i + 1, zs, T2) ⟨⟨by simp only; omega, .inl (by simp only; omega)⟩, hO2, hR2, hI2.done so (by omega) (by omega) ?_⟩ (by simp only; omega) kE.c.c.c.c.c rH
  exact .inl (by have := odf g4_3; omega)
 refine .exit<|seqQ_x<|loopQ_x<|blkQ_x<|retQ_n _ .none rH ?_
 ·have hge : b <= i := by simp at h1; omega
  exact ⟨_, rfl, rfl, ys, hO1, hR1, λ j k h1 h2 h3 => hS1 j k h1 h2 (by omega)⟩
theorem sift_spec (v : Value) (xs : List Tpl) (T : Seg) (lo hi fi : Nat) (R : Rds) (h : OS 151 7 Tpl.enc v xs T) (hlo : lo <= hi) (hb : fi + hi <= xs.length) (hl : xs.length <= 1000000000) (hf : FnC prog f caps R (λ t : Tpl => Value.agg t.enc.toArray) c ok) (hok : ∀ x ∈ xs, ok x) (so : SO (ltc c)) :
    Spec prog 269 [v, .int .i64 lo, .int .i64 hi, .int .i64 fi, .func (.func f) #[] caps.toArray] R [T] λ u H' => ∃ T', H' = [T'] /\ u = .tuple #[] /\ ∃ ys, OS 151 7 Tpl.enc v ys T' /\ RP fi (fi + hi) xs ys /\
      (HoleF (λ x y => ltc c y x) (xs.drop fi) hi lo lo -> HeapF (λ x y => ltc c y x) (ys.drop fi) hi lo) := by
  have iv := h.oneCell
  have so' := so.rev
  refine Spec.body Tryz.func269 rfl Tryz.results269 Tryz.ntmps269 rfl<|.sr<|.mo rfl<|.az rfl<|.block<|.loop (X := Nat × List Tpl × Seg) (λ y => (lo <= y.1 /\ y.1 <= hi) /\ OS 151 7 Tpl.enc v y.2.1 y.2.2 /\ RP fi (fi + hi) xs y.2.1 /\ (HoleF (λ x y => ltc c y x) (xs.drop fi) hi lo lo -> HoleF (λ x y => ltc c y x) (y.2.1.drop fi) hi lo y.1)) (λ y => [(0, v), (2, iN hi), (3, iN fi), (4, .func (.func f) #[] caps.toArray), (10, iN y.1)]) (λ y => [y.2.2]) (λ y => hi - y.1) (lo, xs, T) ⟨⟨Nat.le_refl _, hlo⟩, h, .refl _, λ h => h⟩ kE.c.c.c.c.c rH ?_
  rintro ⟨r, ys, T1⟩ ⟨⟨hr1, hr2⟩, hO1, hR1, hH1⟩
  simp only at hr1 hr2 hO1 hR1 hH1 ⊢
  have hlen := hR1.length
  have hld : (ys.drop fi).length = ys.length - fi := List.length_drop
  refine .block<|.sr<|.mo rfl<|.ia (2 * r) .mul<|.ia (2 * r + 1) .add<|.ag rfl<|.zs<|.sr<|.mo rfl<|.mo rfl<|.q .geq<|.zn<|.cond rfl (λ h1 => ?_) λ h1 => ?_
  have hge : hi <= 2 * r + 1 := by have := odt h1; omega
  refine .exit (seqQ_x (blkQ_y (loopQ_x (blkQ_x ?_))))
  refine retQ_n _ .none rH ?_
  · refine ⟨_, rfl, rfl, ys, hO1, hR1, λ hh => (hH1 hh).stop λ c' h0 hc hp u w hu hw => ?_⟩
    (simp only [par] at hp; omega)
  have hlt : 2 * r + 1 < hi := by have := odf h1; omega
  obtain ⟨y0, hy0⟩ : ∃ y, ys[fi + r]? = some y := ⟨_, gge (by omega)⟩
  obtain ⟨x1, hx1⟩ : ∃ y, ys[fi + (2 * r + 1)]? = some y := ⟨_, gge (by omega)⟩
  have ok0 := hok y0 (hR1.perm.mem_iff.1 (mog hy0))
  have ok1 := hok x1 (hR1.perm.mem_iff.1 (mog hx1))
  refine .kn<|.seq ?_
  refine Tri.cut (X := Nat × Tpl) (λ z => 0 < z.1 /\ z.1 < hi /\ par z.1 = r /\ ys[fi + z.1]? = some z.2 /\ ok z.2 /\ ∀ c' u, 0 < c' -> c' < hi -> par c' = r -> ys[fi + c']? = some u -> ltc c z.2 u = false) (λ z => [(0, v), (2, iN hi), (3, iN fi), (4, .func (.func f) #[] caps.toArray), (10, iN r), (11, iN z.1)]) (λ z => [T1]) ?_ ?_
  refine .seq<|.region_tail 19 mixed (by kernel_rfl) ?_
  conv => arg 6; dsimp only [List.take]
  refine .mo rfl<|.ia (2 * r + 2) .add<|.mo rfl<|.q .lss<|.mo rfl<|.split (t := 23) rfl (λ g3_4 => ?_) (λ g3_4 => ?_)
  have hlt2 : 2 * r + 2 < hi := by have := odt g3_4; omega
  obtain ⟨x2, hx2⟩ : ∃ y, ys[fi + (2 * r + 2)]? = some y := ⟨_, gge (by omega)⟩
  have ok2 := hok x2 (hR1.perm.mem_iff.1 (mog hx2))
  refine .gT g3_4<|.mo rfl<|.gT g3_4<|.mo rfl<|.gT g3_4<|.mo rfl<|.gT g3_4<|.mo rfl<|.gT g3_4<|.ia (fi + (2 * r + 1)) .add<|.gT g3_4 ?_
  refine .indexO (fi + (2 * r + 1)) hO1 hx1 (λ p29 => ?_)
  refine .gT g3_4<|.q (.loadA rfl)<|.gT g3_4<|.mo rfl<|.gT g3_4<|.mo rfl<|.gT g3_4<|.mo rfl<|.gT g3_4<|.ia (fi + (2 * r + 1)) .add<|.gT g3_4<|.ia (fi + (2 * r + 2)) .add<|.gT g3_4 ?_
  refine .indexO (fi + (2 * r + 2)) hO1 hx2 (λ p36 => ?_)
  refine .gT g3_4<|.q (.loadA rfl)<|.nil<|.gT g3_4<|.callRV (first := []) (captured := caps) (vs := [(λ t : Tpl => Value.agg t.enc.toArray) x1, (λ t : Tpl => Value.agg t.enc.toArray) x2]) (hf x1 x2 ok1 ok2 _ (λ b o hb => .inl hb)) (λ u hu => ?_)
  subst hu
  refine .gT g3_4<|.q .lss<|.q (.pickTh g3_4)<|.zn<|.cond rfl (λ h2 => ?_) λ h2 => ?_
  have hminA : ∀ c' u, 0 < c' -> c' < hi -> par c' = r -> ys[fi + c']? = some u -> ltc c x2 u = false := λ c' u h0 hc hp hu => by
    have : c' = 2 * r + 1 \/ c' = 2 * r + 2 := by simp only [par] at hp; omega
    rcases this with rfl | rfl
    · rw [hx1] at hu; cases hu; exact so.asym h2
    · rw [hx2] at hu; cases hu; exact so.irr _
  refine .region<|.mo rfl<|.ia (2 * r + 2) .add<|.ag rfl<|.nil ?_
  · first
      | exact joinQ_n (2 * r + 2, x2) ⟨by simp only; omega, hlt2, by simp only [par]; omega, hx2, ok2, hminA⟩ kE.c.c.c.c.c.c rH
      | exact joinQ_n (2 * r + 1, x1) ⟨by simp only; omega, hlt, by simp only [par]; omega, hx1, ok1, hminB⟩ kE.c.c.c.c.c.c rH
      | (have hminB : ∀ c' u, 0 < c' -> c' < hi -> par c' = r -> ys[fi + c']? = some u -> ltc c x1 u = false := λ c' u h0 hc hp hu => by
           have : c' = 2 * r + 1 \/ c' = 2 * r + 2 := by simp only [par] at hp; omega
           rcases this with rfl | rfl
           · rw [hx1] at hu; cases hu; exact so.irr _
           · rw [hx2] at hu; cases hu; exact h2
         exact joinQ_n (2 * r + 1, x1) ⟨by simp only; omega, hlt, by simp only [par]; omega, hx1, ok1, hminB⟩ kE.c.c.c.c.c.c rH)
  refine .skip ?_
  · first
      | exact joinQ_n (2 * r + 2, x2) ⟨by simp only; omega, hlt2, by simp only [par]; omega, hx2, ok2, hminA⟩ kE.c.c.c.c.c.c rH
      | exact joinQ_n (2 * r + 1, x1) ⟨by simp only; omega, hlt, by simp only [par]; omega, hx1, ok1, hminB⟩ kE.c.c.c.c.c.c rH
      | (have hminB : ∀ c' u, 0 < c' -> c' < hi -> par c' = r -> ys[fi + c']? = some u -> ltc c x1 u = false := λ c' u h0 hc hp hu => by
           have : c' = 2 * r + 1 \/ c' = 2 * r + 2 := by simp only [par] at hp; omega
           rcases this with rfl | rfl
           · rw [hx1] at hu; cases hu; exact so.irr _
           · rw [hx2] at hu; cases hu; exact h2
         exact joinQ_n (2 * r + 1, x1) ⟨by simp only; omega, hlt, by simp only [par]; omega, hx1, ok1, hminB⟩ kE.c.c.c.c.c.c rH)
  have hminB : ∀ c' u, 0 < c' -> c' < hi -> par c' = r -> ys[fi + c']? = some u -> ltc c x1 u = false := λ c' u h0 hc hp hu => by
    have : c' = 2 * r + 1 := by have := odf g3_4; simp only [par] at hp; omega
    subst this
    rw [hx1] at hu; cases hu; exact so.irr _
  refine .gF g3_4<|.gF g3_4<|.gF g3_4<|.gF g3_4<|.gF g3_4<|.gF g3_4<|.gF g3_4<|.gF g3_4<|.gF g3_4<|.gF g3_4<|.gF g3_4<|.gF g3_4<|.gF g3_4<|.gF g3_4<|.nil<|.gF g3_4<|.gF g3_4<|.q (.pickFh g3_4)<|.zn<|.condF<|.skip ?_
  · first
      | exact joinQ_n (2 * r + 2, x2) ⟨by simp only; omega, hlt2, by simp only [par]; omega, hx2, ok2, hminA⟩ kE.c.c.c.c.c.c rH
      | exact joinQ_n (2 * r + 1, x1) ⟨by simp only; omega, hlt, by simp only [par]; omega, hx1, ok1, hminB⟩ kE.c.c.c.c.c.c rH
      | (have hminB : ∀ c' u, 0 < c' -> c' < hi -> par c' = r -> ys[fi + c']? = some u -> ltc c x1 u = false := λ c' u h0 hc hp hu => by
           have : c' = 2 * r + 1 \/ c' = 2 * r + 2 := by simp only [par] at hp; omega
           rcases this with rfl | rfl
           · rw [hx1] at hu; cases hu; exact so.irr _
           · rw [hx2] at hu; cases hu; exact h2
         exact joinQ_n (2 * r + 1, x1) ⟨by simp only; omega, hlt, by simp only [par]; omega, hx1, ok1, hminB⟩ kE.c.c.c.c.c.c rH)
  intro y hy
  obtain ⟨j, x⟩ := y
  obtain ⟨hj0, hjn, hjp, hx, okx, hmin⟩ := hy
  simp only at hj0 hjn hjp hx okx hmin ⊢
  have hij : r < j := hjp ▸ par_lt hj0
  refine seqQ_n<|.seq<|.seq<|.region_tail 13 mixed (by kernel_rfl) ?_
  conv => arg 6; dsimp only [List.take]
  refine .mo rfl<|.mo rfl<|.mo rfl<|.mo rfl<|.ia (fi + r) .add ?_
  refine .indexO (fi + r) hO1 hy0 (λ p48 => ?_)
  refine .q (.loadA rfl)<|.mo rfl<|.mo rfl<|.mo rfl<|.ia (fi + j) .add ?_
  refine .indexO (fi + j) hO1 hx (λ p54 => ?_)
  refine .q (.loadA rfl)<|.nil<|.callRV (first := []) (captured := caps) (vs := [(λ t : Tpl => Value.agg t.enc.toArray) y0, (λ t : Tpl => Value.agg t.enc.toArray) x]) (hf y0 x ok0 okx _ (λ b o hb => .inl hb)) (λ u hu => ?_)
  subst hu
  refine .q .lss<|.q .not<|.zn<|.cond rfl (λ h3 => ?_) λ h3 => ?_
  refine .ret (seqQ_r (blkQ_r (loopQ_r (blkQ_r (retQ_r _ .none rH ?_)))))
  · refine ⟨_, rfl, rfl, ys, hO1, hR1, λ hh => (hH1 hh).stop λ c' h0 hc hp u w hu hw => ?_⟩
    (rw [drop_get] at hu hw
     rw [hy0] at hu; cases hu
     have h3' : (!ltc c y0 x) = true := h3
     exact so'.ntr _ _ _ (hmin c' w h0 hc hp hw) (by simpa using h3'))
  refine .kn<|.seq<|.region_all [21, 23] mixed<|.tO 0 rfl .move<|.tO 1 rfl .move<|.tO 2 rfl .move<|.takeO 3 rfl (.i64 ((fi + r : Nat) : Int) .add ⟨by omega, by omega, by omega⟩) (by kernel_rfl)<|.tK 4 rfl .move<|.tK 5 rfl .move<|.tK 6 rfl .move<|.take 7 rfl (.i64 ((fi + j : Nat) : Int) .add ⟨by omega, by omega, by omega⟩) (by kernel_rfl)<|.tO 8 rfl .move<|.tO 9 rfl .move<|.tO 10 rfl .move<|.takeO 11 rfl (.i64 ((fi + j : Nat) : Int) .add ⟨by omega, by omega, by omega⟩) (by kernel_rfl) ?_
  refine RA.indexO 12 rfl (fi + j) hO1 hx rfl rfl rfl (by kernel_rfl) (λ p71 => ?_)
  refine .tO 13 rfl (.loadA rfl)<|.tO 14 rfl .move<|.tO 15 rfl .move<|.tO 16 rfl .move<|.takeO 17 rfl (.i64 ((fi + r : Nat) : Int) .add ⟨by omega, by omega, by omega⟩) (by kernel_rfl) ?_
  refine RA.indexO 18 rfl (fi + r) hO1 hy0 rfl rfl rfl (by kernel_rfl) (λ p77 => ?_)
  refine .tO 19 rfl (.loadA rfl) ?_
  refine RA.indexO 20 rfl (fi + r) hO1 hy0 rfl rfl rfl (by kernel_rfl) (λ p79 => ?_)
  refine .sT 21 rfl<|.storeO (fi + r) hO1 hy0 x (λ Tsa hsa => ?_) (hO1.one _ (mog hx))
  refine .nil (Next.mod rfl ?_)
  refine RA.indexO 22 rfl (fi + j) hO1 hx rfl rfl rfl (by kernel_rfl) (λ p80 => ?_)
  refine .sT 23 rfl ?_
  obtain ⟨zz, hzz⟩ : ∃ u, (ys.set (fi + r) x)[fi + j]? = some u := ⟨_, gge (by rw [List.length_set]; exact (List.getElem?_eq_some_iff.1 hx).1)⟩
  refine .storeO (fi + j) hsa hzz y0 (λ Tsw hsw => ?_) (hO1.one _ (mog hy0))
  rw [<- swp_eq hy0 hx] at hsw
  refine .nil<|Next.mod rfl<|RA.nil (by kernel_rfl)<|seqQ_n<|.region<|.mo rfl<|.ag rfl<|.nil<|blkQ_n ?_
  · have hlt3 : ltc c y0 x = true := by
      have h3' : (!ltc c y0 x) = false := h3
      simpa using h3'
    have hds := drop_swp (xs := ys) (f := fi) (i := r) (j := j) (by omega) (by omega)
    exact loopQ_i (j, swp ys (fi + r) (fi + j), Tsw) ⟨⟨by simp only; omega, by simp only; omega⟩, hsw, hR1.step (by omega) (by omega) (by omega) (by omega) (by omega), λ hh => by
      simp only
      rw [hds]
      exact (hH1 hh).step so' hr1 hj0 hjn (by omega) hjp (by rw [drop_get]; exact hx) (by rw [drop_get]; exact hy0) hlt3 λ c' z h1 h2 h3 h4 => hmin c' z h1 h2 h3 (by rw [<- drop_get]; exact h4)⟩ (by simp only; omega) kE.c.c.c.c.c rH
end
end STP
namespace STP
section
variable {c : Tpl -> Tpl -> Int} {ok : Tpl -> Prop} {f : FuncId} {caps : List Value} [e : Ent prog f]
theorem heap_spec (v : Value) (xs : List Tpl) (T : Seg) (a b : Nat) (R : Rds) (h : OS 151 7 Tpl.enc v xs T) (hab : a <= b) (hb : b <= xs.length) (hl : xs.length <= 1000000000) (hf : FnC prog f caps R (λ t : Tpl => Value.agg t.enc.toArray) c ok) (hok : ∀ x ∈ xs, ok x) (so : SO (ltc c)) :
  Spec prog 236 [v, .int .i64 a, .int .i64 b, .func (.func f) #[] caps.toArray] R [T] λ u H' => ∃ T', H' = [T'] /\ u = .tuple #[] /\ ∃ ys, OS 151 7 Tpl.enc v ys T' /\ RP a b xs ys /\ SR (ltc c) ys a b := by
 have iv := h.oneCell
 have so' := so.rev
 obtain ⟨n, hn⟩ : ∃ n, b = a + n := ⟨b - a, by omega⟩
 subst hn
 refine Spec.body Tryz.func236 rfl Tryz.results236 Tryz.ntmps236 rfl<|.sr<|.mo rfl<|.ag rfl<|.z<|.ag rfl<|.z<|.mo rfl<|.mo rfl<|.ia (n) .sub<|.ag rfl<|.zs<|.sr<|.mo rfl<|.q (.i64 ((n : Int) - 1) .sub ⟨rfl, by omega, by omega⟩)<|.q (.i64 (((n - 1) / 2 : Nat) : Int) .quo ⟨tdiv2, by omega, by omega⟩)<|.az rfl<|.block<|.loop (X := Nat × Int × List Tpl × Seg) (λ y => (y.2.1 = (y.1 : Int) - 1 /\ y.1 <= n + 1) /\ OS 151 7 Tpl.enc v y.2.2.1 y.2.2.2 /\ RP a (a + n) xs y.2.2.1 /\ HeapF (λ x y => ltc c y x) (y.2.2.1.drop a) n y.1) (λ y => [(0, v), (3, .func (.func f) #[] caps.toArray), (8, iN a), (9, .int .i64 ((0 : Nat) : Int)), (10, iN n), (11, .int .i64 y.2.1)]) (λ y => [y.2.2.2]) (λ y => y.1) ((n - 1) / 2 + 1, (((n - 1) / 2 : Nat) : Int), xs, T) ⟨⟨by simp only; omega, by simp only; omega⟩, h, .refl _, λ k h0 hk hp => by simp only [par] at hp; omega⟩ kE.c.c.c.c.c.c rH ?_
 rintro ⟨m, z, ys, T1⟩ ⟨⟨hz, hm⟩, hO1, hR1, hH1⟩
 simp only at hz hm hO1 hR1 hH1 ⊢
 have hlen := hR1.length
 refine .seq<|.sr<|.mo rfl<|.q .geq<|.zn<|.cond rfl (λ h1 => ?_) λ h1 => ?_
 have hz0 : 0 <= z := odt h1
 obtain ⟨k, rfl⟩ : ∃ k, m = k + 1 := ⟨m - 1, by omega⟩
 obtain rfl : z = (k : Int) := by omega
 refine .kn<|.seq<|.block<|.region<|.mo rfl<|.mo rfl<|.mo rfl<|.mo rfl<|.mo rfl<|.callM (sift_spec (c := c) (ok := ok) v ys T1 k n a _ hO1 (by omega) (by omega) (by omega) hf (λ x hx => hok x (hR1.perm.mem_iff.1 hx)) so) (λ u T2 hu => ?_)
 obtain ⟨rfl, zs, hO2, hR2, hH2⟩ := hu
 refine .nil<|blkQ_n<|seqQ_n<|.region<|.mo rfl<|.q (.i64 ((k : Int) - 1) .sub ⟨rfl, by omega, by omega⟩)<|.ag rfl<|.nil ?_
 ·exact loopQ_i (k, (k : Int) - 1, zs, T2) ⟨⟨rfl, by simp only; omega⟩, hO2, hR1.trans hR2, hH2 hH1.hole⟩ (by simp only; omega) kE.c.c.c.c.c.c rH
 have hm0 : m = 0 := by have := odf h1; omega
 subst hm0
 refine .exit<|seqQ_x<|loopQ_x<|blkQ_x<|seqQ_n<|.sr<|.mo rfl<|.q (.i64 ((n : Int) - 1) .sub ⟨rfl, by omega, by omega⟩)<|.az rfl<|.block<|.loop (X := Nat × Int × List Tpl × Seg) (λ y => (y.2.1 = (y.1 : Int) - 1 /\ y.1 <= n) /\ OS 151 7 Tpl.enc v y.2.2.1 y.2.2.2 /\ RP a (a + n) xs y.2.2.1 /\ HeapF (λ x y => ltc c y x) (y.2.2.1.drop a) y.1 0 /\ OX (ltc c) y.2.2.1 a (a + n) a (a + y.1)) (λ y => [(0, v), (3, .func (.func f) #[] caps.toArray), (8, iN a), (9, .int .i64 ((0 : Nat) : Int)), (10, iN n), (12, .int .i64 y.2.1)]) (λ y => [y.2.2.2]) (λ y => y.1) (n, (n : Int) - 1, ys, T1) ⟨⟨rfl, Nat.le_refl _⟩, hO1, hR1, hH1, OX.start⟩ kE.c.c.c.c.c.c rH ?_
 rintro ⟨m, z2, zs, T2⟩ ⟨⟨hz2, hm2⟩, hO2, hR2, hH2, hX2⟩
 simp only at hz2 hm2 hO2 hR2 hH2 hX2 ⊢
 have hlen2 := hR2.length
 refine .seq<|.sr<|.mo rfl<|.q .geq<|.zn<|.cond rfl (λ h2 => ?_) λ h2 => ?_
 have hz0 : 0 <= z2 := odt h2
 obtain ⟨k, rfl⟩ : ∃ k, m = k + 1 := ⟨m - 1, by omega⟩
 obtain rfl : z2 = (k : Int) := by omega
 obtain ⟨x, hx⟩ : ∃ x, zs[a]? = some x := ⟨_, gge (by omega)⟩
 obtain ⟨y, hy⟩ : ∃ x, zs[a + k]? = some x := ⟨_, gge (by omega)⟩
 refine .kn<|.seq<|.block<|.seq<|.region_all [17, 19] mixed<|.tO 0 rfl .move<|.tO 1 rfl .move<|.tK 2 rfl .move<|.tK 3 rfl .move<|.tK 4 rfl .move<|.take 5 rfl (.i64 ((a + k : Nat) : Int) .add ⟨by omega, by omega, by omega⟩) (by kernel_rfl)<|.tO 6 rfl .move<|.tO 7 rfl .move<|.tO 8 rfl .move<|.takeO 9 rfl (.i64 ((a + k : Nat) : Int) .add ⟨by omega, by omega, by omega⟩) (by kernel_rfl) ?_
 refine RA.indexO 10 rfl (a + k) hO2 hy rfl rfl rfl (by kernel_rfl) (λ p46 => ?_)
 refine .tO 11 rfl (.loadA rfl)<|.tO 12 rfl .move<|.tO 13 rfl .move ?_
 refine RA.indexO 14 rfl (a) hO2 hx rfl rfl rfl (by kernel_rfl) (λ p50 => ?_)
 refine .tO 15 rfl (.loadA rfl) ?_
 refine RA.indexO 16 rfl (a) hO2 hx rfl rfl rfl (by kernel_rfl) (λ p52 => ?_)
 refine .sT 17 rfl<|.storeO (a) hO2 hx y (λ Tsa hsa => ?_) (hO2.one _ (mog hy))
 refine .nil (Next.mod rfl ?_)
 refine RA.indexO 18 rfl (a + k) hO2 hy rfl rfl rfl (by kernel_rfl) (λ p53 => ?_)
 refine .sT 19 rfl ?_
 obtain ⟨zz, hzz⟩ : ∃ u, (zs.set (a) y)[a + k]? = some u := ⟨_, gge (by rw [List.length_set]; exact (List.getElem?_eq_some_iff.1 hy).1)⟩
 refine .storeO (a + k) hsa hzz x (λ Tsw hsw => ?_) (hO2.one _ (mog hx))
 rw [<- swp_eq hx hy] at hsw
 refine .nil<|Next.mod rfl<|RA.nil (by kernel_rfl)<|seqQ_n<|.region<|.mo rfl<|.mo rfl<|.mo rfl<|.mo rfl<|.mo rfl ?_
 have hds := drop_swp (xs := zs) (f := a) (i := 0) (j := k) (by omega) (by omega)
 have hR3 := hR2.step (i := a) (j := a + k) (by omega) (by omega) (by omega) (by omega) (by omega)
 have hX3 := OX.last (m := a + k) (x := x) hX2 (by omega) (by omega) (by omega) hx (λ j w h1 h3 hw => HeapF.top so' hH2 (by rw [List.length_drop]; omega) (x := x) (by rw [drop_get]; exact hx) (j - a) w (by omega) (by rw [drop_get, show a + (j - a) = j by omega]; exact hw))
 refine .callM (sift_spec (c := c) (ok := ok) v (swp zs a (a + k)) Tsw 0 k a _ hsw (by omega) (by rw [swp_length]; omega) (by rw [swp_length]; omega) hf (λ x hx => hok x (hR3.perm.mem_iff.1 hx)) so) (λ u T3 hu => ?_)
 obtain ⟨rfl, ws, hO3, hR4, hH4⟩ := hu
 refine .nil<|blkQ_n<|seqQ_n<|.region<|.mo rfl<|.q (.i64 ((k : Int) - 1) .sub ⟨rfl, by omega, by omega⟩)<|.ag rfl<|.nil ?_
 ·exact loopQ_i (k, (k : Int) - 1, ws, T3) ⟨⟨rfl, by simp only; omega⟩, hO3, hR3.trans (hR4.mono (Nat.le_refl a) (by omega) (by rw [swp_length]; omega)), hH4 (hH2.hole0 λ j h0 hj => by
   rw [Nat.add_zero] at hds
   rw [hds, swp_get (by rw [List.length_drop]; omega) (by rw [List.length_drop]; omega), if_neg (by omega), if_neg (by omega)]), hX3.rp hR4 (Nat.le_refl _) (by omega)⟩ (by simp only; omega) kE.c.c.c.c.c.c rH
 refine .exit<|seqQ_x<|loopQ_x<|blkQ_x<|retQ_n _ .none rH ?_
 ·have hm0 : m = 0 := by have := odf h2; omega
  subst hm0
  exact ⟨_, rfl, rfl, zs, hO2, hR2, hX2.sorted λ i j h1 h2 h3 => by omega⟩
theorem reverse_spec (v : Value) (xs : List Tpl) (T : Seg) (a b : Nat) (R : Rds) (fv : Value) (hfv : One fv) (h : OS 151 7 Tpl.enc v xs T) (hab : a < b) (hb : b <= xs.length) (hl : xs.length <= 1000000000) :
  Spec prog 239 [v, .int .i64 a, .int .i64 b, fv] R [T] λ u H' => ∃ T', H' = [T'] /\ u = .tuple #[] /\ ∃ ys, OS 151 7 Tpl.enc v ys T' /\ RP a b xs ys := by
 have iv := h.oneCell
 refine Spec.body Tryz.func239 rfl Tryz.results239 Tryz.ntmps239 rfl<|.sr<|.mo rfl<|.ag rfl<|.z<|.mo rfl<|.ia (b - 1) .sub<|.az rfl<|.block<|.loop (X := Nat × Nat × List Tpl × Seg) (λ y => (a <= y.1 /\ y.1 <= y.2.1 + 1 /\ y.2.1 < b) /\ OS 151 7 Tpl.enc v y.2.2.1 y.2.2.2 /\ RP a b xs y.2.2.1) (λ y => [(0, v), (8, iN y.1), (9, iN y.2.1)]) (λ y => [y.2.2.2]) (λ y => b - y.1) (a, b - 1, xs, T) ⟨⟨Nat.le_refl _, by simp only; omega, by simp only; omega⟩, h, .refl _⟩ kE.c.c.c rH ?_
 rintro ⟨i, j, ys, T1⟩ ⟨⟨hi, hij, hj⟩, hO1, hR1⟩
 simp only at hi hij hj hO1 hR1 ⊢
 have hlen := hR1.length
 refine .seq<|.sr<|.mo rfl<|.mo rfl<|.q .lss<|.zn<|.cond rfl (λ h1 => ?_) λ h1 => ?_
 have hlt : i < j := lt_i h1
 obtain ⟨x, hx⟩ : ∃ x, ys[i]? = some x := ⟨_, gge (by omega)⟩
 obtain ⟨y, hy⟩ : ∃ x, ys[j]? = some x := ⟨_, gge (by omega)⟩
 refine .kn<|.block<|.seq<|.region_all [13, 15] mixed<|.tO 0 rfl .move<|.tO 1 rfl .move<|.tK 2 rfl .move<|.tK 3 rfl .move<|.tO 4 rfl .move<|.tO 5 rfl .move ?_
 refine RA.indexO 6 rfl (j) hO1 hy rfl rfl rfl (by kernel_rfl) (λ p22 => ?_)
 refine .tO 7 rfl (.loadA rfl)<|.tO 8 rfl .move<|.tO 9 rfl .move ?_
 refine RA.indexO 10 rfl (i) hO1 hx rfl rfl rfl (by kernel_rfl) (λ p26 => ?_)
 refine .tO 11 rfl (.loadA rfl) ?_
 refine RA.indexO 12 rfl (i) hO1 hx rfl rfl rfl (by kernel_rfl) (λ p28 => ?_)
 refine .sT 13 rfl<|.storeO (i) hO1 hx y (λ Tsa hsa => ?_) (hO1.one _ (mog hy))
 refine .nil (Next.mod rfl ?_)
 refine RA.indexO 14 rfl (j) hO1 hy rfl rfl rfl (by kernel_rfl) (λ p29 => ?_)
 refine .sT 15 rfl ?_
 obtain ⟨zz, hzz⟩ : ∃ u, (ys.set (i) y)[j]? = some u := ⟨_, gge (by rw [List.length_set]; exact (List.getElem?_eq_some_iff.1 hy).1)⟩
 refine .storeO (j) hsa hzz x (λ Tsw hsw => ?_) (hO1.one _ (mog hx))
 rw [<- swp_eq hx hy] at hsw
 refine .nil<|Next.mod rfl<|RA.nil (by kernel_rfl)<|seqQ_n<|.sr<|.mo rfl<|.ia (i + 1) .add<|.az rfl<|.region<|.mo rfl<|.ia (j - 1) .sub<|.ag rfl<|.nil<|blkQ_n ?_
 ·exact loopQ_i (i + 1, j - 1, swp ys i j, Tsw) ⟨⟨by simp only; omega, by simp only; omega, by simp only; omega⟩, hsw, hR1.step (by omega) (by omega) (by omega) (by omega) (by omega)⟩ (by simp only; omega) kE.c.c.c rH
 refine .exit<|seqQ_x<|loopQ_x<|blkQ_x<|retQ_n _ .none rH ?_
 ·exact ⟨_, rfl, rfl, ys, hO1, hR1⟩
theorem break_spec (v : Value) (xs : List Tpl) (T : Seg) (a b : Nat) (R : Rds) (fv : Value) (hfv : One fv) (h : OS 151 7 Tpl.enc v xs T) (hab : a <= b) (hb : b <= xs.length) (hl : xs.length <= 1000000000) :
  Spec prog 237 [v, .int .i64 a, .int .i64 b, fv] R [T] λ u H' => ∃ T', H' = [T'] /\ u = .tuple #[] /\ ∃ ys, OS 151 7 Tpl.enc v ys T' /\ RP a b xs ys := by
 have iv := h.oneCell
 obtain ⟨n, hn⟩ : ∃ n, b = a + n := ⟨b - a, by omega⟩
 subst hn
 refine Spec.body Tryz.func237 rfl Tryz.results237 Tryz.ntmps237 rfl<|.sr<|.mo rfl<|.mo rfl<|.ia (n) .sub<|.ag rfl<|.z<|.mo rfl<|.q .geq<|.zn<|.cond rfl (λ h1 => ?_) λ h1 => ?_
 have hn8 : 8 <= n := by have := odt h1; omega
 obtain ⟨q, hq⟩ : ∃ q, q = n / 4 := ⟨_, rfl⟩
 refine .sr<|.mo rfl<|.q .convI ?_
 refine .alloc1 (λ b9 => ?_)
 refine .store1 rfl rfl<|.z<|.mo rfl<|.callR (npow_spec n (by omega) (by omega) _) (λ u hu => ?_)
 obtain ⟨md, rfl, hmd1, hmd2⟩ := hu
 refine .ag rfl<|.z<|.mo rfl<|.mo rfl<|.q (.i64 ((q : Nat) : Int) .quo ⟨by rw [hq, Int.tdiv_eq_ediv_of_nonneg (by omega)]; omega, by omega, by omega⟩)<|.ia (q * 2) .mul<|.ia (a + q * 2) .add<|.ia (a + q * 2 - 1) .sub<|.az rfl<|.block<|.loop (X := Nat × Int × List Tpl × Seg) (λ y => (a + q * 2 - 1 <= y.1 /\ y.1 <= a + q * 2 + 2) /\ OS 151 7 Tpl.enc v y.2.2.1 y.2.2.2 /\ RP a (a + n) xs y.2.2.1) (λ y => [(0, v), (1, iN a), (8, iN n), (9, pT b9), (10, .int .u64 (md : Nat)), (11, iN y.1)]) (λ y => [bl b9 [.int .u64 y.2.1] 393, y.2.2.2]) (λ y => a + q * 2 + 2 - y.1) (a + q * 2 - 1, _, xs, T) ⟨⟨Nat.le_refl _, by simp only; omega⟩, h, .refl _⟩ kE.c.c.c.c.c.c rH ?_
 rintro ⟨i, z, ys, T1⟩ ⟨⟨hi1, hi2⟩, hO1, hR1⟩
 simp only at hi1 hi2 hO1 hR1 ⊢
 have hlen := hR1.length
 refine .seq<|.sr<|.mo rfl<|.mo rfl<|.mo rfl<|.q (.i64 ((q : Nat) : Int) .quo ⟨by rw [hq, Int.tdiv_eq_ediv_of_nonneg (by omega)]; omega, by omega, by omega⟩)<|.ia (q * 2) .mul<|.ia (a + q * 2) .add<|.ia (a + q * 2 + 1) .add<|.q .leq<|.zn<|.cond rfl (λ h2 => ?_) λ h2 => ?_
 have hi3 : i <= a + q * 2 + 1 := by have := odt h2; omega
 refine .kn<|.seq<|.block<|.sr<|.callM (rnd_spec b9 z _) (λ u T2 hu => ?_)
 obtain ⟨z', rfl, rfl⟩ := hu
 refine .mo rfl<|.q (Quiet.cast (v' := .int .u64 ((md - 1 : Nat) : Int)) .sub (by rw [wrap_u64_in (by omega) (by omega)]; congr 1; omega)) ?_
 have hal := and_le (z := z') (q := ((md - 1 : Nat) : Int)) (by omega) (by omega)
 obtain ⟨o, ho⟩ : ∃ o : Nat, IntKind.u64.wrap (BitVec.ofInt IntKind.u64.bits z' &&& BitVec.ofInt IntKind.u64.bits ((md - 1 : Nat) : Int)).toNat = (o : Int) := ⟨_, (Int.toNat_of_nonneg hal.1).symm⟩
 refine .q (Quiet.cast (v' := .int .u64 ((o : Nat) : Int)) .andI (by rw [ho])) ?_
 rw [ho] at hal
 refine .q (Quiet.cast (v' := .int .i64 ((o : Nat) : Int)) .convI (by rw [wrap_i64_in (by omega) (by omega)]))<|.ag rfl<|.zs ?_
 refine Tri.cut (X := Nat) (λ p => p < n) (λ p => [(0, v), (1, iN a), (8, iN n), (9, pT b9), (10, .int .u64 (md : Nat)), (11, iN i), (12, iN p)]) (λ _ => [bl b9 [.int .u64 z'] 393, T1]) ?_ ?_
 refine .sr<|.mo rfl<|.mo rfl<|.q .geq<|.zn<|.cond rfl (λ h3 => ?_) λ h3 => ?_
 have ho1 : n <= o := by have := odt h3; omega
 refine .region<|.mo rfl<|.mo rfl<|.ia (o - n) .sub<|.ag rfl<|.nil ?_
 ·exact joinQ_n (o - n) (by omega) kE.c.c.c.c.c.c.c rH
 have ho1 : o < n := by have := odf h3; omega
 refine .skip ?_
 ·exact joinQ_n o (by omega) kE.c.c.c.c.c.c.c rH
 intro y hy
 have hpn : y < n := hy
 obtain ⟨p, rfl⟩ : ∃ p, p = y := ⟨_, rfl⟩
 obtain ⟨x, hx⟩ : ∃ x, ys[i]? = some x := ⟨_, gge (by omega)⟩
 obtain ⟨w, hw⟩ : ∃ x, ys[a + p]? = some x := ⟨_, gge (by omega)⟩
 refine seqQ_n<|.region_all [17, 19] mixed<|.tO 0 rfl .move<|.tO 1 rfl .move<|.tK 2 rfl .move<|.tK 3 rfl .move<|.tK 4 rfl .move<|.take 5 rfl (.i64 ((a + p : Nat) : Int) .add ⟨by omega, by omega, by omega⟩) (by kernel_rfl)<|.tO 6 rfl .move<|.tO 7 rfl .move<|.tO 8 rfl .move<|.takeO 9 rfl (.i64 ((a + p : Nat) : Int) .add ⟨by omega, by omega, by omega⟩) (by kernel_rfl) ?_
 refine RA.indexO 10 rfl (a + p) hO1 hw rfl rfl rfl (by kernel_rfl) (λ p59 => ?_)
 refine .tO 11 rfl (.loadA rfl)<|.tO 12 rfl .move<|.tO 13 rfl .move ?_
 refine RA.indexO 14 rfl (i) hO1 hx rfl rfl rfl (by kernel_rfl) (λ p63 => ?_)
 refine .tO 15 rfl (.loadA rfl) ?_
 refine RA.indexO 16 rfl (i) hO1 hx rfl rfl rfl (by kernel_rfl) (λ p65 => ?_)
 refine .sT 17 rfl<|.storeO (i) hO1 hx w (λ Tsa hsa => ?_) (hO1.one _ (mog hw))
 refine .nil (Next.mod rfl ?_)
 refine RA.indexO 18 rfl (a + p) hO1 hw rfl rfl rfl (by kernel_rfl) (λ p66 => ?_)
 refine .sT 19 rfl ?_
 obtain ⟨zz, hzz⟩ : ∃ u, (ys.set (i) w)[a + p]? = some u := ⟨_, gge (by rw [List.length_set]; exact (List.getElem?_eq_some_iff.1 hw).1)⟩
 refine .storeO (a + p) hsa hzz x (λ Tsw hsw => ?_) (hO1.one _ (mog hx))
 rw [<- swp_eq hx hw] at hsw
 refine .nil<|Next.mod rfl<|RA.nil (by kernel_rfl)<|blkQ_n<|seqQ_n<|.region<|.mo rfl<|.ia (i + 1) .add<|.ag rfl<|.nil ?_
 ·exact loopQ_i (i + 1, z', swp ys i (a + p), Tsw) ⟨⟨by simp only; omega, by simp only; omega⟩, hsw, hR1.step (by omega) (by omega) (by omega) (by omega) (by omega)⟩ (by simp only; omega) kE.c.c.c.c.c.c rH
 refine .exit<|seqQ_x<|loopQ_x<|blkQ_x<|retQ_n _ .none (pkH [1]) ?_
 ·exact ⟨_, rfl, rfl, ys, hO1, hR1⟩
 refine .skip<|retQ_n _ .none rH ?_
 ·exact ⟨_, rfl, rfl, xs, h, .refl _⟩
end
end STP
namespace STP
section
variable {c : Tpl -> Tpl -> Int} {ok : Tpl -> Prop} {f : FuncId} {caps : List Value} [e : Ent prog f]
theorem part_spec (v : Value) (xs : List Tpl) (T : Seg) (a b : Nat) (R : Rds) (h : OS 151 7 Tpl.enc v xs T) (hab : a < b) (hb : b <= xs.length) (hl : xs.length <= 1000000000) (hf : FnC prog f caps R (λ t : Tpl => Value.agg t.enc.toArray) c ok) (hok : ∀ x ∈ xs, ok x) (so : SO (ltc c)) (hlb : LB (ltc c) xs a b) :
  Spec prog 240 [v, .int .i64 a, .int .i64 b, .func (.func f) #[] caps.toArray] R [T] λ u H' => ∃ T', H' = [T'] /\ ∃ ys m, u = .bool m /\ OS 151 7 Tpl.enc v ys T' /\ RP a b xs ys /\ (m = true -> SR (ltc c) ys a b) := by
 have iv := h.oneCell
 refine Spec.body Tryz.func240 rfl Tryz.results240 Tryz.ntmps240 rfl ?_
 refine .sr<|.ag rfl<|.z<|.mo rfl ?_
 refine .ia (a + 1) .add ?_
 refine .ag rfl<|.zs<|.sr<|.az rfl<|.block ?_
 refine .loop (X := Nat × Nat × List Tpl × Seg) (λ y => (y.1 <= 5 /\ a + 1 <= y.2.1 /\ y.2.1 <= b) /\ OS 151 7 Tpl.enc v y.2.2.1 y.2.2.2 /\ RP a b xs y.2.2.1 /\ SR (ltc c) y.2.2.1 a y.2.1) (λ y => [(0, v), (1, iN a), (2, iN b), (3, .func (.func f) #[] caps.toArray), (9, iN y.2.1), (10, iN y.1)]) (λ y => [y.2.2.2]) (λ y => 5 - y.1) (0, a + 1, xs, T) ⟨⟨by omega, Nat.le_refl _, hab⟩, h, .refl _, λ i j h1 h2 h3 => by simp only at h3; omega⟩ kE.c.c.c.c.c.c rH ?_
 rintro ⟨n, i, ys, T1⟩ ⟨⟨hn, hi1, hi2⟩, hO1, hR1, hS1⟩
 simp only at hn hi1 hi2 hO1 hR1 hS1 ⊢
 have hlen := hR1.length
 refine .seq<|.sr<|.mo rfl<|.q .lss<|.zn ?_
 refine .cond rfl (λ h1 => ?_) λ h1 => ?_
 have hn5 : n < 5 := lt_i h1
 refine .kn<|.seq<|.block<|.seq ?_
 refine Tri.cut (X := Nat) (λ i => (a + 1 <= i /\ i <= b) /\ SR (ltc c) ys a i) (λ i => [(0, v), (1, iN a), (2, iN b), (3, .func (.func f) #[] caps.toArray), (9, iN i), (10, iN n)]) (λ _ => [T1]) ?_ ?_
 refine .block ?_
 refine .loop (X := Nat) (λ i => (a + 1 <= i /\ i <= b) /\ SR (ltc c) ys a i) (λ i => [(0, v), (1, iN a), (2, iN b), (3, .func (.func f) #[] caps.toArray), (9, iN i), (10, iN n)]) (λ _ => [T1]) (λ i => b - i) i ⟨⟨hi1, hi2⟩, hS1⟩ kE.c.c.c.c.c.c rH ?_
 clear hi1 hi2 hS1
 rintro i ⟨⟨hi1, hi2⟩, hS1⟩
 refine .seq<|.seq ?_
 refine .region_tail 14 mixed (by kernel_rfl) ?_
 conv => arg 6; dsimp only [List.take]
 refine .mo rfl<|.mo rfl<|.q .lss<|.mo rfl ?_
 refine .split (t := 22) rfl (λ g5_3 => ?_) (λ g5_3 => ?_)
 have hib : i < b := by have := odt g5_3; omega
 obtain ⟨x, hx⟩ : ∃ x, ys[i]? = some x := ⟨_, gge (by omega)⟩
 obtain ⟨y, hy⟩ : ∃ x, ys[i - 1]? = some x := ⟨_, gge (by omega)⟩
 have okx := hok x (hR1.perm.mem_iff.1 (mog hx))
 have oky := hok y (hR1.perm.mem_iff.1 (mog hy))
 refine .gT g5_3<|.mo rfl<|.gT g5_3<|.mo rfl<|.gT g5_3<|.mo rfl<|.gT g5_3 ?_
 refine .indexO i hO1 hx (λ p26 => ?_)
 refine .gT g5_3<|.q (.loadA rfl)<|.gT g5_3<|.mo rfl<|.gT g5_3<|.mo rfl<|.gT g5_3 ?_
 refine .ia (i - 1) .sub ?_
 refine .gT g5_3 ?_
 refine .indexO (i - 1) hO1 hy (λ p31 => ?_)
 refine .gT g5_3<|.q (.loadA rfl)<|.nil<|.gT g5_3 ?_
 refine .callRV (first := []) (captured := caps) (vs := [(λ t : Tpl => Value.agg t.enc.toArray) x, (λ t : Tpl => Value.agg t.enc.toArray) y]) (hf x y okx oky _ (λ b o hb => .inl hb)) (λ u hu => ?_)
 subst hu
 refine .gT g5_3<|.q .lss<|.gT g5_3<|.q .not<|.q (.pickTh g5_3) ?_
 refine .zn ?_
 refine .cond rfl (λ h2 => ?_) λ h2 => ?_
 refine .kn<|.block<|.region<|.mo rfl ?_
 refine .ia (i + 1) .add ?_
 refine .ag rfl<|.nil<|blkQ_n ?_
 ·have hnl : ltc c x y = false := by
   have h2' : (!ltc c x y) = true := h2
   simpa using h2'
  exact loopQ_i (i + 1) ⟨⟨by omega, by omega⟩, hS1.snoc so (by omega) (by omega) λ u w hu hw => by
   rw [hy] at hu; rw [hx] at hw; cases hu; cases hw; exact hnl⟩ (by omega) kE.c.c.c.c.c.c rH
 refine .exit<|seqQ_x<|loopQ_x<|blkQ_x ?_
 exact joinQ_n i ⟨⟨hi1, hi2⟩, hS1⟩ kE.c.c.c.c.c.c rH
 refine .gF g5_3<|.gF g5_3<|.gF g5_3<|.gF g5_3<|.gF g5_3<|.gF g5_3<|.gF g5_3<|.gF g5_3<|.gF g5_3<|.gF g5_3<|.nil<|.gF g5_3<|.gF g5_3<|.gF g5_3<|.q (.pickFh g5_3) ?_
 refine .zn<|.condF<|.exit<|seqQ_x<|loopQ_x<|blkQ_x ?_
 exact joinQ_n i ⟨⟨hi1, hi2⟩, hS1⟩ kE.c.c.c.c.c.c rH
 intro x hx
 obtain ⟨i2, hi2e⟩ : ∃ i2, i2 = x := ⟨_, rfl⟩
 rw [<- hi2e] at hx ⊢
 clear hi2e x hi1 hi2 hS1
 obtain ⟨⟨hi1, hi2⟩, hS1⟩ := hx
 refine seqQ_n<|.seq<|.sr<|.mo rfl<|.mo rfl<|.q .eqI<|.zn ?_
 refine .cond rfl (λ h3 => ?_) λ h3 => ?_
 refine .sr<|.az rfl ?_
 refine .ret (seqQ_r (blkQ_r (seqQ_r (loopQ_r (blkQ_r (seqQ_r (retQ_r _ (.one (.tmp rfl)) rH ?_)))))))
 ·have heq : i2 = b := by
   have h3' : ((i2 : Int) = b) := by simpa using h3
   omega
  exact ⟨_, rfl, ys, true, rfl, hO1, hR1, λ _ => heq ▸ hS1⟩
 have hib : i2 < b := by
  have h3' : ¬ ((i2 : Int) = b) := by simpa using h3
  omega
 obtain ⟨x, hx⟩ : ∃ x, ys[i2]? = some x := ⟨_, gge (by omega)⟩
 obtain ⟨y, hy⟩ : ∃ x, ys[i2 - 1]? = some x := ⟨_, gge (by omega)⟩
 refine .kn<|.seq<|.sr<|.mo rfl<|.mo rfl ?_
 refine .ia (b - a) .sub ?_
 refine .q .lss<|.zn ?_
 refine .cond rfl (λ h4 => ?_) λ h4 => ?_
 refine .sr<|.az rfl ?_
 refine .ret (seqQ_r (blkQ_r (seqQ_r (loopQ_r (blkQ_r (seqQ_r (retQ_r _ (.one (.tmp rfl)) rH ?_)))))))
 ·exact ⟨_, rfl, ys, false, rfl, hO1, hR1, λ h => by cases h⟩
 refine .kn<|.seq<|.region_all [15, 17] mixed ?_
 refine .tO 0 rfl .move<|.tO 1 rfl .move<|.tK 2 rfl .move<|.tK 3 rfl .move ?_
 refine .take 4 rfl (.i64 ((i2 - 1 : Nat) : Int) .sub ⟨by omega, by omega, by omega⟩) (by kernel_rfl) ?_
 refine .tO 5 rfl .move<|.tO 6 rfl .move ?_
 refine .takeO 7 rfl (.i64 ((i2 - 1 : Nat) : Int) .sub ⟨by omega, by omega, by omega⟩) (by kernel_rfl) ?_
 refine RA.indexO 8 rfl (i2 - 1) hO1 hy rfl rfl rfl (by kernel_rfl) (λ p54 => ?_)
 refine .tO 9 rfl (.loadA rfl)<|.tO 10 rfl .move<|.tO 11 rfl .move ?_
 refine RA.indexO 12 rfl (i2) hO1 hx rfl rfl rfl (by kernel_rfl) (λ p58 => ?_)
 refine .tO 13 rfl (.loadA rfl) ?_
 refine RA.indexO 14 rfl (i2) hO1 hx rfl rfl rfl (by kernel_rfl) (λ p60 => ?_)
 refine .sT 15 rfl ?_
 refine .storeO (i2) hO1 hx y (λ Tsa hsa => ?_) (hO1.one _ (mog hy))
 refine .nil (Next.mod rfl ?_)
 refine RA.indexO 16 rfl (i2 - 1) hO1 hy rfl rfl rfl (by kernel_rfl) (λ p61 => ?_)
 refine .sT 17 rfl ?_
 obtain ⟨zz, hzz⟩ : ∃ u, (ys.set (i2) y)[i2 - 1]? = some u := ⟨_, gge (by rw [List.length_set]; exact (List.getElem?_eq_some_iff.1 hy).1)⟩
 refine .storeO (i2 - 1) hsa hzz x (λ Tsw hsw => ?_) (hO1.one _ (mog hx))
 rw [<- swp_eq hx hy] at hsw
 refine .nil (Next.mod rfl ?_)
 refine RA.nil (by kernel_rfl) ?_
 have hR2 := hR1.step (i := i2) (j := i2 - 1) (by omega) (by omega) (by omega) (by omega) (by omega)
 have hI2 := hS1.swp_last (by omega)
 clear hS1
 refine seqQ_n<|.seq ?_
 refine Tri.cut (X := List Tpl × Seg) (λ z => OS 151 7 Tpl.enc v z.1 z.2 /\ RP a b xs z.1 /\ SR (ltc c) z.1 a i2) (λ _ => [(0, v), (1, iN a), (2, iN b), (3, .func (.func f) #[] caps.toArray), (9, iN i2), (10, iN n)]) (λ z => [z.2]) ?_ ?_
 refine .sr<|.mo rfl<|.mo rfl ?_
 refine .ia (i2 - a) .sub ?_
 refine .q .geq<|.zn ?_
 refine .cond rfl (λ h5 => ?_) λ h5 => ?_
 refine .sr<|.mo rfl ?_
 refine .ia (i2 - 1) .sub ?_
 refine .az rfl<|.block ?_
 refine .loop (X := Nat × List Tpl × Seg) (λ z => (a <= z.1 /\ z.1 <= i2 - 1) /\ OS 151 7 Tpl.enc v z.2.1 z.2.2 /\ RP a b xs z.2.1 /\ Ins (ltc c) z.2.1 a z.1 i2) (λ z => [(0, v), (1, iN a), (2, iN b), (3, .func (.func f) #[] caps.toArray), (9, iN i2), (10, iN n), (11, iN z.1)]) (λ z => [z.2.2]) (λ z => z.1) (i2 - 1, swp ys i2 (i2 - 1), Tsw) ⟨⟨by simp only; omega, Nat.le_refl _⟩, hsw, hR2, hI2⟩ kE.c.c.c.c.c.c.c rH ?_
 rintro ⟨q, zs, T3⟩ ⟨⟨hq1, hq2⟩, hO3, hR3, hI3⟩
 simp only at hq1 hq2 hO3 hR3 hI3 ⊢
 have hlen3 := hR3.length
 refine .seq<|.sr<|.mo rfl<|.q .geq<|.zn ?_
 refine .cond rfl (λ h6 => ?_) λ h6 => ?_
 have hq0 : 1 <= q := by have := odt h6; omega
 obtain ⟨s, hs⟩ : ∃ x, zs[q]? = some x := ⟨_, gge (by omega)⟩
 obtain ⟨t, ht⟩ : ∃ x, zs[q - 1]? = some x := ⟨_, gge (by omega)⟩
 have oks := hok s (hR3.perm.mem_iff.1 (mog hs))
 have okt := hok t (hR3.perm.mem_iff.1 (mog ht))
 refine .kn<|.seq<|.block<|.seq<|.seq ?_
 refine .region_tail 10 mixed (by kernel_rfl) ?_
 conv => arg 6; dsimp only [List.take]
 refine .mo rfl<|.mo rfl<|.mo rfl ?_
 refine .indexO q hO3 hs (λ p75 => ?_)
 refine .q (.loadA rfl)<|.mo rfl<|.mo rfl ?_
 refine .ia (q - 1) .sub ?_
 refine .indexO (q - 1) hO3 ht (λ p80 => ?_)
 refine .q (.loadA rfl)<|.nil ?_
 refine .callRV (first := []) (captured := caps) (vs := [(λ t : Tpl => Value.agg t.enc.toArray) s, (λ t : Tpl => Value.agg t.enc.toArray) t]) (hf s t oks okt _ (λ b o hb => .inl hb)) (λ u hu => ?_)
 subst hu
 refine .q .lss<|.q .not<|.zn ?_
 refine .cond rfl (λ h7 => ?_) λ h7 => ?_
 have hdone : SR (ltc c) zs a i2 := hI3.done so (by omega) (by omega) (by
  have h7' : (!ltc c s t) = true := h7
  rcases Nat.lt_or_ge a q with hh | hh
  ·exact .inr ⟨hh, λ u w hu hw => by rw [ht] at hu; rw [hs] at hw; cases hu; cases hw; simpa using h7'⟩
  ·exact .inl (by omega))
 refine .exit (seqQ_x (blkQ_y (seqQ_x (loopQ_x (blkQ_x ?_)))))
 ·exact joinQ_n (zs, T3) ⟨hO3, hR3, hdone⟩ kE.c.c.c.c.c.c rH
 have hls : ltc c s t = true := by
  have h7' : (!ltc c s t) = false := h7
  simpa using h7'
 have haq : a < q := by
  rcases Nat.lt_or_ge a q with hh | hh
  ·exact hh
  ·have ea : q = a := by omega
   subst ea
   have := (hlb.rp hR3) (by omega) q (Nat.le_refl _) hab t s ht hs
   rw [this] at hls; cases hls
 refine .kn<|.region_all [15, 17] mixed ?_
 refine .tO 0 rfl .move<|.tO 1 rfl .move<|.tK 2 rfl .move<|.tK 3 rfl .move ?_
 refine .take 4 rfl (.i64 ((q - 1 : Nat) : Int) .sub ⟨by omega, by omega, by omega⟩) (by kernel_rfl) ?_
 refine .tO 5 rfl .move<|.tO 6 rfl .move ?_
 refine .takeO 7 rfl (.i64 ((q - 1 : Nat) : Int) .sub ⟨by omega, by omega, by omega⟩) (by kernel_rfl) ?_
 refine RA.indexO 8 rfl (q - 1) hO3 ht rfl rfl rfl (by kernel_rfl) (λ p93 => ?_)
 refine .tO 9 rfl (.loadA rfl)<|.tO 10 rfl .move<|.tO 11 rfl .move ?_
 refine RA.indexO 12 rfl (q) hO3 hs rfl rfl rfl (by kernel_rfl) (λ p97 => ?_)
 refine .tO 13 rfl (.loadA rfl) ?_
 refine RA.indexO 14 rfl (q) hO3 hs rfl rfl rfl (by kernel_rfl) (λ p99 => ?_)
 refine .sT 15 rfl ?_
 refine .storeO (q) hO3 hs t (λ Tsa hsa => ?_) (hO3.one _ (mog ht))
 refine .nil (Next.mod rfl ?_)
 refine RA.indexO 16 rfl (q - 1) hO3 ht rfl rfl rfl (by kernel_rfl) (λ p100 => ?_)
 refine .sT 17 rfl ?_
 obtain ⟨zz, hzz⟩ : ∃ u, (zs.set (q) t)[q - 1]? = some u := ⟨_, gge (by rw [List.length_set]; exact (List.getElem?_eq_some_iff.1 ht).1)⟩
 refine .storeO (q - 1) hsa hzz s (λ Tsw hsw => ?_) (hO3.one _ (mog hs))
 rw [<- swp_eq hs ht] at hsw
 refine .nil (Next.mod rfl ?_)
 refine RA.nil (by kernel_rfl) ?_
 refine blkQ_n<|seqQ_n<|.region<|.mo rfl ?_
 refine .ia (q - 1) .sub ?_
 refine .ag rfl<|.nil ?_
 ·exact loopQ_i (q - 1, swp zs q (q - 1), Tsw) ⟨⟨by simp only; omega, by simp only; omega⟩, hsw, hR3.step (by omega) (by omega) (by omega) (by omega) (by omega), hI3.step so (by omega) (by omega) haq hs ht hls⟩ (by simp only; omega) kE.c.c.c.c.c.c.c rH
 have hdone : SR (ltc c) zs a i2 := hI3.done so (by omega) (by omega) (.inl (by have := odf h6; omega))
 refine .exit<|seqQ_x<|loopQ_x<|blkQ_x ?_
 ·exact joinQ_n (zs, T3) ⟨hO3, hR3, hdone⟩ kE.c.c.c.c.c.c rH
 refine .skip ?_
 ·exact joinQ_n (swp ys i2 (i2 - 1), Tsw) ⟨hsw, hR2, λ p q h1 h2 h3 => by have := odf h5; omega⟩ kE.c.c.c.c.c.c rH
 intro y hy
 obtain ⟨zs, T3⟩ := y
 obtain ⟨hO3, hR3, hS3⟩ := hy
 simp only at hO3 hR3 hS3 ⊢
 refine seqQ_n ?_
 refine Tri.cut (X := List Tpl × Seg) (λ z => OS 151 7 Tpl.enc v z.1 z.2 /\ RP a b xs z.1 /\ SR (ltc c) z.1 a i2) (λ _ => [(0, v), (1, iN a), (2, iN b), (3, .func (.func f) #[] caps.toArray), (9, iN i2), (10, iN n)]) (λ z => [z.2]) ?_ ?_
 refine .sr<|.mo rfl<|.mo rfl ?_
 refine .ia (b - i2) .sub ?_
 refine .q .geq<|.zn ?_
 refine .cond rfl (λ h8 => ?_) λ h8 => ?_
 refine .sr<|.mo rfl ?_
 refine .ia (i2 + 1) .add ?_
 refine .az rfl<|.block ?_
 refine .loop (X := Nat × List Tpl × Seg) (λ z => (i2 + 1 <= z.1 /\ z.1 <= b) /\ OS 151 7 Tpl.enc v z.2.1 z.2.2 /\ RP a b xs z.2.1 /\ SR (ltc c) z.2.1 a i2) (λ z => [(0, v), (1, iN a), (2, iN b), (3, .func (.func f) #[] caps.toArray), (9, iN i2), (10, iN n), (12, iN z.1)]) (λ z => [z.2.2]) (λ z => b - z.1) (i2 + 1, zs, T3) ⟨⟨Nat.le_refl _, by simp only; omega⟩, hO3, hR3, hS3⟩ kE.c.c.c.c.c.c.c rH ?_
 rintro ⟨q, ws, T4⟩ ⟨⟨hq1, hq2⟩, hO4, hR4, hS4⟩
 simp only at hq1 hq2 hO4 hR4 hS4 ⊢
 have hlen4 := hR4.length
 refine .seq<|.sr<|.mo rfl<|.mo rfl<|.q .lss<|.zn ?_
 refine .cond rfl (λ h9 => ?_) λ h9 => ?_
 have hqb : q < b := lt_i h9
 obtain ⟨s, hs⟩ : ∃ x, ws[q]? = some x := ⟨_, gge (by omega)⟩
 obtain ⟨t, ht⟩ : ∃ x, ws[q - 1]? = some x := ⟨_, gge (by omega)⟩
 have oks := hok s (hR4.perm.mem_iff.1 (mog hs))
 have okt := hok t (hR4.perm.mem_iff.1 (mog ht))
 refine .kn<|.seq<|.block<|.seq<|.seq ?_
 refine .region_tail 10 mixed (by kernel_rfl) ?_
 conv => arg 6; dsimp only [List.take]
 refine .mo rfl<|.mo rfl<|.mo rfl ?_
 refine .indexO q hO4 hs (λ p115 => ?_)
 refine .q (.loadA rfl)<|.mo rfl<|.mo rfl ?_
 refine .ia (q - 1) .sub ?_
 refine .indexO (q - 1) hO4 ht (λ p120 => ?_)
 refine .q (.loadA rfl)<|.nil ?_
 refine .callRV (first := []) (captured := caps) (vs := [(λ t : Tpl => Value.agg t.enc.toArray) s, (λ t : Tpl => Value.agg t.enc.toArray) t]) (hf s t oks okt _ (λ b o hb => .inl hb)) (λ u hu => ?_)
 subst hu
 refine .q .lss<|.q .not<|.zn ?_
 refine .cond rfl (λ h10 => ?_) λ h10 => ?_
 refine .exit (seqQ_x (blkQ_y (seqQ_x (loopQ_x (blkQ_x ?_)))))
 ·exact joinQ_n (ws, T4) ⟨hO4, hR4, hS4⟩ kE.c.c.c.c.c.c rH
 refine .kn<|.region_all [15, 17] mixed ?_
 refine .tO 0 rfl .move<|.tO 1 rfl .move<|.tK 2 rfl .move<|.tK 3 rfl .move ?_
 refine .take 4 rfl (.i64 ((q - 1 : Nat) : Int) .sub ⟨by omega, by omega, by omega⟩) (by kernel_rfl) ?_
 refine .tO 5 rfl .move<|.tO 6 rfl .move ?_
 refine .takeO 7 rfl (.i64 ((q - 1 : Nat) : Int) .sub ⟨by omega, by omega, by omega⟩) (by kernel_rfl) ?_
 refine RA.indexO 8 rfl (q - 1) hO4 ht rfl rfl rfl (by kernel_rfl) (λ p133 => ?_)
 refine .tO 9 rfl (.loadA rfl)<|.tO 10 rfl .move<|.tO 11 rfl .move ?_
 refine RA.indexO 12 rfl (q) hO4 hs rfl rfl rfl (by kernel_rfl) (λ p137 => ?_)
 refine .tO 13 rfl (.loadA rfl) ?_
 refine RA.indexO 14 rfl (q) hO4 hs rfl rfl rfl (by kernel_rfl) (λ p139 => ?_)
 refine .sT 15 rfl ?_
 refine .storeO (q) hO4 hs t (λ Tsa hsa => ?_) (hO4.one _ (mog ht))
 refine .nil (Next.mod rfl ?_)
 refine RA.indexO 16 rfl (q - 1) hO4 ht rfl rfl rfl (by kernel_rfl) (λ p140 => ?_)
 refine .sT 17 rfl ?_
 obtain ⟨zz, hzz⟩ : ∃ u, (ws.set (q) t)[q - 1]? = some u := ⟨_, gge (by rw [List.length_set]; exact (List.getElem?_eq_some_iff.1 ht).1)⟩
 refine .storeO (q - 1) hsa hzz s (λ Tsw hsw => ?_) (hO4.one _ (mog hs))
 rw [<- swp_eq hs ht] at hsw
 refine .nil (Next.mod rfl ?_)
 refine RA.nil (by kernel_rfl) ?_
 refine blkQ_n<|seqQ_n<|.region<|.mo rfl ?_
 refine .ia (q + 1) .add ?_
 refine .ag rfl<|.nil ?_
 ·exact loopQ_i (q + 1, swp ws q (q - 1), Tsw) ⟨⟨by simp only; omega, by simp only; omega⟩, hsw, hR4.step (by omega) (by omega) (by omega) (by omega) (by omega), hS4.swp_out (by omega) (by omega) (by omega) (by omega)⟩ (by simp only; omega) kE.c.c.c.c.c.c.c rH
 refine .exit<|seqQ_x<|loopQ_x<|blkQ_x ?_
 ·exact joinQ_n (ws, T4) ⟨hO4, hR4, hS4⟩ kE.c.c.c.c.c.c rH
 refine .skip ?_
 ·exact joinQ_n (zs, T3) ⟨hO3, hR3, hS3⟩ kE.c.c.c.c.c.c rH
 intro y hy
 obtain ⟨us, T5⟩ := y
 obtain ⟨hO5, hR5, hS5⟩ := hy
 simp only at hO5 hR5 hS5 ⊢
 refine blkQ_n<|seqQ_n<|.region<|.mo rfl ?_
 refine .ia (n + 1) .add ?_
 refine .ag rfl<|.nil ?_
 ·exact loopQ_i (n + 1, i2, us, T5) ⟨⟨by simp only; omega, hi1, hi2⟩, hO5, hR5, hS5⟩ (by simp only; omega) kE.c.c.c.c.c.c rH
 refine .exit<|seqQ_x<|loopQ_x<|blkQ_x<|seqQ_n<|.sr<|.az rfl ?_
 refine .ret (retQ_r _ (.one (.tmp rfl)) rH ?_)
 ·exact ⟨_, rfl, ys, false, rfl, hO1, hR1, λ h => by cases h⟩
end
end STP
namespace STP
section
variable {c : Tpl -> Tpl -> Int} {ok : Tpl -> Prop} {f : FuncId} {caps : List Value} [e : Ent prog f]
theorem order2_spec (v : Value) (xs : List Tpl) (a b lo hi bs : Nat) (s : Int) (R : Rds) (h : RS R 7 Tpl.enc v xs) (ha : lo <= a /\ a < hi) (hb : lo <= b /\ b < hi) (hhi : hi <= xs.length) (hf : FnC prog f caps R (λ t : Tpl => Value.agg t.enc.toArray) c ok) (hok : ∀ x ∈ xs, ok x) :
  Spec prog 282 [v, .int .i64 a, .int .i64 b, pT bs, .func (.func f) #[] caps.toArray] R [bl bs [.int .i64 s] 3] λ u H' => ∃ T', H' = [T'] /\ ∃ (s' : Int) (p q : Nat), u = .tuple [.int .i64 p, .int .i64 q].toArray /\ T' = (bl bs [.int .i64 s'] 3) /\ (lo <= p /\ p < hi) /\ (lo <= q /\ q < hi) := by
 have iv := h.oneCell
 obtain ⟨x, hx⟩ : ∃ x, xs[b]? = some x := ⟨_, gge (by omega)⟩
 obtain ⟨y, hy⟩ : ∃ x, xs[a]? = some x := ⟨_, gge (by omega)⟩
 have okx := hok x (mog hx)
 have oky := hok y (mog hy)
 refine Spec.body Tryz.func282 rfl Tryz.results282 Tryz.ntmps282 rfl<|.sr<|.ag rfl<|.ag rfl<|.zs<|.seq<|.region_tail 9 mixed (by kernel_rfl) ?_
 conv => arg 6; dsimp only [List.take]
 refine .mo rfl<|.mo rfl<|.mo rfl ?_
 refine .indexR b h hx (λ p15 => ?_)
 refine .q (.loadA rfl)<|.mo rfl<|.mo rfl ?_
 refine .indexR a h hy (λ p19 => ?_)
 refine .q (.loadA rfl)<|.nil<|.callRV (first := []) (captured := caps) (vs := [(λ t : Tpl => Value.agg t.enc.toArray) x, (λ t : Tpl => Value.agg t.enc.toArray) y]) (hf x y okx oky _ (λ b o hb => .inl hb)) (λ u hu => ?_)
 subst hu
 refine .q .lss<|.zn<|.cond rfl (λ h1 => ?_) λ h1 => ?_
 refine .sr<|.mo rfl<|.nc rfl<|.lo rfl<|.q .add<|.nc rfl<|.store1 rfl rfl<|.z<|.mo rfl<|.mo rfl<|.ag rfl<|.az rfl<|.ret (seqQ_r (retQ_r _ (.two (.tmp rfl) (.tmp rfl)) rH ?_))
 ·exact ⟨_, rfl, _, b, a, rfl, rfl, hb, ha⟩
 refine .kn<|.sr<|.mo rfl<|.mo rfl<|.ag rfl<|.az rfl<|.ret (retQ_r _ (.two (.tmp rfl) (.tmp rfl)) rH ?_)
 ·exact ⟨_, rfl, _, a, b, rfl, rfl, ha, hb⟩
theorem median_spec (v : Value) (xs : List Tpl) (a b d lo hi bs : Nat) (s : Int) (R : Rds) (h : RS R 7 Tpl.enc v xs) (ha : lo <= a /\ a < hi) (hb : lo <= b /\ b < hi) (hd : lo <= d /\ d < hi) (hhi : hi <= xs.length) (hf : FnC prog f caps R (λ t : Tpl => Value.agg t.enc.toArray) c ok) (hok : ∀ x ∈ xs, ok x) :
  Spec prog 271 [v, .int .i64 a, .int .i64 b, .int .i64 d, pT bs, .func (.func f) #[] caps.toArray] R [bl bs [.int .i64 s] 3] λ u H' => ∃ T', H' = [T'] /\ ∃ (s' : Int) (p : Nat), u = .int .i64 p /\ T' = (bl bs [.int .i64 s'] 3) /\ (lo <= p /\ p < hi) := by
 have iv := h.oneCell
 refine Spec.body Tryz.func271 rfl Tryz.results271 Tryz.ntmps271 rfl<|.sr<|.ag rfl<|.z<|.mo rfl<|.mo rfl<|.mo rfl<|.mo rfl<|.mo rfl<|.callM (order2_spec v xs a b lo hi bs s _ h ha hb hhi hf hok) (λ u T1 hu => ?_)
 obtain ⟨s1, p1, q1, rfl, rfl, hp1, hq1⟩ := hu
 refine .mo rfl<|.q .extract<|.q .extract<|.ag rfl<|.ag rfl<|.z<|.mo rfl<|.mo rfl<|.mo rfl<|.mo rfl<|.mo rfl<|.callM (order2_spec v xs q1 d lo hi bs s1 _ h hq1 hd hhi hf hok) (λ u T2 hu => ?_)
 obtain ⟨s2, p2, q2, rfl, rfl, hp2, hq2⟩ := hu
 refine .mo rfl<|.q .extract<|.q .extract<|.ag rfl<|.ag rfl<|.z<|.mo rfl<|.mo rfl<|.mo rfl<|.mo rfl<|.mo rfl<|.callM (order2_spec v xs p1 p2 lo hi bs s2 _ h hp1 hp2 hhi hf hok) (λ u T3 hu => ?_)
 obtain ⟨s3, p3, q3, rfl, rfl, hp3, hq3⟩ := hu
 refine .mo rfl<|.q .extract<|.q .extract<|.ag rfl<|.ag rfl<|.z<|.mo rfl<|.az rfl<|.ret (retQ_r _ (.one (.tmp rfl)) rH ?_)
 ·exact ⟨_, rfl, s3, q3, rfl, rfl, hq3⟩
theorem medianA_spec (v : Value) (xs : List Tpl) (a lo hi bs : Nat) (s : Int) (R : Rds) (h : RS R 7 Tpl.enc v xs) (ha : lo + 1 <= a /\ a + 1 < hi) (hhi : hi <= xs.length) (hl : xs.length <= 1000000000) (hf : FnC prog f caps R (λ t : Tpl => Value.agg t.enc.toArray) c ok) (hok : ∀ x ∈ xs, ok x) :
  Spec prog 270 [v, .int .i64 a, pT bs, .func (.func f) #[] caps.toArray] R [bl bs [.int .i64 s] 3] λ u H' => ∃ T', H' = [T'] /\ ∃ (s' : Int) (p : Nat), u = .int .i64 p /\ T' = (bl bs [.int .i64 s'] 3) /\ (lo <= p /\ p < hi) := by
 have iv := h.oneCell
 refine Spec.body Tryz.func270 rfl Tryz.results270 Tryz.ntmps270 rfl<|.sr<|.ag rfl<|.z<|.mo rfl<|.mo rfl<|.ia (a - 1) .sub<|.mo rfl<|.mo rfl<|.ia (a + 1) .add<|.mo rfl<|.mo rfl<|.callM (median_spec v xs (a - 1) a (a + 1) lo hi bs s _ h (by omega) (by omega) (by omega) hhi hf hok) (λ u T1 hu => ?_)
 obtain ⟨s1, p1, rfl, rfl, hp1⟩ := hu
 refine .az rfl<|.ret (retQ_r _ (.one (.tmp rfl)) rH ?_)
 ·exact ⟨_, rfl, s1, p1, rfl, rfl, hp1⟩
theorem choose_spec (v : Value) (xs : List Tpl) (a b : Nat) (R : Rds) (h : RS R 7 Tpl.enc v xs) (hab : a < b) (hb : b <= xs.length) (hl : xs.length <= 1000000000) (hf : FnC prog f caps R (λ t : Tpl => Value.agg t.enc.toArray) c ok) (hok : ∀ x ∈ xs, ok x) :
  Spec prog 238 [v, .int .i64 a, .int .i64 b, .func (.func f) #[] caps.toArray] R [] λ u H' => (∃ (p : Nat) (t : Int), u = .tuple [.int .i64 p, .int .i64 t].toArray /\ a <= p /\ p < b) /\ H' = [] := by
 have iv := h.oneCell
 obtain ⟨n, hn⟩ : ∃ n, b = a + n := ⟨b - a, by omega⟩
 subst hn
 obtain ⟨q, hq⟩ : ∃ q, q = n / 4 := ⟨_, rfl⟩
 refine Spec.body Tryz.func238 rfl Tryz.results238 Tryz.ntmps238 rfl<|.sr<|.ag rfl<|.ag rfl<|.z<|.mo rfl<|.mo rfl<|.ia (n) .sub<|.ag rfl<|.z ?_
 refine .alloc1 (λ b11 => ?_)
 refine .z<|.mo rfl<|.mo rfl<|.q (.i64 ((q : Nat) : Int) .quo ⟨by rw [hq, Int.tdiv_eq_ediv_of_nonneg (by omega)]; omega, by omega, by omega⟩)<|.ia (q) .mul<|.ia (a + q) .add<|.ag rfl<|.z<|.mo rfl<|.mo rfl<|.q (.i64 ((q : Nat) : Int) .quo ⟨by rw [hq, Int.tdiv_eq_ediv_of_nonneg (by omega)]; omega, by omega, by omega⟩)<|.ia (q * 2) .mul<|.ia (a + q * 2) .add<|.ag rfl<|.z<|.mo rfl<|.mo rfl<|.q (.i64 ((q : Nat) : Int) .quo ⟨by rw [hq, Int.tdiv_eq_ediv_of_nonneg (by omega)]; omega, by omega, by omega⟩)<|.ia (q * 3) .mul<|.ia (a + q * 3) .add<|.ag rfl<|.zs ?_
 refine Tri.cut (X := Nat × Int) (λ z => a <= z.1 /\ z.1 < a + n) (λ z => [(11, pT b11), (13, iN z.1)]) (λ z => [bl b11 [.int .i64 z.2] 3]) ?_ ?_
 refine .sr<|.mo rfl<|.q .geq<|.zn<|.cond rfl (λ h1 => ?_) λ h1 => ?_
 have hn8 : 8 <= n := by have := odt h1; omega
 refine .seq ?_
 refine Tri.cut (X := Nat × Nat × Nat × Int) (λ z => (a <= z.1 /\ z.1 < a + n) /\ (a <= z.2.1 /\ z.2.1 < a + n) /\ (a <= z.2.2.1 /\ z.2.2.1 < a + n)) (λ z => [(0, v), (3, .func (.func f) #[] caps.toArray), (11, pT b11), (12, iN z.1), (13, iN z.2.1), (14, iN z.2.2.1)]) (λ z => [bl b11 [.int .i64 z.2.2.2] 3]) ?_ ?_
 refine .sr<|.mo rfl<|.q .geq<|.zn<|.cond rfl (λ h2 => ?_) λ h2 => ?_
 have hn50 : 50 <= n := by have := odt h2; omega
 refine .sr<|.mo rfl<|.mo rfl<|.mo rfl<|.callM (medianA_spec v xs (a + q) a (a + n) b11 0 _ h (by omega) hb hl hf hok) (λ u T1 hu => ?_)
 obtain ⟨s1, p1, rfl, rfl, hp1⟩ := hu
 refine .ag rfl<|.z<|.mo rfl<|.mo rfl<|.mo rfl<|.callM (medianA_spec v xs (a + q * 2) a (a + n) b11 s1 _ h (by omega) hb hl hf hok) (λ u T1 hu => ?_)
 obtain ⟨s2, p2, rfl, rfl, hp2⟩ := hu
 refine .az rfl<|.region<|.mo rfl<|.mo rfl<|.mo rfl<|.callM (medianA_spec v xs (a + q * 3) a (a + n) b11 s2 _ h (by omega) hb hl hf hok) (λ u T1 hu => ?_)
 obtain ⟨s3, p3, rfl, rfl, hp3⟩ := hu
 refine .ag rfl<|.nil ?_
 ·exact joinQ_n (p1, p2, p3, s3) ⟨hp1, hp2, hp3⟩ kE.c.c.c.c.c.c rH
 refine .skip ?_
 ·exact joinQ_n (a + q, a + q * 2, a + q * 3, 0) ⟨by simp only; omega, by simp only; omega, by simp only; omega⟩ kE.c.c.c.c.c.c rH
 intro y hy
 obtain ⟨i, j, k, s⟩ := y
 obtain ⟨hi, hj, hk⟩ := hy
 simp only at hi hj hk ⊢
 refine seqQ_n<|.region<|.mo rfl<|.mo rfl<|.mo rfl<|.mo rfl<|.mo rfl<|.callM (median_spec v xs i j k a (a + n) b11 s _ h hi hj hk hb hf hok) (λ u T1 hu => ?_)
 obtain ⟨s4, p4, rfl, rfl, hp4⟩ := hu
 refine .ag rfl<|.nil ?_
 ·exact joinQ_n (p4, s4) hp4 kE.c.c rH
 refine .skip ?_
 ·exact joinQ_n (a + q * 2, 0) (by simp only; omega) kE.c.c rH
 intro y hy
 obtain ⟨p, s⟩ := y
 simp only at hy ⊢
 refine seqQ_n<|.sr<|.lo rfl<|.zn<|.block<|.sr<|.q .eqI<|.az rfl<|.cond rfl (λ h3 => ?_) λ h3 => ?_
 refine .sr<|.mo rfl<|.ag rfl<|.az rfl<|.ret (blkQ_r (retQ_r _ (.two (.tmp rfl) (.tmp rfl)) (.none _) ?_))
 ·exact ⟨⟨p, _, rfl, hy.1, hy.2⟩, rfl⟩
 refine .sr<|.q .eqI<|.az rfl<|.cond rfl (λ h4 => ?_) λ h4 => ?_
 refine .sr<|.mo rfl<|.ag rfl<|.az rfl<|.ret (blkQ_r (retQ_r _ (.two (.tmp rfl) (.tmp rfl)) (.none _) ?_))
 ·exact ⟨⟨p, _, rfl, hy.1, hy.2⟩, rfl⟩
 refine .sr<|.mo rfl<|.ag rfl<|.az rfl<|.ret (blkQ_r (retQ_r _ (.two (.tmp rfl) (.tmp rfl)) (.none _) ?_))
 ·exact ⟨⟨p, _, rfl, hy.1, hy.2⟩, rfl⟩
end
end STP
namespace STP
section
variable {c : Tpl -> Tpl -> Int} {ok : Tpl -> Prop} {f : FuncId} {caps : List Value} [e : Ent prog f]
theorem partE_spec (v : Value) (xs : List Tpl) (T : Seg) (a b m : Nat) (p : Tpl) (R : Rds) (h : OS 151 7 Tpl.enc v xs T) (hab : a < b) (hm : a <= m /\ m < b) (hp : xs[m]? = some p) (hb : b <= xs.length) (hl : xs.length <= 1000000000) (hf : FnC prog f caps R (λ t : Tpl => Value.agg t.enc.toArray) c ok) (hok : ∀ x ∈ xs, ok x) (so : SO (ltc c))
  (hlo : ∀ (k : Nat) (x : Tpl), a <= k -> k < b -> xs[k]? = some x -> ltc c x p = false) :
  Spec prog 241 [v, .int .i64 a, .int .i64 b, .int .i64 m, .func (.func f) #[] caps.toArray] R [T] λ u H' => ∃ T', H' = [T'] /\ ∃ ys mid, u = iN mid /\ OS 151 7 Tpl.enc v ys T' /\ RP a b xs ys /\ PartE (ltc c) ys a mid b p := by
 have iv := h.oneCell
 obtain ⟨x0, hx0⟩ : ∃ x, xs[a]? = some x := ⟨_, gge (by omega)⟩
 have okp := hok p (mog hp)
 refine Spec.body Tryz.func241 rfl Tryz.results241 Tryz.ntmps241 rfl<|.sr<|.ag rfl<|.zs<|.region_all [13, 15] mixed<|.tO 0 rfl .move<|.tO 1 rfl .move<|.tK 2 rfl .move<|.tK 3 rfl .move<|.tO 4 rfl .move<|.tO 5 rfl .move ?_
 refine RA.indexO 6 rfl (m) h hp rfl rfl rfl (by kernel_rfl) (λ p19 => ?_)
 refine .tO 7 rfl (.loadA rfl)<|.tO 8 rfl .move<|.tO 9 rfl .move ?_
 refine RA.indexO 10 rfl (a) h hx0 rfl rfl rfl (by kernel_rfl) (λ p23 => ?_)
 refine .tO 11 rfl (.loadA rfl) ?_
 refine RA.indexO 12 rfl (a) h hx0 rfl rfl rfl (by kernel_rfl) (λ p25 => ?_)
 refine .sT 13 rfl<|.storeO (a) h hx0 p (λ Tsa hsa => ?_) (h.one _ (mog hp))
 refine .nil (Next.mod rfl ?_)
 refine RA.indexO 14 rfl (m) h hp rfl rfl rfl (by kernel_rfl) (λ p26 => ?_)
 refine .sT 15 rfl ?_
 obtain ⟨zz, hzz⟩ : ∃ u, (xs.set (a) p)[m]? = some u := ⟨_, gge (by rw [List.length_set]; exact (List.getElem?_eq_some_iff.1 hp).1)⟩
 refine .storeO (m) hsa hzz x0 (λ Tsw hsw => ?_) (h.one _ (mog hx0))
 rw [<- swp_eq hx0 hp] at hsw
 refine .nil<|Next.mod rfl<|RA.nil (by kernel_rfl) ?_
 have hR0 : RP a b xs (swp xs a m) := (RP.refl xs).step (by omega) (by omega) (by omega) (by omega) (by omega)
 have hat : (swp xs a m)[a]? = some p := by
  rw [swp_get (by omega) (by omega)]
  by_cases hk : a = m
  ·rw [if_pos hk, hx0, <- hp, <- hk, hx0]
  ·rw [if_neg hk, if_pos rfl, hp]
 refine seqQ_n<|.sr<|.mo rfl<|.ia (a + 1) .add<|.mo rfl<|.ia (b - 1) .sub<|.ag rfl<|.ag rfl<|.zs<|.block<|.loop (X := Nat × Nat × List Tpl × Seg) (λ y => OS 151 7 Tpl.enc v y.2.2.1 y.2.2.2 /\ RP a b xs y.2.2.1 /\ PQ (λ x => !ltc c p x) y.2.2.1 a y.1 y.2.1 b p) (λ y => [(0, v), (1, iN a), (4, .func (.func f) #[] caps.toArray), (11, iN y.1), (12, iN y.2.1)]) (λ y => [y.2.2.2]) (λ y => y.2.1 + 1 - y.1) (a + 1, b - 1, swp xs a m, Tsw) ⟨hsw, hR0, .start hab hat⟩ kE.c.c.c.c.c rH ?_
 rintro ⟨i, j, ys, T1⟩ ⟨hO1, hR1, hQ1⟩
 simp only at hO1 hR1 hQ1 ⊢
 have hlen := hR1.length
 have hi0 := hQ1.i0
 have hij := hQ1.ij
 have hjb := hQ1.jb
 have hpa := hQ1.at_
 refine .block<|.seq ?_
 refine Tri.cut (X := Nat) (λ i' => i <= i' /\ PQ (λ x => !ltc c p x) ys a i' j b p /\ ∀ x, i' <= j -> ys[i']? = some x -> (!ltc c p x) = false) (λ i' => [(0, v), (1, iN a), (4, .func (.func f) #[] caps.toArray), (11, .int .i64 (i' : Nat)), (12, iN j)]) (λ _ => [T1]) ?_ ?_
 refine .block<|.loop (X := Nat) (λ i' => i <= i' /\ PQ (λ x => !ltc c p x) ys a i' j b p) (λ i' => [(0, v), (1, iN a), (4, .func (.func f) #[] caps.toArray), (11, .int .i64 (i' : Nat)), (12, iN j)]) (λ _ => [T1]) (λ i' => j + 1 - i') i ⟨Nat.le_refl _, hQ1⟩ kE.c.c.c.c.c rH ?_
 rintro i2 ⟨hi2, hQ2⟩
 refine .seq<|.seq<|.region_tail 13 mixed (by kernel_rfl) ?_
 conv => arg 6; dsimp only [List.take]
 refine .mo rfl<|.mo rfl<|.q .leq<|.mo rfl<|.split (t := 34) rfl (λ g3_3 => ?_) (λ g3_3 => ?_)
 have hle2 : i2 <= j := by have := odt g3_3; omega
 obtain ⟨x2, hx2⟩ : ∃ x, ys[i2]? = some x := ⟨_, gge (by omega)⟩
 have okx2 := hok x2 (hR1.perm.mem_iff.1 (mog hx2))
 refine .gT g3_3<|.mo rfl<|.gT g3_3<|.mo rfl<|.gT g3_3<|.mo rfl<|.gT g3_3 ?_
 refine .indexO a hO1 hpa (λ p38 => ?_)
 refine .gT g3_3<|.q (.loadA rfl)<|.gT g3_3<|.mo rfl<|.gT g3_3<|.mo rfl<|.gT g3_3 ?_
 refine .indexO i2 hO1 hx2 (λ p42 => ?_)
 refine .gT g3_3<|.q (.loadA rfl)<|.nil<|.gT g3_3<|.callRV (first := []) (captured := caps) (vs := [(λ t : Tpl => Value.agg t.enc.toArray) p, (λ t : Tpl => Value.agg t.enc.toArray) x2]) (hf p x2 okp okx2 _ (λ b o hb => .inl hb)) (λ u hu => ?_)
 subst hu
 refine .gT g3_3<|.q .lss<|.gT g3_3<|.q .not<|.q (.pickTh g3_3)<|.zn<|.cond rfl (λ h1 => ?_) λ h1 => ?_
 refine .kn<|.block<|.region<|.mo rfl<|.ia (i2 + 1) .add<|.ag rfl<|.nil<|blkQ_n ?_
 ·exact loopQ_i (i2 + 1) ⟨by omega, hQ2.inc hle2 hx2 h1⟩ (by omega) kE.c.c.c.c.c rH
 refine .exit<|seqQ_x<|loopQ_x<|blkQ_x ?_
 exact joinQ_n i2 ⟨hi2, hQ2, λ x hx hxx => by rw [hx2] at hxx; cases hxx; exact h1⟩ kE.c.c.c.c.c rH
 refine .gF g3_3<|.gF g3_3<|.gF g3_3<|.gF g3_3<|.gF g3_3<|.gF g3_3<|.gF g3_3<|.gF g3_3<|.gF g3_3<|.nil<|.gF g3_3<|.gF g3_3<|.gF g3_3<|.q (.pickFh g3_3)<|.zn<|.condF<|.exit<|seqQ_x<|loopQ_x<|blkQ_x ?_
 exact joinQ_n i2 ⟨hi2, hQ2, λ x hx hxx => by have := odf g3_3; omega⟩ kE.c.c.c.c.c rH
 intro x hx
 obtain ⟨i3, hi3⟩ : ∃ i3, i3 = x := ⟨_, rfl⟩
 rw [<- hi3] at hx ⊢
 clear hi3 x
 obtain ⟨hii3, hQ3, hst3⟩ := hx
 refine seqQ_n<|.seq ?_
 refine Tri.cut (X := Nat) (λ j' => j' <= j /\ PQ (λ x => !ltc c p x) ys a i3 j' b p /\ ∀ x, i3 <= j' -> ys[j']? = some x -> (!ltc c p x) = true) (λ j' => [(0, v), (1, iN a), (4, .func (.func f) #[] caps.toArray), (11, iN i3), (12, .int .i64 (j' : Nat))]) (λ _ => [T1]) ?_ ?_
 refine .block<|.loop (X := Nat) (λ j' => j' <= j /\ PQ (λ x => !ltc c p x) ys a i3 j' b p) (λ j' => [(0, v), (1, iN a), (4, .func (.func f) #[] caps.toArray), (11, iN i3), (12, .int .i64 (j' : Nat))]) (λ _ => [T1]) (λ j' => j') j ⟨Nat.le_refl _, hQ3⟩ kE.c.c.c.c.c rH ?_
 rintro j2 ⟨hj2, hQ4⟩
 have hi30 := hQ3.i0
 refine .seq<|.seq<|.region_tail 13 mixed (by kernel_rfl) ?_
 conv => arg 6; dsimp only [List.take]
 refine .mo rfl<|.mo rfl<|.q .leq<|.mo rfl<|.split (t := 53) rfl (λ g5_3 => ?_) (λ g5_3 => ?_)
 have hle4 : i3 <= j2 := by have := odt g5_3; omega
 obtain ⟨x4, hx4⟩ : ∃ x, ys[j2]? = some x := ⟨_, gge (by omega)⟩
 have okx4 := hok x4 (hR1.perm.mem_iff.1 (mog hx4))
 refine .gT g5_3<|.mo rfl<|.gT g5_3<|.mo rfl<|.gT g5_3<|.mo rfl<|.gT g5_3 ?_
 refine .indexO a hO1 hpa (λ p57 => ?_)
 refine .gT g5_3<|.q (.loadA rfl)<|.gT g5_3<|.mo rfl<|.gT g5_3<|.mo rfl<|.gT g5_3 ?_
 refine .indexO j2 hO1 hx4 (λ p61 => ?_)
 refine .gT g5_3<|.q (.loadA rfl)<|.nil<|.gT g5_3<|.callRV (first := []) (captured := caps) (vs := [(λ t : Tpl => Value.agg t.enc.toArray) p, (λ t : Tpl => Value.agg t.enc.toArray) x4]) (hf p x4 okp okx4 _ (λ b o hb => .inl hb)) (λ u hu => ?_)
 subst hu
 refine .gT g5_3<|.q .lss<|.q (.pickTh g5_3)<|.zn<|.cond rfl (λ h2 => ?_) λ h2 => ?_
 refine .kn<|.block<|.region<|.mo rfl<|.ia (j2 - 1) .sub<|.ag rfl<|.nil<|blkQ_n ?_
 ·have hlt4 : ltc c p x4 = true := h2
  exact loopQ_i (j2 - 1) ⟨by omega, hQ4.dec hle4 hx4 (by rw [hlt4]; rfl)⟩ (by omega) kE.c.c.c.c.c rH
 refine .exit<|seqQ_x<|loopQ_x<|blkQ_x ?_
 exact joinQ_n j2 ⟨hj2, hQ4, λ x hx hxx => by have hh : ltc c p x4 = false := h2; rw [hx4] at hxx; cases hxx; rw [hh]; rfl⟩ kE.c.c.c.c.c rH
 refine .gF g5_3<|.gF g5_3<|.gF g5_3<|.gF g5_3<|.gF g5_3<|.gF g5_3<|.gF g5_3<|.gF g5_3<|.gF g5_3<|.nil<|.gF g5_3<|.gF g5_3<|.q (.pickFh g5_3)<|.zn<|.condF<|.exit<|seqQ_x<|loopQ_x<|blkQ_x ?_
 exact joinQ_n j2 ⟨hj2, hQ4, λ x hx hxx => by have := odf g5_3; omega⟩ kE.c.c.c.c.c rH
 intro x hx
 obtain ⟨j3, hj3⟩ : ∃ j3, j3 = x := ⟨_, rfl⟩
 rw [<- hj3] at hx ⊢
 clear hj3 x
 obtain ⟨hjj3, hQ5, hst5⟩ := hx
 have hi30 := hQ5.i0
 have hij5 := hQ5.ij
 refine seqQ_n<|.seq<|.sr<|.mo rfl<|.mo rfl<|.q .gtr<|.zn<|.cond rfl (λ h3 => ?_) λ h3 => ?_
 refine .exit (seqQ_x (blkQ_y (loopQ_x (blkQ_x ?_))))
 refine seqQ_n<|.sr<|.mo rfl<|.az rfl<|.ret (retQ_r _ (.one (.tmp rfl)) rH ?_)
 ·have hgt5 : j3 < i3 := lt_i h3
  exact ⟨_, rfl, ys, i3, rfl, hO1, hR1, hQ5.finE so hgt5 (hR1.all (p := λ x => ltc c x p = false) hlo)⟩
 have hle5 : i3 <= j3 := by have := odf h3; omega
 obtain ⟨x, hx⟩ : ∃ x, ys[i3]? = some x := ⟨_, gge (by omega)⟩
 obtain ⟨y, hy⟩ : ∃ x, ys[j3]? = some x := ⟨_, gge (by omega)⟩
 have hq6 := hQ5.sw hle5 (by omega) hx hy (hst3 x (by omega) hx) (hst5 y hle5 hy)
 refine .kn<|.seq<|.region_all [13, 15] mixed<|.tO 0 rfl .move<|.tO 1 rfl .move<|.tK 2 rfl .move<|.tK 3 rfl .move<|.tO 4 rfl .move<|.tO 5 rfl .move ?_
 refine RA.indexO 6 rfl (j3) hO1 hy rfl rfl rfl (by kernel_rfl) (λ p77 => ?_)
 refine .tO 7 rfl (.loadA rfl)<|.tO 8 rfl .move<|.tO 9 rfl .move ?_
 refine RA.indexO 10 rfl (i3) hO1 hx rfl rfl rfl (by kernel_rfl) (λ p81 => ?_)
 refine .tO 11 rfl (.loadA rfl) ?_
 refine RA.indexO 12 rfl (i3) hO1 hx rfl rfl rfl (by kernel_rfl) (λ p83 => ?_)
 refine .sT 13 rfl<|.storeO (i3) hO1 hx y (λ Tsa hsa => ?_) (hO1.one _ (mog hy))
 refine .nil (Next.mod rfl ?_)
 refine RA.indexO 14 rfl (j3) hO1 hy rfl rfl rfl (by kernel_rfl) (λ p84 => ?_)
 refine .sT 15 rfl ?_
 obtain ⟨zz, hzz⟩ : ∃ u, (ys.set (i3) y)[j3]? = some u := ⟨_, gge (by rw [List.length_set]; exact (List.getElem?_eq_some_iff.1 hy).1)⟩
 refine .storeO (j3) hsa hzz x (λ Tsw hsw => ?_) (hO1.one _ (mog hx))
 rw [<- swp_eq hx hy] at hsw
 refine .nil<|Next.mod rfl<|RA.nil (by kernel_rfl)<|seqQ_n<|.sr<|.mo rfl<|.ia (i3 + 1) .add<|.az rfl<|.region<|.mo rfl<|.ia (j3 - 1) .sub<|.ag rfl<|.nil<|blkQ_n ?_
 ·exact loopQ_i (i3 + 1, j3 - 1, swp ys i3 j3, Tsw) ⟨hsw, hR1.step (by omega) (by omega) (by omega) (by omega) (by omega), hq6.2⟩ (by simp only; omega) kE.c.c.c.c.c rH
theorem parti_spec (v : Value) (xs : List Tpl) (T : Seg) (a b m : Nat) (p : Tpl) (R : Rds) (h : OS 151 7 Tpl.enc v xs T) (hab : a < b) (hm : a <= m /\ m < b) (hp : xs[m]? = some p) (hb : b <= xs.length) (hl : xs.length <= 1000000000) (hf : FnC prog f caps R (λ t : Tpl => Value.agg t.enc.toArray) c ok) (hok : ∀ x ∈ xs, ok x) (so : SO (ltc c)) :
  Spec prog 242 [v, .int .i64 a, .int .i64 b, .int .i64 m, .func (.func f) #[] caps.toArray] R [T] λ u H' => ∃ T', H' = [T'] /\ ∃ ys mid z, u = .tuple [iN mid, .bool z].toArray /\ OS 151 7 Tpl.enc v ys T' /\ RP a b xs ys /\ Part (ltc c) ys a mid b p := by
 have iv := h.oneCell
 obtain ⟨x0, hx0⟩ : ∃ x, xs[a]? = some x := ⟨_, gge (by omega)⟩
 have okp := hok p (mog hp)
 refine Spec.body Tryz.func242 rfl Tryz.results242 Tryz.ntmps242 rfl ?_
 refine .sr<|.ag rfl<|.ag rfl<|.zs<|.region_all [13, 15] mixed ?_
 refine .tO 0 rfl .move<|.tO 1 rfl .move<|.tK 2 rfl .move<|.tK 3 rfl .move<|.tO 4 rfl .move<|.tO 5 rfl .move ?_
 refine RA.indexO 6 rfl (m) h hp rfl rfl rfl (by kernel_rfl) (λ p20 => ?_)
 refine .tO 7 rfl (.loadA rfl)<|.tO 8 rfl .move<|.tO 9 rfl .move ?_
 refine RA.indexO 10 rfl (a) h hx0 rfl rfl rfl (by kernel_rfl) (λ p24 => ?_)
 refine .tO 11 rfl (.loadA rfl) ?_
 refine RA.indexO 12 rfl (a) h hx0 rfl rfl rfl (by kernel_rfl) (λ p26 => ?_)
 refine .sT 13 rfl ?_
 refine .storeO (a) h hx0 p (λ Tsa hsa => ?_) (h.one _ (mog hp))
 refine .nil (Next.mod rfl ?_)
 refine RA.indexO 14 rfl (m) h hp rfl rfl rfl (by kernel_rfl) (λ p27 => ?_)
 refine .sT 15 rfl ?_
 obtain ⟨zz, hzz⟩ : ∃ u, (xs.set (a) p)[m]? = some u := ⟨_, gge (by rw [List.length_set]; exact (List.getElem?_eq_some_iff.1 hp).1)⟩
 refine .storeO (m) hsa hzz x0 (λ Tsw hsw => ?_) (h.one _ (mog hx0))
 rw [<- swp_eq hx0 hp] at hsw
 refine .nil (Next.mod rfl ?_)
 refine RA.nil (by kernel_rfl) ?_
 have hR0 : RP a b xs (swp xs a m) := (RP.refl xs).step (by omega) (by omega) (by omega) (by omega) (by omega)
 have hat : (swp xs a m)[a]? = some p := by
  rw [swp_get (by omega) (by omega)]
  by_cases hk : a = m
  ·rw [if_pos hk, hx0, <- hp, <- hk, hx0]
  ·rw [if_neg hk, if_pos rfl, hp]
 obtain ⟨ws, hws⟩ : ∃ ws, ws = swp xs a m := ⟨_, rfl⟩
 rw [<- hws] at hsw hR0 hat
 obtain ⟨T0, hT0⟩ : ∃ T0, T0 = Tsw := ⟨_, rfl⟩
 rw [<- hT0] at hsw ⊢
 have hlen0 := hR0.length
 have hO0 := hsw
 clear hsw
 have hQ0 : PQ (λ x => ltc c x p) ws a (a + 1) (b - 1) b p := .start hab hat
 clear hws
 refine seqQ_n<|.sr<|.mo rfl ?_
 refine .ia (a + 1) .add ?_
 refine .mo rfl ?_
 refine .ia (b - 1) .sub ?_
 refine .ag rfl<|.ag rfl<|.zs ?_
 refine Tri.cut (X := Nat) (λ i' => PQ (λ x => ltc c x p) ws a i' (b - 1) b p /\ ∀ x, i' <= b - 1 -> ws[i']? = some x -> ltc c x p = false) (λ i' => [(0, v), (1, iN a), (4, .func (.func f) #[] caps.toArray), (12, .int .i64 (i' : Nat)), (13, .int .i64 ((b - 1 : Nat) : Int))]) (λ _ => [T0]) ?_ ?_
 refine .block ?_
 refine .loop (X := Nat) (λ i' => PQ (λ x => ltc c x p) ws a i' (b - 1) b p) (λ i' => [(0, v), (1, iN a), (4, .func (.func f) #[] caps.toArray), (12, .int .i64 (i' : Nat)), (13, .int .i64 ((b - 1 : Nat) : Int))]) (λ _ => [T0]) (λ i' => b - i') (a + 1) hQ0 kE.c.c.c.c.c rH ?_
 rintro i2 hQ2
 refine .seq<|.seq ?_
 refine .region_tail 13 mixed (by kernel_rfl) ?_
 conv => arg 6; dsimp only [List.take]
 refine .mo rfl<|.mo rfl<|.q .leq<|.mo rfl ?_
 refine .split (t := 35) rfl (λ g3_3 => ?_) (λ g3_3 => ?_)
 have hle2 : i2 <= b - 1 := by have := odt g3_3; omega
 obtain ⟨x2, hx2⟩ : ∃ x, ws[i2]? = some x := ⟨_, gge (by omega)⟩
 have okx2 := hok x2 (hR0.perm.mem_iff.1 (mog hx2))
 refine .gT g3_3<|.mo rfl<|.gT g3_3<|.mo rfl<|.gT g3_3<|.mo rfl<|.gT g3_3 ?_
 refine .indexO i2 hO0 hx2 (λ p39 => ?_)
 refine .gT g3_3<|.q (.loadA rfl)<|.gT g3_3<|.mo rfl<|.gT g3_3<|.mo rfl<|.gT g3_3 ?_
 refine .indexO a hO0 hat (λ p43 => ?_)
 refine .gT g3_3<|.q (.loadA rfl)<|.nil<|.gT g3_3 ?_
 refine .callRV (first := []) (captured := caps) (vs := [(λ t : Tpl => Value.agg t.enc.toArray) x2, (λ t : Tpl => Value.agg t.enc.toArray) p]) (hf x2 p okx2 okp _ (λ b o hb => .inl hb)) (λ u hu => ?_)
 subst hu
 refine .gT g3_3<|.q .lss<|.q (.pickTh g3_3) ?_
 refine .zn ?_
 refine .cond rfl (λ h1 => ?_) λ h1 => ?_
 refine .kn<|.block<|.region<|.mo rfl ?_
 refine .ia (i2 + 1) .add ?_
 refine .ag rfl<|.nil<|blkQ_n ?_
 ·exact loopQ_i (i2 + 1) (hQ2.inc hle2 hx2 h1) (by omega) kE.c.c.c.c.c rH
 refine .exit<|seqQ_x<|loopQ_x<|blkQ_x ?_
 exact joinQ_n i2 ⟨hQ2, λ x hx hxx => by rw [hx2] at hxx; cases hxx; exact h1⟩ kE.c.c.c.c.c rH
 refine .gF g3_3<|.gF g3_3<|.gF g3_3<|.gF g3_3<|.gF g3_3<|.gF g3_3<|.gF g3_3<|.gF g3_3<|.gF g3_3<|.nil<|.gF g3_3<|.gF g3_3<|.q (.pickFh g3_3) ?_
 refine .zn<|.condF<|.exit<|seqQ_x<|loopQ_x<|blkQ_x ?_
 exact joinQ_n i2 ⟨hQ2, λ x hx hxx => by have := odf g3_3; omega⟩ kE.c.c.c.c.c rH
 intro x hx
 obtain ⟨i3, hi3⟩ : ∃ i3, i3 = x := ⟨_, rfl⟩
 rw [<- hi3] at hx ⊢
 clear hi3 x
 obtain ⟨hQ3, hst3⟩ := hx
 refine seqQ_n<|.seq ?_
 refine Tri.cut (X := Nat) (λ j' => j' <= b - 1 /\ PQ (λ x => ltc c x p) ws a i3 j' b p /\ ∀ x, i3 <= j' -> ws[j']? = some x -> ltc c x p = true) (λ j' => [(0, v), (1, iN a), (4, .func (.func f) #[] caps.toArray), (12, iN i3), (13, .int .i64 (j' : Nat))]) (λ _ => [T0]) ?_ ?_
 refine .block ?_
 refine .loop (X := Nat) (λ j' => j' <= b - 1 /\ PQ (λ x => ltc c x p) ws a i3 j' b p) (λ j' => [(0, v), (1, iN a), (4, .func (.func f) #[] caps.toArray), (12, iN i3), (13, .int .i64 (j' : Nat))]) (λ _ => [T0]) (λ j' => j') (b - 1) ⟨Nat.le_refl _, hQ3⟩ kE.c.c.c.c.c rH ?_
 rintro j2 ⟨hj2, hQ4⟩
 have hi30 := hQ3.i0
 refine .seq<|.seq ?_
 refine .region_tail 13 mixed (by kernel_rfl) ?_
 conv => arg 6; dsimp only [List.take]
 refine .mo rfl<|.mo rfl<|.q .leq<|.mo rfl ?_
 refine .split (t := 53) rfl (λ g5_3 => ?_) (λ g5_3 => ?_)
 have hle4 : i3 <= j2 := by have := odt g5_3; omega
 obtain ⟨x4, hx4⟩ : ∃ x, ws[j2]? = some x := ⟨_, gge (by omega)⟩
 have okx4 := hok x4 (hR0.perm.mem_iff.1 (mog hx4))
 refine .gT g5_3<|.mo rfl<|.gT g5_3<|.mo rfl<|.gT g5_3<|.mo rfl<|.gT g5_3 ?_
 refine .indexO j2 hO0 hx4 (λ p57 => ?_)
 refine .gT g5_3<|.q (.loadA rfl)<|.gT g5_3<|.mo rfl<|.gT g5_3<|.mo rfl<|.gT g5_3 ?_
 refine .indexO a hO0 hat (λ p61 => ?_)
 refine .gT g5_3<|.q (.loadA rfl)<|.nil<|.gT g5_3 ?_
 refine .callRV (first := []) (captured := caps) (vs := [(λ t : Tpl => Value.agg t.enc.toArray) x4, (λ t : Tpl => Value.agg t.enc.toArray) p]) (hf x4 p okx4 okp _ (λ b o hb => .inl hb)) (λ u hu => ?_)
 subst hu
 refine .gT g5_3<|.q .lss<|.gT g5_3<|.q .not<|.q (.pickTh g5_3) ?_
 refine .zn ?_
 refine .cond rfl (λ h2 => ?_) λ h2 => ?_
 refine .kn<|.block<|.region<|.mo rfl ?_
 refine .ia (j2 - 1) .sub ?_
 refine .ag rfl<|.nil<|blkQ_n ?_
 ·have hlt4 : ltc c x4 p = false := by
   have h2' : (!ltc c x4 p) = true := h2
   simpa using h2'
  exact loopQ_i (j2 - 1) ⟨by omega, hQ4.dec hle4 hx4 hlt4⟩ (by omega) kE.c.c.c.c.c rH
 refine .exit<|seqQ_x<|loopQ_x<|blkQ_x ?_
 exact joinQ_n j2 ⟨hj2, hQ4, λ x hx hxx => by
  have hh : (!ltc c x4 p) = false := h2
  rw [hx4] at hxx; cases hxx
  simpa using hh⟩ kE.c.c.c.c.c rH
 refine .gF g5_3<|.gF g5_3<|.gF g5_3<|.gF g5_3<|.gF g5_3<|.gF g5_3<|.gF g5_3<|.gF g5_3<|.gF g5_3<|.nil<|.gF g5_3<|.gF g5_3<|.gF g5_3<|.q (.pickFh g5_3) ?_
 refine .zn<|.condF<|.exit<|seqQ_x<|loopQ_x<|blkQ_x ?_
 exact joinQ_n j2 ⟨hj2, hQ4, λ x hx hxx => by have := odf g5_3; omega⟩ kE.c.c.c.c.c rH
 intro x hx
 obtain ⟨j3, hj3⟩ : ∃ j3, j3 = x := ⟨_, rfl⟩
 rw [<- hj3] at hx ⊢
 clear hj3 x
 obtain ⟨hjj3, hQ5, hst5⟩ := hx
 have hi30 := hQ5.i0
 have hij5 := hQ5.ij
 refine seqQ_n<|.seq<|.sr<|.mo rfl<|.mo rfl<|.q .gtr<|.zn ?_
 refine .cond rfl (λ h3 => ?_) λ h3 => ?_
 have hgt5 : j3 < i3 := lt_i h3
 obtain ⟨y, hy⟩ : ∃ x, ws[j3]? = some x := ⟨_, gge (by omega)⟩
 refine .seq<|.region_all [13, 15] mixed ?_
 refine .tO 0 rfl .move<|.tO 1 rfl .move<|.tK 2 rfl .move<|.tK 3 rfl .move<|.tO 4 rfl .move<|.tO 5 rfl .move ?_
 refine RA.indexO 6 rfl (a) hO0 hat rfl rfl rfl (by kernel_rfl) (λ p78 => ?_)
 refine .tO 7 rfl (.loadA rfl)<|.tO 8 rfl .move<|.tO 9 rfl .move ?_
 refine RA.indexO 10 rfl (j3) hO0 hy rfl rfl rfl (by kernel_rfl) (λ p82 => ?_)
 refine .tO 11 rfl (.loadA rfl) ?_
 refine RA.indexO 12 rfl (j3) hO0 hy rfl rfl rfl (by kernel_rfl) (λ p84 => ?_)
 refine .sT 13 rfl ?_
 refine .storeO (j3) hO0 hy p (λ Tsa hsa => ?_) (hO0.one _ (mog hat))
 refine .nil (Next.mod rfl ?_)
 refine RA.indexO 14 rfl (a) hO0 hat rfl rfl rfl (by kernel_rfl) (λ p85 => ?_)
 refine .sT 15 rfl ?_
 obtain ⟨zz, hzz⟩ : ∃ u, (ws.set (j3) p)[a]? = some u := ⟨_, gge (by rw [List.length_set]; exact (List.getElem?_eq_some_iff.1 hat).1)⟩
 refine .storeO (a) hsa hzz y (λ Tsw hsw => ?_) (hO0.one _ (mog hy))
 rw [<- swp_eq hy hat] at hsw
 refine .nil (Next.mod rfl ?_)
 refine RA.nil (by kernel_rfl) ?_
 refine seqQ_n<|.sr<|.mo rfl<|.ag rfl<|.az rfl ?_
 refine .ret (seqQ_r (retQ_r _ (.two (.tmp rfl) (.tmp rfl)) rH ?_))
 ·exact ⟨_, rfl, swp ws j3 a, j3, true, rfl, hsw, hR0.step (by omega) (by omega) (by omega) (by omega) (by omega), hQ5.fin hgt5 (by omega)⟩
 have hle5 : i3 <= j3 := by have := odf h3; omega
 obtain ⟨x, hx⟩ : ∃ x, ws[i3]? = some x := ⟨_, gge (by omega)⟩
 obtain ⟨y, hy⟩ : ∃ x, ws[j3]? = some x := ⟨_, gge (by omega)⟩
 have hq6 := hQ5.sw hle5 (by omega) hx hy (hst3 x (by omega) hx) (hst5 y hle5 hy)
 refine .kn<|.seq<|.region_all [13, 15] mixed ?_
 refine .tO 0 rfl .move<|.tO 1 rfl .move<|.tK 2 rfl .move<|.tK 3 rfl .move<|.tO 4 rfl .move<|.tO 5 rfl .move ?_
 refine RA.indexO 6 rfl (j3) hO0 hy rfl rfl rfl (by kernel_rfl) (λ p93 => ?_)
 refine .tO 7 rfl (.loadA rfl)<|.tO 8 rfl .move<|.tO 9 rfl .move ?_
 refine RA.indexO 10 rfl (i3) hO0 hx rfl rfl rfl (by kernel_rfl) (λ p97 => ?_)
 refine .tO 11 rfl (.loadA rfl) ?_
 refine RA.indexO 12 rfl (i3) hO0 hx rfl rfl rfl (by kernel_rfl) (λ p99 => ?_)
 refine .sT 13 rfl ?_
 refine .storeO (i3) hO0 hx y (λ Tsa hsa => ?_) (hO0.one _ (mog hy))
 refine .nil (Next.mod rfl ?_)
 refine RA.indexO 14 rfl (j3) hO0 hy rfl rfl rfl (by kernel_rfl) (λ p100 => ?_)
 refine .sT 15 rfl ?_
 obtain ⟨zz, hzz⟩ : ∃ u, (ws.set (i3) y)[j3]? = some u := ⟨_, gge (by rw [List.length_set]; exact (List.getElem?_eq_some_iff.1 hy).1)⟩
 refine .storeO (j3) hsa hzz x (λ Tsw hsw => ?_) (hO0.one _ (mog hx))
 rw [<- swp_eq hx hy] at hsw
 refine .nil (Next.mod rfl ?_)
 refine RA.nil (by kernel_rfl) ?_
 refine seqQ_n<|.sr<|.mo rfl ?_
 refine .ia (i3 + 1) .add ?_
 refine .ag rfl<|.z<|.mo rfl ?_
 refine .ia (j3 - 1) .sub ?_
 refine .ag rfl<|.zs ?_
 refine Tri.cut (X := Nat × Nat × List Tpl × Seg) (λ y => OS 151 7 Tpl.enc v y.2.2.1 y.2.2.2 /\ RP a b xs y.2.2.1 /\ PQ (λ x => ltc c x p) y.2.2.1 a y.1 y.2.1 b p /\ y.2.1 < y.1) (λ y => [(0, v), (1, iN a), (4, .func (.func f) #[] caps.toArray), (12, iN y.1), (13, iN y.2.1)]) (λ y => [y.2.2.2]) ?_ ?_
 refine .block ?_
 refine .loop (X := Nat × Nat × List Tpl × Seg) (λ y => OS 151 7 Tpl.enc v y.2.2.1 y.2.2.2 /\ RP a b xs y.2.2.1 /\ PQ (λ x => ltc c x p) y.2.2.1 a y.1 y.2.1 b p) (λ y => [(0, v), (1, iN a), (4, .func (.func f) #[] caps.toArray), (12, iN y.1), (13, iN y.2.1)]) (λ y => [y.2.2.2]) (λ y => y.2.1 + 1 - y.1) (i3 + 1, j3 - 1, swp ws i3 j3, Tsw) ⟨hsw, hR0.step (by omega) (by omega) (by omega) (by omega) (by omega), hq6.2⟩ kE.c.c.c.c.c rH ?_
 rintro ⟨i, j, ys, T1⟩ ⟨hO1, hR1, hQ1⟩
 simp only at hO1 hR1 hQ1 ⊢
 have hlen := hR1.length
 have hi0 := hQ1.i0
 have hij := hQ1.ij
 have hjb := hQ1.jb
 have hpa := hQ1.at_
 refine .block<|.seq ?_
 refine Tri.cut (X := Nat) (λ i' => i <= i' /\ PQ (λ x => ltc c x p) ys a i' j b p /\ ∀ x, i' <= j -> ys[i']? = some x -> ltc c x p = false) (λ i' => [(0, v), (1, iN a), (4, .func (.func f) #[] caps.toArray), (12, .int .i64 (i' : Nat)), (13, iN j)]) (λ _ => [T1]) ?_ ?_
 refine .block ?_
 refine .loop (X := Nat) (λ i' => i <= i' /\ PQ (λ x => ltc c x p) ys a i' j b p) (λ i' => [(0, v), (1, iN a), (4, .func (.func f) #[] caps.toArray), (12, .int .i64 (i' : Nat)), (13, iN j)]) (λ _ => [T1]) (λ i' => j + 1 - i') i ⟨Nat.le_refl _, hQ1⟩ kE.c.c.c.c.c rH ?_
 rintro k2 ⟨hk2, hW2⟩
 refine .seq<|.seq ?_
 refine .region_tail 13 mixed (by kernel_rfl) ?_
 conv => arg 6; dsimp only [List.take]
 refine .mo rfl<|.mo rfl<|.q .leq<|.mo rfl ?_
 refine .split (t := 108) rfl (λ g13_3 => ?_) (λ g13_3 => ?_)
 have hle6 : k2 <= j := by have := odt g13_3; omega
 obtain ⟨x6, hx6⟩ : ∃ x, ys[k2]? = some x := ⟨_, gge (by omega)⟩
 have okx6 := hok x6 (hR1.perm.mem_iff.1 (mog hx6))
 refine .gT g13_3<|.mo rfl<|.gT g13_3<|.mo rfl<|.gT g13_3<|.mo rfl<|.gT g13_3 ?_
 refine .indexO k2 hO1 hx6 (λ p112 => ?_)
 refine .gT g13_3<|.q (.loadA rfl)<|.gT g13_3<|.mo rfl<|.gT g13_3<|.mo rfl<|.gT g13_3 ?_
 refine .indexO a hO1 hpa (λ p116 => ?_)
 refine .gT g13_3<|.q (.loadA rfl)<|.nil<|.gT g13_3 ?_
 refine .callRV (first := []) (captured := caps) (vs := [(λ t : Tpl => Value.agg t.enc.toArray) x6, (λ t : Tpl => Value.agg t.enc.toArray) p]) (hf x6 p okx6 okp _ (λ b o hb => .inl hb)) (λ u hu => ?_)
 subst hu
 refine .gT g13_3<|.q .lss<|.q (.pickTh g13_3) ?_
 refine .zn ?_
 refine .cond rfl (λ h4 => ?_) λ h4 => ?_
 refine .kn<|.block<|.region<|.mo rfl ?_
 refine .ia (k2 + 1) .add ?_
 refine .ag rfl<|.nil<|blkQ_n ?_
 ·exact loopQ_i (k2 + 1) ⟨by omega, hW2.inc hle6 hx6 h4⟩ (by omega) kE.c.c.c.c.c rH
 refine .exit<|seqQ_x<|loopQ_x<|blkQ_x ?_
 exact joinQ_n k2 ⟨hk2, hW2, λ x hx hxx => by rw [hx6] at hxx; cases hxx; exact h4⟩ kE.c.c.c.c.c rH
 refine .gF g13_3<|.gF g13_3<|.gF g13_3<|.gF g13_3<|.gF g13_3<|.gF g13_3<|.gF g13_3<|.gF g13_3<|.gF g13_3<|.nil<|.gF g13_3<|.gF g13_3<|.q (.pickFh g13_3) ?_
 refine .zn<|.condF<|.exit<|seqQ_x<|loopQ_x<|blkQ_x ?_
 exact joinQ_n k2 ⟨hk2, hW2, λ x hx hxx => by have := odf g13_3; omega⟩ kE.c.c.c.c.c rH
 intro x hx
 obtain ⟨k3, hk3⟩ : ∃ k3, k3 = x := ⟨_, rfl⟩
 rw [<- hk3] at hx ⊢
 clear hk3 x
 obtain ⟨hik3, hW3, hst6⟩ := hx
 refine seqQ_n<|.seq ?_
 refine Tri.cut (X := Nat) (λ j' => j' <= j /\ PQ (λ x => ltc c x p) ys a k3 j' b p /\ ∀ x, k3 <= j' -> ys[j']? = some x -> ltc c x p = true) (λ j' => [(0, v), (1, iN a), (4, .func (.func f) #[] caps.toArray), (12, iN k3), (13, .int .i64 (j' : Nat))]) (λ _ => [T1]) ?_ ?_
 refine .block ?_
 refine .loop (X := Nat) (λ j' => j' <= j /\ PQ (λ x => ltc c x p) ys a k3 j' b p) (λ j' => [(0, v), (1, iN a), (4, .func (.func f) #[] caps.toArray), (12, iN k3), (13, .int .i64 (j' : Nat))]) (λ _ => [T1]) (λ j' => j') j ⟨Nat.le_refl _, hW3⟩ kE.c.c.c.c.c rH ?_
 rintro m2 ⟨hm2, hW4⟩
 have hk30 := hW3.i0
 refine .seq<|.seq ?_
 refine .region_tail 13 mixed (by kernel_rfl) ?_
 conv => arg 6; dsimp only [List.take]
 refine .mo rfl<|.mo rfl<|.q .leq<|.mo rfl ?_
 refine .split (t := 126) rfl (λ g15_3 => ?_) (λ g15_3 => ?_)
 have hle7 : k3 <= m2 := by have := odt g15_3; omega
 obtain ⟨x7, hx7⟩ : ∃ x, ys[m2]? = some x := ⟨_, gge (by omega)⟩
 have okx7 := hok x7 (hR1.perm.mem_iff.1 (mog hx7))
 refine .gT g15_3<|.mo rfl<|.gT g15_3<|.mo rfl<|.gT g15_3<|.mo rfl<|.gT g15_3 ?_
 refine .indexO m2 hO1 hx7 (λ p130 => ?_)
 refine .gT g15_3<|.q (.loadA rfl)<|.gT g15_3<|.mo rfl<|.gT g15_3<|.mo rfl<|.gT g15_3 ?_
 refine .indexO a hO1 hpa (λ p134 => ?_)
 refine .gT g15_3<|.q (.loadA rfl)<|.nil<|.gT g15_3 ?_
 refine .callRV (first := []) (captured := caps) (vs := [(λ t : Tpl => Value.agg t.enc.toArray) x7, (λ t : Tpl => Value.agg t.enc.toArray) p]) (hf x7 p okx7 okp _ (λ b o hb => .inl hb)) (λ u hu => ?_)
 subst hu
 refine .gT g15_3<|.q .lss<|.gT g15_3<|.q .not<|.q (.pickTh g15_3) ?_
 refine .zn ?_
 refine .cond rfl (λ h5 => ?_) λ h5 => ?_
 refine .kn<|.block<|.region<|.mo rfl ?_
 refine .ia (m2 - 1) .sub ?_
 refine .ag rfl<|.nil<|blkQ_n ?_
 ·have hlt7 : ltc c x7 p = false := by
   have h5' : (!ltc c x7 p) = true := h5
   simpa using h5'
  exact loopQ_i (m2 - 1) ⟨by omega, hW4.dec hle7 hx7 hlt7⟩ (by omega) kE.c.c.c.c.c rH
 refine .exit<|seqQ_x<|loopQ_x<|blkQ_x ?_
 exact joinQ_n m2 ⟨hm2, hW4, λ x hx hxx => by
  have hh : (!ltc c x7 p) = false := h5
  rw [hx7] at hxx; cases hxx
  simpa using hh⟩ kE.c.c.c.c.c rH
 refine .gF g15_3<|.gF g15_3<|.gF g15_3<|.gF g15_3<|.gF g15_3<|.gF g15_3<|.gF g15_3<|.gF g15_3<|.gF g15_3<|.nil<|.gF g15_3<|.gF g15_3<|.gF g15_3<|.q (.pickFh g15_3) ?_
 refine .zn<|.condF<|.exit<|seqQ_x<|loopQ_x<|blkQ_x ?_
 exact joinQ_n m2 ⟨hm2, hW4, λ x hx hxx => by have := odf g15_3; omega⟩ kE.c.c.c.c.c rH
 intro x hx
 obtain ⟨m3, hm3⟩ : ∃ m3, m3 = x := ⟨_, rfl⟩
 rw [<- hm3] at hx ⊢
 clear hm3 x
 obtain ⟨hjm3, hW5, hst8⟩ := hx
 have hk30 := hW5.i0
 have hij8 := hW5.ij
 refine seqQ_n<|.seq<|.sr<|.mo rfl<|.mo rfl<|.q .gtr<|.zn ?_
 refine .cond rfl (λ h6 => ?_) λ h6 => ?_
 refine .exit (seqQ_x (blkQ_y (loopQ_x (blkQ_x ?_))))
 exact joinQ_n (k3, m3, ys, T1) ⟨hO1, hR1, hW5, by have := odt h6; simp only; omega⟩ kE.c.c.c.c.c rH
 have hle8 : k3 <= m3 := by have := odf h6; omega
 obtain ⟨x8, hx8⟩ : ∃ x, ys[k3]? = some x := ⟨_, gge (by omega)⟩
 obtain ⟨y8, hy8⟩ : ∃ x, ys[m3]? = some x := ⟨_, gge (by omega)⟩
 have hq8 := hW5.sw hle8 (by omega) hx8 hy8 (hst6 x8 (by omega) hx8) (hst8 y8 hle8 hy8)
 refine .kn<|.seq<|.region_all [13, 15] mixed ?_
 refine .tO 0 rfl .move<|.tO 1 rfl .move<|.tK 2 rfl .move<|.tK 3 rfl .move<|.tO 4 rfl .move<|.tO 5 rfl .move ?_
 refine RA.indexO 6 rfl (m3) hO1 hy8 rfl rfl rfl (by kernel_rfl) (λ p151 => ?_)
 refine .tO 7 rfl (.loadA rfl)<|.tO 8 rfl .move<|.tO 9 rfl .move ?_
 refine RA.indexO 10 rfl (k3) hO1 hx8 rfl rfl rfl (by kernel_rfl) (λ p155 => ?_)
 refine .tO 11 rfl (.loadA rfl) ?_
 refine RA.indexO 12 rfl (k3) hO1 hx8 rfl rfl rfl (by kernel_rfl) (λ p157 => ?_)
 refine .sT 13 rfl ?_
 refine .storeO (k3) hO1 hx8 y8 (λ Tsa hsa => ?_) (hO1.one _ (mog hy8))
 refine .nil (Next.mod rfl ?_)
 refine RA.indexO 14 rfl (m3) hO1 hy8 rfl rfl rfl (by kernel_rfl) (λ p158 => ?_)
 refine .sT 15 rfl ?_
 obtain ⟨zz, hzz⟩ : ∃ u, (ys.set (k3) y8)[m3]? = some u := ⟨_, gge (by rw [List.length_set]; exact (List.getElem?_eq_some_iff.1 hy8).1)⟩
 refine .storeO (m3) hsa hzz x8 (λ Tsw hsw => ?_) (hO1.one _ (mog hx8))
 rw [<- swp_eq hx8 hy8] at hsw
 refine .nil (Next.mod rfl ?_)
 refine RA.nil (by kernel_rfl) ?_
 refine seqQ_n<|.sr<|.mo rfl ?_
 refine .ia (k3 + 1) .add ?_
 refine .az rfl<|.region<|.mo rfl ?_
 refine .ia (m3 - 1) .sub ?_
 refine .ag rfl<|.nil<|blkQ_n ?_
 ·exact loopQ_i (k3 + 1, m3 - 1, swp ys k3 m3, Tsw) ⟨hsw, hR1.step (by omega) (by omega) (by omega) (by omega) (by omega), hq8.2⟩ (by simp only; omega) kE.c.c.c.c.c rH
 intro x hx
 obtain ⟨i9, j9, zs, T9⟩ := x
 obtain ⟨hO9, hR9, hQ9, hji9⟩ := hx
 simp only at hO9 hR9 hQ9 hji9 ⊢
 have hlen9 := hR9.length
 have hij9 := hQ9.ij
 have hi09 := hQ9.i0
 have hjb9 := hQ9.jb
 have hp9 := hQ9.at_
 obtain ⟨y9, hy9⟩ : ∃ x, zs[j9]? = some x := ⟨_, gge (by omega)⟩
 refine seqQ_n<|.seq<|.region_all [13, 15] mixed ?_
 refine .tO 0 rfl .move<|.tO 1 rfl .move<|.tK 2 rfl .move<|.tK 3 rfl .move<|.tO 4 rfl .move<|.tO 5 rfl .move ?_
 refine RA.indexO 6 rfl (a) hO9 hp9 rfl rfl rfl (by kernel_rfl) (λ p169 => ?_)
 refine .tO 7 rfl (.loadA rfl)<|.tO 8 rfl .move<|.tO 9 rfl .move ?_
 refine RA.indexO 10 rfl (j9) hO9 hy9 rfl rfl rfl (by kernel_rfl) (λ p173 => ?_)
 refine .tO 11 rfl (.loadA rfl) ?_
 refine RA.indexO 12 rfl (j9) hO9 hy9 rfl rfl rfl (by kernel_rfl) (λ p175 => ?_)
 refine .sT 13 rfl ?_
 refine .storeO (j9) hO9 hy9 p (λ Tsa hsa => ?_) (hO9.one _ (mog hp9))
 refine .nil (Next.mod rfl ?_)
 refine RA.indexO 14 rfl (a) hO9 hp9 rfl rfl rfl (by kernel_rfl) (λ p176 => ?_)
 refine .sT 15 rfl ?_
 obtain ⟨zz, hzz⟩ : ∃ u, (zs.set (j9) p)[a]? = some u := ⟨_, gge (by rw [List.length_set]; exact (List.getElem?_eq_some_iff.1 hp9).1)⟩
 refine .storeO (a) hsa hzz y9 (λ Tsw hsw => ?_) (hO9.one _ (mog hy9))
 rw [<- swp_eq hy9 hp9] at hsw
 refine .nil (Next.mod rfl ?_)
 refine RA.nil (by kernel_rfl) ?_
 refine seqQ_n<|.sr<|.mo rfl<|.ag rfl<|.az rfl ?_
 refine .ret (retQ_r _ (.two (.tmp rfl) (.tmp rfl)) rH ?_)
 ·exact ⟨_, rfl, swp zs j9 a, j9, false, rfl, hsw, hR9.step (by omega) (by omega) (by omega) (by omega) (by omega), hQ9.fin hji9 (by omega)⟩
end
end STP
namespace STP
section
variable {c : Tpl -> Tpl -> Int} {ok : Tpl -> Prop} {f : FuncId} {caps : List Value} [e : Ent prog f]
def Pdq (c : Tpl -> Tpl -> Int) (ok : Tpl -> Prop) (f : FuncId) (caps : List Value) (n : Nat) : Prop := ∀ (v : Value) (xs : List Tpl) (T : Seg) (a b lim : Nat) (R : Rds), OS 151 7 Tpl.enc v xs T -> a <= b -> b <= xs.length -> xs.length <= 1000000000 -> lim <= 1000000000 -> FnC prog f caps R (λ t : Tpl => Value.agg t.enc.toArray) c ok -> (∀ x ∈ xs, ok x) -> LB (ltc c) xs a b -> b - a < n ->
  Spec prog 187 [v, .int .i64 a, .int .i64 b, .int .i64 lim, .func (.func f) #[] caps.toArray] R [T] λ u H' => ∃ T', H' = [T'] /\ u = .tuple #[] /\ ∃ ys, OS 151 7 Tpl.enc v ys T' /\ RP a b xs ys /\ SR (ltc c) ys a b
theorem pdq_step (n : Nat) (ih : Pdq c ok f caps n) (so : SO (ltc c)) (v : Value) (xs : List Tpl) (T : Seg) (a0 b0 lim : Nat) (R : Rds) (h : OS 151 7 Tpl.enc v xs T) (hab : a0 <= b0) (hb : b0 <= xs.length) (hl : xs.length <= 1000000000) (hlim : lim <= 1000000000) (hf : FnC prog f caps R (λ t : Tpl => Value.agg t.enc.toArray) c ok) (hok : ∀ x ∈ xs, ok x) (hlb : LB (ltc c) xs a0 b0) (hn : b0 - a0 < n + 1) :
  Spec prog 187 [v, .int .i64 a0, .int .i64 b0, .int .i64 lim, .func (.func f) #[] caps.toArray] R [T] λ u H' => ∃ T', H' = [T'] /\ u = .tuple #[] /\ ∃ ys, OS 151 7 Tpl.enc v ys T' /\ RP a0 b0 xs ys /\ SR (ltc c) ys a0 b0 := by
 have iv := h.oneCell
 refine Spec.body Tryz.func187 rfl Tryz.results187 Tryz.ntmps187 rfl<|.sr<|.ag rfl<|.z<|.az rfl<|.block<|.loop (X := Nat × Nat × Nat × Bool × Bool × List Tpl × Seg) (λ y => (a0 <= y.1 /\ y.1 <= y.2.1 /\ y.2.1 <= b0 /\ y.2.2.1 <= 1000000000) /\ OS 151 7 Tpl.enc v y.2.2.2.2.2.1 y.2.2.2.2.2.2 /\ RP a0 b0 xs y.2.2.2.2.2.1 /\ OX (ltc c) y.2.2.2.2.2.1 a0 b0 y.1 y.2.1) (λ y => [(0, v), (1, iN y.1), (2, iN y.2.1), (3, iN y.2.2.1), (4, .func (.func f) #[] caps.toArray), (10, .bool y.2.2.2.1), (11, .bool y.2.2.2.2.1)]) (λ y => [y.2.2.2.2.2.2]) (λ y => y.2.1 - y.1) (a0, b0, lim, true, true, xs, T) ⟨⟨Nat.le_refl _, hab, Nat.le_refl _, hlim⟩, h, .refl _, .start⟩ kE.c.c.c.c.c.c.c rH ?_
 rintro ⟨a, b, l, wb, wp, ys, T1⟩ ⟨⟨ha0, hab1, hb0, hl1⟩, hO1, hR1, hX1⟩
 simp only at ha0 hab1 hb0 hl1 hO1 hR1 hX1 ⊢
 have hlen := hR1.length
 have hok1 : ∀ x ∈ ys, ok x := λ x hx => hok x (hR1.perm.mem_iff.1 hx)
 have hlb1 := hX1.lb (hlb.rp hR1) ha0 hb0
 refine .block<|.sr<|.mo rfl<|.mo rfl<|.ia (b - a) .sub<|.ag rfl<|.zs<|.sr<|.mo rfl<|.q .leq<|.zn<|.cond rfl (λ h1 => ?_) λ h1 => ?_
 refine .sr<|.mo rfl<|.mo rfl<|.mo rfl<|.mo rfl<|.callM (ins_spec v ys T1 a b _ hO1 hab1 (by omega) (by omega) hf hok1 so) (λ u T2 hu => ?_)
 obtain ⟨rfl, zs, hO2, hR2, hS2⟩ := hu
 refine .zn<|.ret (seqQ_r (blkQ_r (loopQ_r (blkQ_r (retQ_r _ .none rH ?_)))))
 ·exact ⟨_, rfl, rfl, zs, hO2, hR1.trans (hR2.mono ha0 hb0 (by omega)), (hX1.rp hR2 ha0 hb0).sorted hS2⟩
 have hlong : 12 < b - a := by have := odf h1; omega
 refine .kn<|.seq<|.sr<|.mo rfl<|.q .eqI<|.zn<|.cond rfl (λ h2 => ?_) λ h2 => ?_
 refine .sr<|.mo rfl<|.mo rfl<|.mo rfl<|.mo rfl<|.callM (heap_spec v ys T1 a b _ hO1 hab1 (by omega) (by omega) hf hok1 so) (λ u T2 hu => ?_)
 obtain ⟨rfl, zs, hO2, hR2, hS2⟩ := hu
 refine .zn<|.ret (seqQ_r (blkQ_r (loopQ_r (blkQ_r (retQ_r _ .none rH ?_)))))
 ·exact ⟨_, rfl, rfl, zs, hO2, hR1.trans (hR2.mono ha0 hb0 (by omega)), (hX1.rp hR2 ha0 hb0).sorted hS2⟩
 have hl0 : 0 < l := by
  have h2' : ¬ ((l : Int) = 0) := by simpa using h2
  omega
 refine .kn<|.seq ?_
 refine Tri.cut (X := Nat × List Tpl × Seg) (λ z => z.1 <= 1000000000 /\ OS 151 7 Tpl.enc v z.2.1 z.2.2 /\ RP a b ys z.2.1) (λ z => [(0, v), (1, iN a), (2, iN b), (3, iN z.1), (4, .func (.func f) #[] caps.toArray), (10, .bool wb), (11, .bool wp), (12, .int .i64 ((b - a : Nat) : Int))]) (λ z => [z.2.2]) ?_ ?_
 refine .sr<|.mo rfl<|.q .not<|.zn<|.cond rfl (λ h3 => ?_) λ h3 => ?_
 refine .sr<|.mo rfl<|.mo rfl<|.mo rfl<|.mo rfl<|.callM (break_spec v ys T1 a b _ (.func (.func f) #[] caps.toArray) inferInstance hO1 hab1 (by omega) (by omega)) (λ u T2 hu => ?_)
 obtain ⟨rfl, zs, hO2, hR2⟩ := hu
 refine .zn<|.region<|.mo rfl<|.ia (l - 1) .sub<|.ag rfl<|.nil ?_
 ·exact joinQ_n (l - 1, zs, T2) ⟨by simp only; omega, hO2, hR2⟩ kE.c.c.c.c.c.c.c.c rH
 refine .skip ?_
 ·exact joinQ_n (l, ys, T1) ⟨by simp only; omega, hO1, .refl _⟩ kE.c.c.c.c.c.c.c.c rH
 intro y hy
 obtain ⟨l2, zs, T2⟩ := y
 obtain ⟨hl2, hO2, hR2⟩ := hy
 simp only at hl2 hO2 hR2 ⊢
 have hlen2 := hR2.length
 have hok2 : ∀ x ∈ zs, ok x := λ x hx => hok1 x (hR2.perm.mem_iff.1 hx)
 refine seqQ_n<|.sr<|.mo rfl<|.mo rfl<|.mo rfl<|.mo rfl<|.callR (choose_spec v zs a b _ (hO2.rs λ p hp => .inr (by simpa using hp)) (by omega) (by omega) (by omega) (hf.mono λ b o hb => .inl hb) hok2) (λ u hu => ?_)
 obtain ⟨pv, hint, rfl, hpa, hpb⟩ := hu
 refine .mo rfl<|.q .extract<|.q .extract<|.ag rfl<|.ag rfl<|.zs ?_
 refine Tri.cut (X := Nat × Int × List Tpl × Seg) (λ z => (a <= z.1 /\ z.1 < b) /\ OS 151 7 Tpl.enc v z.2.2.1 z.2.2.2 /\ RP a b ys z.2.2.1) (λ z => [(0, v), (1, iN a), (2, iN b), (3, iN l2), (4, .func (.func f) #[] caps.toArray), (10, .bool wb), (11, .bool wp), (12, .int .i64 ((b - a : Nat) : Int)), (13, iN z.1), (14, .int .i64 z.2.1)]) (λ z => [z.2.2.2]) ?_ ?_
 refine .sr<|.mo rfl<|.q .eqI<|.zn<|.cond rfl (λ h4 => ?_) λ h4 => ?_
 refine .sr<|.mo rfl<|.mo rfl<|.mo rfl<|.mo rfl<|.callM (reverse_spec v zs T2 a b _ (.func (.func f) #[] caps.toArray) inferInstance hO2 (by omega) (by omega) (by omega)) (λ u T3 hu => ?_)
 obtain ⟨rfl, ws, hO3, hR3⟩ := hu
 refine .z<|.mo rfl<|.ia (b - 1) .sub<|.mo rfl<|.mo rfl<|.ia (pv - a) .sub<|.ia ((b - 1) - (pv - a)) .sub<|.az rfl<|.region<|.ag rfl<|.nil ?_
 ·exact joinQ_n ((b - 1) - (pv - a), 1, ws, T3) ⟨by simp only; omega, hO3, hR2.trans hR3⟩ kE.c.c.c.c.c.c.c.c.c.c rH
 refine .skip ?_
 ·exact joinQ_n (pv, hint, zs, T2) ⟨⟨hpa, hpb⟩, hO2, hR2⟩ kE.c.c.c.c.c.c.c.c.c.c rH
 intro y hy
 obtain ⟨q, hn3, us, T4⟩ := y
 obtain ⟨⟨hqa, hqb⟩, hO4, hR4⟩ := hy
 simp only at hqa hqb hO4 hR4 ⊢
 have hlen4 := hR4.length
 have hok4 : ∀ x ∈ us, ok x := λ x hx => hok1 x (hR4.perm.mem_iff.1 hx)
 refine seqQ_n<|.seq ?_
 refine Tri.cut (X := List Tpl × Seg) (λ z => OS 151 7 Tpl.enc v z.1 z.2 /\ RP a b ys z.1) (λ z => [(0, v), (1, iN a), (2, iN b), (3, iN l2), (4, .func (.func f) #[] caps.toArray), (10, .bool wb), (11, .bool wp), (12, .int .i64 ((b - a : Nat) : Int)), (13, iN q)]) (λ z => [z.2]) ?_ ?_
 refine .sr<|.mo rfl<|.mo rfl<|.split (t := 69) rfl (λ g15_1 => ?_) (λ g15_1 => ?_)
 refine .gT g15_1<|.mo rfl<|.q (.pickTh g15_1)<|.mo rfl<|.split (t := 72) rfl (λ g15_4 => ?_) (λ g15_4 => ?_)
 refine .gT g15_4<|.mo rfl<|.gT g15_4<|.q .eqI<|.q (.pickTh g15_4)<|.zn<|.cond rfl (λ h5 => ?_) λ h5 => ?_
 refine .sr<|.mo rfl<|.mo rfl<|.mo rfl<|.mo rfl<|.callM (part_spec v us T4 a b _ hO4 (by omega) (by omega) (by omega) hf hok4 so (hlb1.rp hR4)) (λ u T5 hu => ?_)
 obtain ⟨ms, mb, rfl, hO5, hR5, hS5⟩ := hu
 refine .zn<|.cond rfl (λ h6 => ?_) λ h6 => ?_
 refine .ret (joinQ_r (seqQ_r (blkQ_r (loopQ_r (blkQ_r (retQ_r _ .none rH ?_))))))
 ·exact ⟨_, rfl, rfl, ms, hO5, hR1.trans ((hR4.trans hR5).mono ha0 hb0 (by omega)), (hX1.rp (hR4.trans hR5) ha0 hb0).sorted (hS5 (by assumption))⟩
 refine .skip ?_
 ·exact joinQ_n (ms, T5) ⟨hO5, hR4.trans hR5⟩ kE.c.c.c.c.c.c.c.c.c rH
 refine .skip ?_
 ·exact joinQ_n (us, T4) ⟨hO4, hR4⟩ kE.c.c.c.c.c.c.c.c.c rH
 refine .gF g15_4<|.gF g15_4<|.q (.pickFh g15_4)<|.zn<|.condF<|.skip ?_
 ·exact joinQ_n (us, T4) ⟨hO4, hR4⟩ kE.c.c.c.c.c.c.c.c.c rH
 refine .gF g15_1<|.q (.pickFh g15_1)<|.mo rfl<|.gX<|.gX<|.q .pickF<|.zn<|.condF<|.skip ?_
 ·exact joinQ_n (us, T4) ⟨hO4, hR4⟩ kE.c.c.c.c.c.c.c.c.c rH
 intro y hy
 obtain ⟨us2, T6⟩ := y
 obtain ⟨hO6, hR6⟩ := hy
 simp only at hO6 hR6 ⊢
 have hlen6 := hR6.length
 have hok6 : ∀ x ∈ us2, ok x := λ x hx => hok1 x (hR6.perm.mem_iff.1 hx)
 have hR06 : RP a0 b0 xs us2 := hR1.trans (hR6.mono ha0 hb0 (by omega))
 have hX6 := hX1.rp hR6 ha0 hb0
 have hlb6 := hlb1.rp hR6
 obtain ⟨p, hp⟩ : ∃ x, us2[q]? = some x := ⟨_, gge (by omega)⟩
 have okp := hok6 p (mog hp)
 refine seqQ_n<|.seq<|.seq<|.region_tail 13 mixed (by kernel_rfl) ?_
 conv => arg 6; dsimp only [List.take]
 refine .mo rfl<|.q .gtr<|.mo rfl<|.split (t := 83) rfl (λ g17_2 => ?_) (λ g17_2 => ?_)
 have ha1 : 0 < a := by have := odt g17_2; omega
 obtain ⟨w, hw⟩ : ∃ x, us2[a - 1]? = some x := ⟨_, gge (by omega)⟩
 have okw := hok6 w (mog hw)
 refine .gT g17_2<|.mo rfl<|.gT g17_2<|.mo rfl<|.gT g17_2<|.mo rfl<|.gT g17_2<|.ia (a - 1) .sub<|.gT g17_2 ?_
 refine .indexO (a - 1) hO6 hw (λ p88 => ?_)
 refine .gT g17_2<|.q (.loadA rfl)<|.gT g17_2<|.mo rfl<|.gT g17_2<|.mo rfl<|.gT g17_2 ?_
 refine .indexO q hO6 hp (λ p92 => ?_)
 refine .gT g17_2<|.q (.loadA rfl)<|.nil<|.gT g17_2<|.callRV (first := []) (captured := caps) (vs := [(λ t : Tpl => Value.agg t.enc.toArray) w, (λ t : Tpl => Value.agg t.enc.toArray) p]) (hf w p okw okp _ (λ b o hb => .inl hb)) (λ u hu => ?_)
 subst hu
 refine .gT g17_2<|.q .lss<|.gT g17_2<|.q .not<|.q (.pickTh g17_2)<|.zn<|.cond rfl (λ h7 => ?_) λ h7 => ?_
 have hnl : ltc c w p = false := by
  have h7' : (!ltc c w p) = true := h7
  simpa using h7'
 refine .sr<|.mo rfl<|.mo rfl<|.mo rfl<|.mo rfl<|.mo rfl<|.callM (partE_spec v us2 T6 a b q p _ hO6 (by omega) ⟨hqa, hqb⟩ hp (by omega) (by omega) hf hok6 so (hlb6.nol so ha1 hw hnl)) (λ u T7 hu => ?_)
 obtain ⟨qs, mid, rfl, hO7, hR7, hP7⟩ := hu
 have hmlo := hP7.lo
 have hmhi := hP7.hi
 refine .ag rfl<|.z<|.mo rfl<|.az rfl<|.exit<|seqQ_x<|blkQ_x ?_
 ·exact loopQ_i (mid, b, l2, _, _, qs, T7) ⟨⟨by simp only; omega, hmhi, hb0, hl2⟩, hO7, hR06.trans (hR7.mono ha0 hb0 (by omega)), (hX6.rp hR7 ha0 hb0).eqs so hP7⟩ (by simp only; omega) (((((((kE.d rfl).d rfl).d rfl).d rfl).d rfl).d rfl).d rfl) rH
 refine .kn<|.sr<|.mo rfl<|.mo rfl<|.mo rfl<|.mo rfl<|.mo rfl<|.callM (parti_spec v us2 T6 a b q p _ hO6 (by omega) ⟨hqa, hqb⟩ hp (by omega) (by omega) hf hok6 so) (λ u T7 hu => ?_)
 obtain ⟨qs, mid, wp2, rfl, hO7, hR7, hP7⟩ := hu
 have hmlo := hP7.lo
 have hmhi := hP7.hi
 have hlen7 := hR7.length
 have hok7 : ∀ x ∈ qs, ok x := λ x hx => hok6 x (hR7.perm.mem_iff.1 hx)
 have hX7 := hX6.rp hR7 ha0 hb0
 have hR07 : RP a0 b0 xs qs := hR06.trans (hR7.mono ha0 hb0 (by omega))
 have hlb7 := hlb6.rp hR7
 refine .mo rfl<|.q .extract<|.q .extract<|.ag rfl<|.ag rfl<|.z<|.mo rfl<|.ag rfl<|.z<|.mo rfl<|.mo rfl<|.ia (mid - a) .sub<|.mo rfl<|.mo rfl<|.ia (b - mid) .sub<|.ag rfl<|.ag rfl<|.z<|.mo rfl<|.q (.i64 (((b - a) / 8 : Nat) : Int) .quo ⟨by rw [Int.tdiv_eq_ediv_of_nonneg (by omega)]; omega, by omega, by omega⟩)<|.ag rfl<|.z<|.mo rfl<|.mo rfl<|.q .lss<|.zn<|.cond rfl (λ h8 => ?_) λ h8 => ?_
 refine .sr<|.mo rfl<|.mo rfl<|.q .geq<|.ag rfl<|.z<|.mo rfl<|.mo rfl<|.mo rfl<|.mo rfl<|.mo rfl<|.callM (ih v qs T7 a mid l2 _ hO7 (by omega) (by omega) (by omega) hl2 hf hok7 (hlb7.less (by omega)) (by omega)) (λ u T8 hu => ?_)
 obtain ⟨rfl, rs, hO8, hR8, hS8⟩ := hu
 have hX8 := hX7.left so hP7 hR8 hS8 ha0 hb0 (by omega)
 have hR08 := hR07.trans (hR8.mono ha0 (by omega) (by omega))
 refine .zn<|.region<|.mo rfl<|.ia (mid + 1) .add<|.ag rfl<|.nil<|blkQ_n ?_
 ·exact loopQ_i (mid + 1, b, l2, _, _, rs, T8) ⟨⟨by simp only; omega, by simp only; omega, by simp only; omega, hl2⟩, hO8, hR08, hX8⟩ (by simp only; omega) (((((((kE.d rfl).d rfl).d rfl).d rfl).d rfl).d rfl).d rfl) rH
 refine .sr<|.mo rfl<|.mo rfl<|.q .geq<|.ag rfl<|.z<|.mo rfl<|.mo rfl<|.ia (mid + 1) .add<|.mo rfl<|.mo rfl<|.mo rfl<|.callM (ih v qs T7 (mid + 1) b l2 _ hO7 (by omega) (by omega) (by omega) hl2 hf hok7 hP7.lb (by omega)) (λ u T8 hu => ?_)
 obtain ⟨rfl, rs, hO8, hR8, hS8⟩ := hu
 have hX8 := hX7.right so hP7 hR8 hS8 ha0 hb0 (by omega)
 have hR08 := hR07.trans (hR8.mono (by omega) hb0 (by omega))
 refine .zn<|.region<|.mo rfl<|.ag rfl<|.nil<|blkQ_n ?_
 ·exact loopQ_i (a, mid, l2, _, _, rs, T8) ⟨⟨ha0, hmlo, by simp only; omega, hl2⟩, hO8, hR08, hX8⟩ (by simp only; omega) (((((((kE.d rfl).d rfl).d rfl).d rfl).d rfl).d rfl).d rfl) rH
 refine .gF g17_2<|.gF g17_2<|.gF g17_2<|.gF g17_2<|.gF g17_2<|.gF g17_2<|.gF g17_2<|.gF g17_2<|.gF g17_2<|.gF g17_2<|.nil<|.gF g17_2<|.gF g17_2<|.gF g17_2<|.q (.pickFh g17_2)<|.zn<|.condF<|.kn<|.sr<|.mo rfl<|.mo rfl<|.mo rfl<|.mo rfl<|.mo rfl<|.callM (parti_spec v us2 T6 a b q p _ hO6 (by omega) ⟨hqa, hqb⟩ hp (by omega) (by omega) hf hok6 so) (λ u T7 hu => ?_)
 obtain ⟨qs, mid, wp2, rfl, hO7, hR7, hP7⟩ := hu
 have hmlo := hP7.lo
 have hmhi := hP7.hi
 have hlen7 := hR7.length
 have hok7 : ∀ x ∈ qs, ok x := λ x hx => hok6 x (hR7.perm.mem_iff.1 hx)
 have hX7 := hX6.rp hR7 ha0 hb0
 have hR07 : RP a0 b0 xs qs := hR06.trans (hR7.mono ha0 hb0 (by omega))
 have hlb7 := hlb6.rp hR7
 refine .mo rfl<|.q .extract<|.q .extract<|.ag rfl<|.ag rfl<|.z<|.mo rfl<|.ag rfl<|.z<|.mo rfl<|.mo rfl<|.ia (mid - a) .sub<|.mo rfl<|.mo rfl<|.ia (b - mid) .sub<|.ag rfl<|.ag rfl<|.z<|.mo rfl<|.q (.i64 (((b - a) / 8 : Nat) : Int) .quo ⟨by rw [Int.tdiv_eq_ediv_of_nonneg (by omega)]; omega, by omega, by omega⟩)<|.ag rfl<|.z<|.mo rfl<|.mo rfl<|.q .lss<|.zn<|.cond rfl (λ h8 => ?_) λ h8 => ?_
 refine .sr<|.mo rfl<|.mo rfl<|.q .geq<|.ag rfl<|.z<|.mo rfl<|.mo rfl<|.mo rfl<|.mo rfl<|.mo rfl<|.callM (ih v qs T7 a mid l2 _ hO7 (by omega) (by omega) (by omega) hl2 hf hok7 (hlb7.less (by omega)) (by omega)) (λ u T8 hu => ?_)
 obtain ⟨rfl, rs, hO8, hR8, hS8⟩ := hu
 have hX8 := hX7.left so hP7 hR8 hS8 ha0 hb0 (by omega)
 have hR08 := hR07.trans (hR8.mono ha0 (by omega) (by omega))
 refine .zn<|.region<|.mo rfl<|.ia (mid + 1) .add<|.ag rfl<|.nil<|blkQ_n ?_
 ·exact loopQ_i (mid + 1, b, l2, _, _, rs, T8) ⟨⟨by simp only; omega, by simp only; omega, by simp only; omega, hl2⟩, hO8, hR08, hX8⟩ (by simp only; omega) (((((((kE.d rfl).d rfl).d rfl).d rfl).d rfl).d rfl).d rfl) rH
 refine .sr<|.mo rfl<|.mo rfl<|.q .geq<|.ag rfl<|.z<|.mo rfl<|.mo rfl<|.ia (mid + 1) .add<|.mo rfl<|.mo rfl<|.mo rfl<|.callM (ih v qs T7 (mid + 1) b l2 _ hO7 (by omega) (by omega) (by omega) hl2 hf hok7 hP7.lb (by omega)) (λ u T8 hu => ?_)
 obtain ⟨rfl, rs, hO8, hR8, hS8⟩ := hu
 have hX8 := hX7.right so hP7 hR8 hS8 ha0 hb0 (by omega)
 have hR08 := hR07.trans (hR8.mono (by omega) hb0 (by omega))
 refine .zn<|.region<|.mo rfl<|.ag rfl<|.nil<|blkQ_n ?_
 ·exact loopQ_i (a, mid, l2, _, _, rs, T8) ⟨⟨ha0, hmlo, by simp only; omega, hl2⟩, hO8, hR08, hX8⟩ (by simp only; omega) (((((((kE.d rfl).d rfl).d rfl).d rfl).d rfl).d rfl).d rfl) rH
theorem pdq_spec (so : SO (ltc c)) (n : Nat) : Pdq c ok f caps n := by
 induction n with
 | zero => exact λ v xs T a b lim R _ _ _ _ _ _ _ _ hn => by omega
 | succ n ih => exact λ v xs T a b lim R h1 h2 h3 h4 h5 h6 h7 h8 h9 => pdq_step n ih so v xs T a b lim R h1 h2 h3 h4 h5 h6 h7 h8 h9
end
end STP
namespace STP
section
variable {c : Tpl -> Tpl -> Int} {ok : Tpl -> Prop} {f : FuncId} {caps : List Value} [e : Ent prog f]
theorem sort_spec (v : Value) (xs : List Tpl) (T : Seg) (R : Rds) (h : OS 151 7 Tpl.enc v xs T) (hl : xs.length <= 1000000000) (hf : FnC prog f caps R (λ t : Tpl => Value.agg t.enc.toArray) c ok) (hok : ∀ x ∈ xs, ok x) (so : SO (ltc c)) :
  Spec prog 142 [v, .func (.func f) #[] caps.toArray] R [T] λ u H' => ∃ T', H' = [T'] /\ u = .tuple #[] /\ ∃ ys, OS 151 7 Tpl.enc v ys T' /\ ys.Perm xs /\ SR (ltc c) ys 0 ys.length := by
 have iv := h.oneCell
 have hbl : Lib.bitLen xs.length <= 1000000000 := by
  have h64 := bitLen_le 64 xs.length
  have e64 : Lib.bitLen xs.length = Lib.bitLenAux 64 xs.length := rfl
  omega
 refine Spec.body Tryz.func142 rfl Tryz.results142 Tryz.ntmps142 rfl<|.sr<|.mo rfl<|.q (.lenO h)<|.az rfl<|.region<|.mo rfl<|.mo rfl<|.mo rfl<|.q (Quiet.cast (v' := .int .u64 ((xs.length : Nat) : Int)) .convI (by rw [wrap_u64_in (by omega) (by omega)]))<|.callR (len_bits xs.length (by omega) _) (λ u hu => ?_)
 subst hu
 refine .mo rfl<|.callM (pdq_spec so (xs.length + 1) v xs T 0 xs.length (Lib.bitLen xs.length) _ h (Nat.zero_le _) (Nat.le_refl _) hl hbl hf hok (λ h0 => absurd h0 (by omega)) (by omega)) (λ u T2 hu => ?_)
 obtain ⟨rfl, ys, hO2, hR2, hS2⟩ := hu
 refine .nil<|retQ_n _ .none rH ?_
 ·exact ⟨_, rfl, rfl, ys, hO2, hR2.perm, hR2.length ▸ hS2⟩
end
end STP
set_option linter.unusedSimpArgs false
def ordc (a b : Tpl) : Int := if tlt a b then -1 else if tlt b a then 1 else 0
theorem ltc_ordc : ltc ordc = ltc tplcmp := by
 funext a b
 unfold ltc ordc
 by_cases h1 : tlt a b = true
 ·rw [if_pos h1]; unfold tlt at h1; rw [h1]; rfl
 ·rw [if_neg h1]
  unfold tlt at h1
  have h2 : decide (tplcmp a b < 0) = false := by simpa using h1
  rw [h2]
  split <;> rfl
theorem order_spec (a b : Tpl) (R : Rds) : Spec prog 143 [.agg a.enc.toArray, .agg b.enc.toArray] R [] λ v H' => v = .int .i64 (ordc a b) /\ H' = [] := by
 refine Spec.body Tryz.func143 rfl Tryz.results143 Tryz.ntmps143 rfl<|.sr ?_
 refine .boxA rfl (λ b2 => ?_)
 refine .boxA rfl (λ b3 => ?_)
 refine .ag rfl<|.zs<|.block<|.sr<|.q (.loadA rfl)<|.q (.loadA rfl)<|.callR (tless_p_spec a b _) (λ v hv => ?_)
 subst hv
 refine .az rfl<|.cond rfl (λ h1 => ?_) λ h1 => ?_
 refine .sr<|.az rfl<|.ret (blkQ_r (seqQ_r (rq1 rfl ?_)))
 ·exact ⟨by unfold ordc; rw [if_pos h1], rfl⟩
 refine .sr<|.q (.loadA rfl)<|.q (.loadA rfl)<|.callR (tless_p_spec b a _) (λ v hv => ?_)
 subst hv
 refine .az rfl<|.cond rfl (λ h2 => ?_) λ h2 => ?_
 refine .sr<|.az rfl<|.ret (blkQ_r (seqQ_r (rq1 rfl ?_)))
 ·exact ⟨by unfold ordc; rw [if_neg (by rw [h1]; simp), if_pos h2], rfl⟩
 refine .skip<|blkQ_n<|seqQ_n<|.sr<|.az rfl<|.ret (rq1 rfl ?_)
 ·exact ⟨by unfold ordc; rw [if_neg (by rw [h1]; simp), if_neg (by rw [h2]; simp)], rfl⟩
abbrev inOrder (ys : List Tpl) : Prop := ys.Pairwise λ p q => ltc tplcmp q p = false
theorem order_fn (R : Rds) : FnC prog 143 [] R (λ t : Tpl => Value.agg t.enc.toArray) ordc (λ _ => True) := λ x y _ _ R2 _ => order_spec x y R2
theorem ordc_so : SO (ltc ordc) := by rw [ltc_ordc]; exact tplcmp_ok.so
theorem at_spec (v : Value) (F : List RB) (r : Int) (R : Rds) (hF : RS R 1 encRB v F) (hp : ∀ p ∈ F, PC R (.pointer (some ⟨p.1, 0, none⟩)) p.2.enc) (hl : F.length <= 5000) :
  Spec prog 140 [v, .int .u64 r] R [] λ u H' => ∃ T, H' = [T] /\ ∃ ys, OS 151 7 Tpl.enc u ys T /\ ys.Perm ((F.filter λ p => p.2.there r).map (·.2.t)) /\ inOrder ys := by
 obtain ⟨pv, kv_, rfl⟩ := hF.val
 refine Spec.segs (H' := [[]]) (by simp)<|Spec.body Tryz.func140 rfl Tryz.results140 Tryz.ntmps140 rfl<|.sr<|.ag rfl<|.z<|.ag rfl<|.zs<|.sr<|.mo rfl<|.q (.lenR hF)<|.mo rfl<|.zn<|.block<|.loop (X := Nat × Value × Seg) (λ y => y.1 <= F.length /\ OS 151 7 Tpl.enc y.2.1 (((F.take y.1).filter λ p => p.2.there r).map (·.2.t)) y.2.2) (λ y => [(1, .int .u64 r), (5, y.2.1), (8, .slice pv F.length kv_), (9, iN F.length), (10, iN y.1)]) (λ y => [y.2.2]) (λ y => F.length - y.1) (0, sZ, []) ⟨Nat.zero_le _, OS.nil⟩ kE.c.c.c.c.c rH ?_
 rintro ⟨i, vo, To⟩ ⟨hi, hO⟩
 simp only at hi hO ⊢
 have io := hO.oneCell
 have hol : (((F.take i).filter λ p => p.2.there r).map (·.2.t)).length <= 5000 := by
  rw [List.length_map]
  exact Nat.le_trans (List.length_filter_le _ _) (by rw [List.length_take]; omega)
 refine .sr<|.q .lss<|.zs<|.cond rfl (λ h1 => ?_) λ h1 => ?_
 have hlt : i < F.length := lt_i h1
 obtain ⟨⟨b, x⟩, hx⟩ := exg hlt
 have px : PC R (pT b) x.enc := hp _ (mog hx)
 have htk : F.take (i + 1) = F.take i ++ [(b, x)] := by rw [List.take_add_one, hx]; rfl
 refine .kn<|.seq<|.block<|.sr ?_
 refine .indexR i hF hx (λ p12 => ?_)
 refine .lo rfl<|.ag rfl<|.z<|.mo rfl ?_
 refine .nc rfl<|.q (.loadA rfl)<|.mo rfl ?_
 refine .callR (there_spec x r _) (λ v hv => ?_)
 subst hv
 refine .zn<|.cond rfl (λ h2 => ?_) λ h2 => ?_
 refine .region<|.mo rfl<|.mo rfl<|.nc rfl<|.fa rfl<|.q (.loadT rfl) ?_
 refine .buildSlice1A (λ b24 => ?_)
 refine .append hO (RS.lits (xs := [x.t]) rfl (by simp [Tpl.enc]) (by simp [Tpl.enc, oneCell])) (by simp only [List.length_singleton]; omega) (λ v5 T5 hO5 => ?_)
 refine .ag rfl<|.nil<|blkQ_n<|seqQ_n<|.region<|.ia (i + 1) .add<|.mo rfl<|.nil ?_
 ·exact loopQ_i (i + 1, v5, T5) ⟨hlt, by simp only; rw [htk, List.filter_append, List.map_append, List.filter_cons, if_pos h2]; exact hO5⟩ (by simp only; omega) kE.c.c.c.c.c (pkH [1])
 refine .skip<|blkQ_n<|seqQ_n<|.region<|.ia (i + 1) .add<|.mo rfl<|.nil ?_
 ·exact loopQ_i (i + 1, vo, To) ⟨hlt, by simp only; rw [htk, List.filter_append, List.map_append, List.filter_cons, if_neg (by rw [h2]; simp)]; simpa using hO⟩ (by simp only; omega) kE.c.c.c.c.c rH
 have hie : i = F.length := by have := odf h1; omega
 subst hie
 rw [List.take_length] at hO hol
 refine .exit<|seqQ_x<|loopQ_x<|blkQ_x<|seqQ_n<|.sr<|.mo rfl<|.callM (STP.sort_spec (caps := []) vo _ To _ hO (by omega) (order_fn _) (λ p hp => trivial) ordc_so) (λ u T3 hu => ?_)
 obtain ⟨rfl, ys, hO3, hpy, hsy⟩ := hu
 have i5 := hO3.oneCell
 refine .z<|.mo rfl<|.az rfl<|.ret (retQ_r _ (.one (.tmp rfl)) (.one [0] _) ?_)
 ·exact ⟨T3, by simp [take], ys, hO3, hpy, by have := hsy.ordered; rw [ltc_ordc] at this; exact this⟩
theorem filter_oneG {α : Type} [DecidableEq α] {k : α} : ∀ {l : List α}, l.Nodup -> k ∈ l -> l.Perm (k :: l.filter λ k' => decide (k' ≠ k))
 | [], _, h => by cases h
 | x :: l, hn, h => by
  have hn' := List.nodup_cons.1 hn
  by_cases hx : x = k
  ·subst hx
   have : l.filter (λ k' => decide (k' ≠ x)) = l := List.filter_eq_self.2 λ y hy => by
    have : y ≠ x := λ e => hn'.1 (e ▸ hy)
    simp [this]
   rw [List.filter_cons]
   simp only [ne_eq, not_true_eq_false, decide_false, Bool.false_eq_true, if_false]
   have h2 : l.filter (λ k' => !decide (k' = x)) = l := by simpa using this
   simp only [decide_not, h2]
   exact .refl _
  ·have hk : k ∈ l := by
    rcases List.mem_cons.1 h with e | h
    ·exact absurd e.symm hx
    ·exact h
   have := (filter_oneG hn'.2 hk).cons x
   rw [List.filter_cons, if_pos (by simp [hx])]
   exact this.trans (List.Perm.swap k x _)
theorem filter_two {α : Type} {a b c : α -> Bool} : ∀ L : List α, (∀ x ∈ L, c x = (a x || b x) /\ ¬ (a x = true /\ b x = true)) -> (L.filter c).Perm (L.filter a ++ L.filter b)
 | [], _ => by simp
 | x :: L, h => by
  obtain ⟨h1, h2⟩ := h x (by simp)
  have ih := filter_two L λ y hy => h y (by simp [hy])
  rw [List.filter_cons, List.filter_cons, List.filter_cons, h1]
  cases ha : a x <;> cases hb : b x
  ·simpa using ih
  ·simpa using (ih.cons x).trans List.perm_middle.symm
  ·simpa using ih.cons x
  ·exact absurd ⟨ha, hb⟩ h2
def rdOK (S : Sto) (f : Tpl) (r : Int) (ys : List Tpl) : Prop := ys.Perm (if scan S r then srd S f r else []) /\ inOrder ys
theorem read_spec {R : Rds} {g : Nat} {S : Sto} {ps : List RB} {vf vr : Value} {Mf : List (Obr × (Value × Seg))} {Mr : List (Sub × (Value × Seg))} (h : SV R g S ps vf vr Mf Mr) (hl : S.rows.length <= 4096) (f : Tpl) (r : Int) :
  Spec prog 92 [pT g, .agg f.enc.toArray, .int .u64 r] R [] λ u H' => ∃ T, H' = [T] /\ ∃ w ys, u = .tuple [w, .int .i64 (if scan S r then 0 else 12)].toArray /\ OS 151 7 Tpl.enc w ys T /\ rdOK S f r ys := by
 have pc := h.pc
 have iof := h.of
 have ior := h.or
 have hpl : ps.length <= 4096 := by rw [<- h.eq, List.length_map] at hl; exact hl
 refine Spec.segs (H' := [[], []]) (by simp)<|Spec.body Tryz.func92 rfl Tryz.results92 Tryz.ntmps92 rfl<|.sr ?_
 refine .boxA rfl (λ b4 => ?_)
 refine .ag rfl<|.ag rfl<|.zs<|.block<|.sr<|.mo rfl<|.callR (h.mono λ b o hb => .inl hb).ok (λ v hv => ?_)
 subst hv
 refine .q .not<|.az rfl<|.condF<|.sr<|.mo rfl<|.mo rfl<|.callR ((h.mono λ b o hb => .inl hb).can r) (λ v hv => ?_)
 subst hv
 refine .q .not<|.az rfl<|.cond rfl (λ h2 => ?_) λ h2 => ?_
 refine .sr<|.ag rfl<|.az rfl<|.ret (blkQ_r (seqQ_r (retQ_r _ (.two (.tmp rfl) (.tmp rfl)) ((pkH [1])) ?_)))
 ·have hsc : scan S r = false := by simpa using h2
  exact ⟨[], by simp [take], _, [], by rw [hsc]; rfl, OS.nil, by rw [hsc]; exact .refl _, List.Pairwise.nil⟩
 have hsc : scan S r = true := by simpa using h2
 refine .skip<|blkQ_n<|seqQ_n<|.sr<|.ag rfl<|.zs<|.sr<|.mo rfl<|.nc rfl<|.fa rfl<|.lo rfl ?_
 refine .range h.mf (λ _ _ => .inl) rfl (λ it Ti0 hit0 => ?_)
 refine .zn<|.block ?_
 refine .loop (X := List Tpl × List Obr × Value × Seg × Seg) (λ y => y.2.1.Nodup /\ y.1.Perm ((ps.filter λ p => (p.2.there r && tmatch f p.2.t) && decide (p.2.t.obr ∉ y.2.1)).map (·.2.t)) /\ OS 151 7 Tpl.enc y.2.2.1 y.1 y.2.2.2.1 /\ It R (λ k : Obr => .agg k.enc.toArray) (λ p : Value × Seg => p.1) vf Mf it y.2.1 y.2.2.2.2) (λ y => [(2, .int .u64 r), (4, pT b4), (8, y.2.2.1), (26, it)]) (λ y => [bl b4 f.enc 60, y.2.2.2.1, y.2.2.2.2]) (λ y => y.2.1.length) ([], Mf.map (·.1), sZ, [], Ti0) ⟨h.nf, by
  rw [List.filter_eq_nil_iff.2 λ p hp => by simp [h.af p hp]]; exact .refl _, OS.nil, hit0⟩ kE.c.c.c.c ((pkH [1, 1, 0])) ?_
 rintro ⟨zs, todo, vo, To, Ti⟩ ⟨hnd, hpm, hO, hit⟩
 simp only at hnd hpm hO hit ⊢
 have io := hO.oneCell
 have hzl : zs.length <= 4096 := by
  rw [hpm.length_eq, List.length_map]
  exact Nat.le_trans (List.length_filter_le _ _) hpl
 refine .sr ?_
 refine .nextB hit (λ _ _ => .inl) rfl (λ b rest Ti2 hf ht => ?_)
 refine .q .extract<|.zs<|.cond rfl (λ h3 => ?_) λ h3 => ?_
 obtain ⟨k, ⟨v0, T0⟩, hk, hku, hitc⟩ := ht h3
 obtain ⟨pf, cf, hlk, hrs⟩ := h.lf k
 rw [hku] at hlk
 simp only [Option.map_some, Option.getD_some] at hlk
 subst hlk
 have hft := filter_oneG hnd hk
 have hF : RS R 1 encRB (.slice pf (ids (λ x => x.t.obr) k ps).length cf) (frows (λ x => x.t.obr) k ps) := RS.of_map (enc := encPt) (f := λ p : RB => p.1) hrs
 have hFl : (frows (λ x => x.t.obr) k ps).length <= 4096 := Nat.le_trans (List.length_filter_le _ _) hpl
 refine .kn<|.block<|.sr<|.q (.entry hitc (λ _ _ => .inl) rfl)<|.q .extract<|.ag rfl<|.z<|.mo rfl<|.mo rfl<|.callN (at_spec _ (frows (λ x => x.t.obr) k ps) r _ hF.rx (λ p hp => (h.pr p (List.mem_filter.1 hp).1).mono λ b o hb => .inl hb) (by omega)) (λ u T1 hu => ?_)
 obtain ⟨ys, hY, hyp, _⟩ := hu
 have iu := hY.oneCell
 have hyl : ys.length <= 4096 := by
  rw [hyp.length_eq, List.length_map]
  exact Nat.le_trans (List.length_filter_le _ _) hFl
 refine .q (.lenO hY)<|.mo rfl<|.zn<|.block<|.loop (X := Nat × Value × Seg) (λ y => y.1 <= ys.length /\ OS 151 7 Tpl.enc y.2.1 (zs ++ (ys.take y.1).filter λ t => tmatch f t) y.2.2) (λ y => [(2, .int .u64 r), (4, pT b4), (8, y.2.1), (26, it), (33, u), (34, iN ys.length), (35, iN y.1)]) (λ y => [T1, bl b4 f.enc 60, y.2.2, Ti2]) (λ y => ys.length - y.1) (0, vo, To) ⟨Nat.zero_le _, by simpa using hO⟩ kE.c.c.c.c.c.c.c rH ?_
 rintro ⟨j, v1, To1⟩ ⟨hj, hO1⟩
 simp only at hj hO1 ⊢
 have io1 := hO1.oneCell
 have hjl : ((ys.take j).filter λ t => tmatch f t).length <= 4096 := Nat.le_trans (List.length_filter_le _ _) (by rw [List.length_take]; omega)
 refine .sr<|.q .lss<|.zs<|.cond rfl (λ h4 => ?_) λ h4 => ?_
 have hlt : j < ys.length := lt_i h4
 obtain ⟨t, ht2⟩ := exg hlt
 have htk : ys.take (j + 1) = ys.take j ++ [t] := by rw [List.take_add_one, ht2]; rfl
 refine .kn<|.seq<|.block<|.sr ?_
 refine .indexO j hY ht2 (λ p37 => ?_)
 refine .q (.loadA rfl) ?_
 refine .allocA (λ b12 => ?_)
 refine .storeA rfl rfl<|.z<|.q (.loadA rfl)<|.q (.loadA rfl)<|.callR (tmatch_spec f t _) (λ v hv => ?_)
 subst hv
 refine .zn<|.cond rfl (λ h5 => ?_) λ h5 => ?_
 refine .region<|.mo rfl<|.q (.loadA rfl) ?_
 refine .buildSlice1A (λ b44 => ?_)
 refine .append hO1 (RS.lits (xs := [t]) rfl (by simp [Tpl.enc]) (by simp [Tpl.enc, oneCell])) (by simp; omega) (λ v5 T5 hO5 => ?_)
 refine .ag rfl<|.nil<|blkQ_n<|seqQ_n<|.region<|.ia (j + 1) .add<|.mo rfl<|.nil ?_
 ·exact loopQ_i (j + 1, v5, T5) ⟨hlt, by simp only; rw [htk, List.filter_append, List.filter_cons, if_pos h5, <- List.append_assoc]; exact hO5⟩ (by simp only; omega) kE.c.c.c.c.c.c.c (pkH [2, 2, 2, 2])
 refine .skip<|blkQ_n<|seqQ_n<|.region<|.ia (j + 1) .add<|.mo rfl<|.nil ?_
 ·exact loopQ_i (j + 1, v1, To1) ⟨hlt, by simp only; rw [htk, List.filter_append, List.filter_cons, if_neg (by rw [h5]; simp)]; simpa using hO1⟩ (by simp only; omega) kE.c.c.c.c.c.c.c (pkH [1, 1, 1, 1])
 have hje : j = ys.length := by have := odf h4; omega
 subst hje
 rw [List.take_length] at hO1
 refine .exit<|seqQ_x<|loopQ_x<|blkQ_x<|blkQ_n ?_
 ·refine loopQ_i (zs ++ ys.filter (λ t => tmatch f t), todo.filter λ k' => decide (k' ≠ k), v1, To1, Ti2) ⟨hnd.sublist List.filter_sublist, ?_, hO1, hitc.it⟩ ?_ kE.c.c.c.c (pkH [1, 1, 1])
  ·simp only
   have h9 := filter_two (a := λ p : RB => (p.2.there r && tmatch f p.2.t) && decide (p.2.t.obr ∉ todo)) (b := λ p : RB => decide (p.2.t.obr = k) && (p.2.there r && tmatch f p.2.t)) (c := λ p : RB => (p.2.there r && tmatch f p.2.t) && decide (p.2.t.obr ∉ todo.filter λ k' => decide (k' ≠ k))) ps λ p _ => by
    by_cases e1 : p.2.t.obr = k
    ·rw [e1]; simp [hk]
    ·simp [e1]
   refine List.Perm.trans ?_ (h9.map _).symm
   rw [List.map_append]
   refine hpm.append<|(hyp.filter _).trans (.of_eq ?_)
   rw [List.filter_map, List.filter_filter]
   unfold frows
   rw [List.filter_filter]
   congr 1
   refine List.filter_congr λ p _ => ?_
   simp only [Function.comp]
   cases decide (p.2.t.obr = k) <;> cases p.2.there r <;> cases tmatch f p.2.t <;> rfl
  ·have := hft.length_eq
   simp only [List.length_cons] at this
   simp only; omega
 have ht0 := hf h3
 subst ht0
 have hpm2 : zs.Perm (srd S f r) := by
  refine hpm.trans (.of_eq ?_)
  unfold srd
  rw [<- h.eq, List.filter_map, List.map_map]
  congr 1
  refine List.filter_congr λ p _ => by simp
 refine .exit<|seqQ_x<|loopQ_x<|blkQ_x<|seqQ_n<|.sr<|.mo rfl<|.callM (STP.sort_spec (caps := []) vo _ To _ hO (by omega) (order_fn _) (λ p hp => trivial) ordc_so) (λ u T3 hu => ?_)
 obtain ⟨rfl, ys, hO3, hpy, hsy⟩ := hu
 have i5 := hO3.oneCell
 refine .z<|.mo rfl<|.ag rfl<|.az rfl<|.ret (retQ_r _ (.two (.tmp rfl) (.tmp rfl)) ((pkH [1])) ?_)
 ·exact ⟨T3, by simp [take, dropAt], _, ys, by rw [hsc]; rfl, hO3, by rw [hsc]; exact hpy.trans hpm2, by have := hsy.ordered; rw [ltc_ordc] at this; exact this⟩
abbrev strict (ys : List Tpl) : Prop := ys.Pairwise λ p q => tlt p q = true
theorem tlt_false {a b : Tpl} : ltc tplcmp a b = tlt a b := rfl
theorem tlt_tri {a b : Tpl} (h : a ≠ b) : tlt a b = true \/ tlt b a = true := by
 unfold tlt
 have h1 := tplcmp_ok.sw a b
 have h2 := tplcmp_ok.sw b a
 have h3 : tplcmp a b ≠ 0 := λ e => h (tplcmp_zero e)
 rcases Int.lt_or_lt_of_ne h3 with h4 | h4
 ·exact .inl (decide_eq_true h4)
 ·exact .inr (decide_eq_true (by omega))
theorem tlt_asym {a b : Tpl} (h : tlt a b = true) : tlt b a = false := by
 unfold tlt at *
 have h1 := tplcmp_ok.sw a b
 have h2 := tplcmp_ok.sw b a
 have h := odt h
 exact decide_eq_false (by omega)
theorem tlt_irr (a : Tpl) : tlt a a = false := by
 unfold tlt
 have := tplcmp_ok.refl a
 exact decide_eq_false (by omega)
theorem strict.order {ys : List Tpl} (h : strict ys) : inOrder ys := h.imp λ {p q} hpq => tlt_asym hpq
theorem ord_uniq {xs ys : List Tpl} (hp : ys.Perm xs) (hx : inOrder xs) (hy : inOrder ys) : ys = xs := cmp_uniq tplcmp_ok (λ _ _ => tplcmp_zero) hp hx hy
theorem scan_iff {S : Sto} {r : Int} : scan S r = true ↔ S.hor <= r /\ r <= S.head := by unfold scan; simp
structure WI (S : Sto) (cs : List Chg) (i : Nat) (W : List Tpl) : Prop where
 pm : W.Perm (srd ⟨(cs.take i).foldl (sapply (S.head + 1)) S.rows, S.head + 1, S.hor⟩ ⟨⟨#[]⟩, ⟨#[]⟩, ⟨#[]⟩, ⟨#[]⟩, ⟨#[]⟩, ⟨#[]⟩, ⟨#[]⟩⟩ (S.head + 1))
 st : strict W
theorem WI.done {S : Sto} (hS : SOK S) {must no : List Tpl} {cs : List Chg} (hc : scode S must no cs = 0) {W Z : List Tpl} (h : WI S cs cs.length W) (hz : rdOK (swrite S must no cs) (⟨⟨#[]⟩, ⟨#[]⟩, ⟨#[]⟩, ⟨#[]⟩, ⟨#[]⟩, ⟨#[]⟩, ⟨#[]⟩⟩ : Tpl) (S.head + 1) Z) : Z = W := by
 have hsw : swrite S must no cs = ⟨cs.foldl (sapply (S.head + 1)) S.rows, S.head + 1, S.hor⟩ := by unfold swrite; rw [if_pos hc]
 rw [hsw] at hz
 have hsc : scan ⟨cs.foldl (sapply (S.head + 1)) S.rows, S.head + 1, S.hor⟩ (S.head + 1) = true := scan_iff.2 ⟨by have := hS.h1; simp only; omega, Int.le_refl _⟩
 have h1 := hz.1
 rw [if_pos hsc] at h1
 have h2 := h.pm
 rw [List.take_length] at h2
 exact ord_uniq (h1.trans h2.symm) h.st.order hz.2
theorem ordc_neg {a b : Tpl} : ordc a b < 0 ↔ tplcmp a b < 0 := by
 have h := congrFun (congrFun ltc_ordc a) b
 unfold ltc at h
 exact decide_eq_decide.1 h
theorem ordc_sw (a b : Tpl) : 0 < ordc a b ↔ ordc b a < 0 := by
 unfold ordc
 have h1 := @tlt_asym a b
 have h2 := @tlt_asym b a
 cases ha : tlt a b <;> cases hb : tlt b a <;> simp_all
theorem ordc_ok : CmpOK ordc where
 sw x y := by rw [ordc_sw]
 tr x y z h1 h2 := by
  have e1 : ¬ ordc y x < 0 := λ e => by have := (ordc_sw x y).2 e; omega
  have e2 : ¬ ordc z y < 0 := λ e => by have := (ordc_sw y z).2 e; omega
  rw [ordc_neg] at e1 e2
  have a1 := tplcmp_ok.sw y x
  have a2 := tplcmp_ok.sw x y
  have a3 := tplcmp_ok.sw y z
  have a4 := tplcmp_ok.sw z y
  have a5 := tplcmp_ok.tr x y z (by omega) (by omega)
  have a6 := tplcmp_ok.sw x z
  have a7 := tplcmp_ok.sw z x
  have e3 : ¬ ordc z x < 0 := by rw [ordc_neg]; omega
  have := ordc_sw x z
  omega
 tl x y z h1 h2 := by
  have e2 : ¬ ordc z y < 0 := λ e => by have := (ordc_sw y z).2 e; omega
  rw [ordc_neg] at e2 h1 ⊢
  have a3 := tplcmp_ok.sw y z
  have a4 := tplcmp_ok.sw z y
  exact tplcmp_ok.tl x y z h1 (by omega)
theorem ordc_zero {a b : Tpl} (h : ordc a b = 0) : a = b := by
 unfold ordc at h
 split at h
 ·omega
 ·split at h
  ·omega
  ·rename_i h1 h2
   exact Classical.byContradiction λ hn => by rcases tlt_tri hn with h3 | h3 <;> contradiction
def rcmp (a b : SRow) : Int := orI [ordc a.t b.t, icmp a.fr b.fr]
theorem rcmp_ok : CmpOK rcmp := (ordc_ok.map SRow.t).cons ((icmp_ok.map SRow.fr).cons .nil)
def rlt (a b : SRow) : Bool := tlt a.t b.t || decide (a.t = b.t) && decide (a.fr < b.fr)
theorem ltc_rcmp (a b : SRow) : ltc rcmp a b = rlt a b := by
 unfold ltc rcmp rlt
 rw [orI_cons, orI_cons]
 rw [Bool.eq_iff_iff]
 simp only [decide_eq_true_eq, Bool.or_eq_true, Bool.and_eq_true]
 by_cases h : a.t = b.t
 ·rw [if_pos (by rw [h]; exact ordc_ok.refl _)]
  rw [h, tlt_irr]
  unfold icmp orI
  simp
  split
  ·split <;> omega
  ·split
   ·split <;> omega
   ·split <;> omega
 ·rw [if_neg λ e => h (ordc_zero e), ordc_neg]
  unfold tlt
  simp [h]
abbrev rowOrd (ys : List SRow) : Prop := ys.Pairwise λ p q => ltc rcmp q p = false
abbrev rowStrict (ys : List SRow) : Prop := ys.Pairwise λ p q => rlt p q = true
theorem rlt_asym {a b : SRow} (h : rlt a b = true) : rlt b a = false := by
 rw [<- ltc_rcmp] at *
 unfold ltc at *
 have h1 := rcmp_ok.sw a b
 have h2 := rcmp_ok.sw b a
 have h := odt h
 exact decide_eq_false (by omega)
theorem rowStrict.order {ys : List SRow} (h : rowStrict ys) : rowOrd ys := h.imp λ {p q} hpq => by rw [ltc_rcmp]; exact rlt_asym hpq
theorem SOK.two {S : Sto} (hS : SOK S) {ys : List SRow} (hp : ys.Perm S.rows) : ys.Pairwise λ x y => x.t = y.t -> (x.to ≠ 0 /\ x.to <= y.fr) \/ (y.to ≠ 0 /\ y.to <= x.fr) := by
 have h : S.rows.Pairwise λ x y => x.t = y.t -> (x.to ≠ 0 /\ x.to <= y.fr) \/ (y.to ≠ 0 /\ y.to <= x.fr) := hS.pw.imp λ {x y} hxy he => .inl (hxy he)
 exact hp.symm.pairwise h λ {x y} hxy he => (hxy he.symm).symm
structure RL (S : Sto) (L : List SRow) : Prop where
 pm : L.Perm S.rows
 st : rowStrict L
theorem any_perm {α : Type} {p : α -> Bool} {L M : List α} (h : L.Perm M) : L.any p = M.any p := by
 rw [Bool.eq_iff_iff, List.any_eq_true, List.any_eq_true]
 exact exists_congr λ x => and_congr_left λ _ => h.mem_iff
theorem sthere_perm {L M : List SRow} (h : L.Perm M) (t : Tpl) : sthere L t = sthere M t := any_perm h
theorem sfits_perm {L M : List SRow} (h : L.Perm M) (head : Int) (must no : List Tpl) (cs : List Chg) : sfits L head must no cs = sfits M head must no cs := by
 unfold sfits
 simp only [sthere_perm h, h.length_eq]
theorem RL.new : RL ⟨[], 0, 0⟩ [] := ⟨.refl _, List.Pairwise.nil⟩
theorem RL.pw {S : Sto} (hS : SOK S) {L : List SRow} (h : RL S L) : L.Pairwise λ x y => x.t = y.t -> x.to ≠ 0 /\ x.to <= y.fr := by
 refine ((hS.two h.pm).and h.st).imp_of_mem λ {x y} hx hy hxy he => ?_
 obtain ⟨h1, h2⟩ := hxy
 obtain ⟨_, _, _, b2⟩ := hS.ok y (h.pm.mem_iff.1 hy)
 unfold rlt at h2
 rw [he, tlt_irr] at h2
 simp only [Bool.false_or, Bool.and_eq_true, decide_eq_true_eq] at h2
 have := h1 he
 omega
theorem close_tf {t : Tpl} {r : Int} {x : SRow} : (SRow.close t r x).t = x.t /\ (SRow.close t r x).fr = x.fr := by unfold SRow.close; split <;> exact ⟨rfl, rfl⟩
theorem rlt_tf {a b a' b' : SRow} (h1 : a'.t = a.t /\ a'.fr = a.fr) (h2 : b'.t = b.t /\ b'.fr = b.fr) : rlt a' b' = rlt a b := by unfold rlt; rw [h1.1, h1.2, h2.1, h2.2]
theorem rlt_tr (x y z : SRow) (h1 : rlt x y = true) (h2 : rlt y z = true) : rlt x z = true := by
 rw [<- ltc_rcmp] at *
 unfold ltc at *
 exact decide_eq_true (rcmp_ok.t2 x y z (by have := odt h1; omega) (odt h2))
def rapply (r : Int) (L : List SRow) (c : Chg) : List SRow := if c.put then gins rlt ⟨c.t, r, 0⟩ L else L.map (SRow.close c.t r)
theorem RL.next {S : Sto} (hS : SOK S) {cs : List Chg} (hw : WOK S cs) {i : Nat} {c : Chg} (hc : cs[i]? = some c) {L : List SRow} (h : RL ⟨(cs.take i).foldl (sapply (S.head + 1)) S.rows, S.head + 1, S.hor⟩ L) :
  RL ⟨(cs.take (i + 1)).foldl (sapply (S.head + 1)) S.rows, S.head + 1, S.hor⟩ (rapply (S.head + 1) L c) /\ (c.put = false -> ∃ (j : Nat) (x : SRow), L[j]? = some x /\ x.openOf c.t = true /\ (∀ k y, k < j -> L[k]? = some y -> y.openOf c.t = false) /\ rapply (S.head + 1) L c = L.set j ⟨x.t, x.fr, S.head + 1⟩) := by
 have hf := hS.fold (hw.take i)
 have e0 : cs.take (i + 1) = cs.take i ++ [c] := by rw [List.take_add_one, hc]; rfl
 have hout : c.t ∉ (cs.take i).map (·.t) := by
  have hn := (hw.take (i + 1)).nd
  rw [e0, List.map_append, List.nodup_append] at hn
  intro hm
  exact hn.2.2 _ hm _ (by simp) rfl
 have hth : sthere L c.t = sthere S.rows c.t := (sthere_perm h.pm _).trans (sthere_fold _ _ hout)
 have hmem : c ∈ cs := mog hc
 have e1 : (cs.take (i + 1)).foldl (sapply (S.head + 1)) S.rows = sapply (S.head + 1) ((cs.take i).foldl (sapply (S.head + 1)) S.rows) c := by rw [e0, List.foldl_append]; rfl
 rw [e1]
 cases hp : c.put with
 | true =>
  refine ⟨?_, by simp⟩
  unfold rapply sapply
  rw [if_pos hp, if_pos hp]
  refine ⟨gins_perm.trans ((h.pm.cons _).trans (List.perm_append_singleton _ _).symm), gins_strict rlt_tr h.st λ y hy => ?_⟩
  have h0 := hw.away c hmem hp
  rw [<- hth] at h0
  have h1 := sthere_false.1 h0 y hy
  obtain ⟨_, _, _, b⟩ := hf.ok y (h.pm.mem_iff.1 hy)
  simp only at b
  unfold rlt
  by_cases e : c.t = y.t
  ·have := h1 e.symm
   right
   simp only [Bool.or_eq_true, Bool.and_eq_true, decide_eq_true_eq]
   exact .inr ⟨e.symm, by omega⟩
  ·rcases tlt_tri e with h5 | h5
   ·left; simp [h5]
   ·right; simp [h5]
 | false =>
  have hr : rapply (S.head + 1) L c = L.map (SRow.close c.t (S.head + 1)) := by unfold rapply; rw [if_neg (by simp [hp])]
  refine ⟨?_, λ _ => ?_⟩
  ·rw [hr]
   unfold sapply
   rw [if_neg (by simp [hp])]
   refine ⟨h.pm.map _, ?_⟩
   rw [rowStrict, List.pairwise_map]
   exact h.st.imp λ {x y} hxy => by rw [rlt_tf close_tf close_tf]; exact hxy
  ·have h0 := hw.there c hmem hp
   rw [<- hth] at h0
   have h1 : (L.find? (SRow.openOf c.t)).isSome := by
    rw [List.find?_isSome]
    unfold sthere at h0
    simpa using h0
   obtain ⟨j, hj⟩ : ∃ j, L.findIdx (SRow.openOf c.t) = j := ⟨_, rfl⟩
   have hjl : j < L.length := by
    rw [<- hj, List.findIdx_lt_length]
    unfold sthere at h0
    simpa using h0
   have hjx : (L[j]'hjl).openOf c.t = true := by
    subst hj
    exact List.findIdx_getElem (w := hjl)
   have hg : L[j]? = some (L[j]'hjl) := gge hjl
   refine ⟨j, L[j]'hjl, hg, hjx, λ k y hk hy => ?_, ?_⟩
   ·obtain ⟨hkl, rfl⟩ := List.getElem?_eq_some_iff.1 hy
    exact List.not_of_lt_findIdx (by rw [hj]; exact hk)
   ·rw [hr, close_set (h.pw hf) hg hjx]
theorem RL.write {S : Sto} {must no : List Tpl} {cs : List Chg} (hc : scode S must no cs = 0) {L : List SRow} (h : RL ⟨(cs.take cs.length).foldl (sapply (S.head + 1)) S.rows, S.head + 1, S.hor⟩ L) : RL (swrite S must no cs) L := by
 unfold swrite
 rw [if_pos hc]
 rwa [List.take_length] at h
theorem RL.ordered {S : Sto} {L : List SRow} (h : RL S L) (q : SRow -> Bool) : inOrder ((L.filter q).map (·.t)) := by
 rw [inOrder, List.pairwise_map]
 refine (h.st.sublist List.filter_sublist).imp λ {x y} hxy => ?_
 rw [tlt_false]
 unfold rlt at hxy
 simp only [Bool.or_eq_true, Bool.and_eq_true, decide_eq_true_eq] at hxy
 rcases hxy with h1 | h1
 ·exact tlt_asym h1
 ·rw [h1.1]; exact tlt_irr _
theorem RL.at_ {S : Sto} {L : List SRow} (h : RL S L) {q : SRow -> Bool} {ys : List Tpl} (hp : ys.Perm ((S.rows.filter q).map (·.t))) (ho : inOrder ys) : ys = (L.filter q).map (·.t) := ord_uniq (hp.trans ((h.pm.filter _).map _).symm) (h.ordered _) ho
end Go.Proofs.YtenilfmlfldogaaGreat
