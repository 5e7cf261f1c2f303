/- What the law 'ReachB' uses. No condition. -/
import Derived.Test.YtenilfmlfldogaaGreatKReachBA
import Derived.Test.YtenilfmlfldogaaGreatKReachBB
import Derived.Test.YtenilfmlfldogaaGreatKReachBE
import Derived.Test.YtenilfmlfldogaaGreatKReachBG
import Derived.Test.YtenilfmlfldogaaGreatKReachBH
namespace Go.Proofs.YtenilfmlfldogaaGreat
open Tryz (prog)
set_option linter.unusedVariables false
set_option linter.unusedSimpArgs false
set_option maxRecDepth 4000
theorem byteAt_get {s : ByteArray} {n : Nat} (h : n < s.size) : s[n] = byteAt s n := by
 unfold byteAt
 have h' : n < s.data.size := h
 rw [Array.getD_eq_getD_getElem?, Array.getElem?_eq_getElem h']
 rfl
theorem letter_spec (c : UInt8) (R : Rds) : Spec prog 223 [.int .u8 (c.toNat : Int)] R [] λ u H' => u = .bool (isLetter c) /\ H' = [] := by
 have hd : isLetter c = ((decide (97 <= c.toNat) && decide (c.toNat <= 122)) || (decide (65 <= c.toNat) && decide (c.toNat <= 90)) || (decide (48 <= c.toNat) && decide (c.toNat <= 57)) || decide (c.toNat = 95)) := rfl
 generalize isLetter c = r at *
 generalize c.toNat = n at *
 refine Spec.body Tryz.func223 rfl Tryz.results223 Tryz.ntmps223 rfl ?_
 refine .sr<|.ag rfl<|.z<|.mo rfl<|.q .geq<|.mo rfl ?_
 refine .split (t := 5) rfl (λ g1_2 => ?_) (λ g1_2 => ?_)
 refine .gT g1_2<|.mo rfl<|.gT g1_2<|.q .leq<|.q (.pickTh g1_2) ?_
 refine .mo rfl ?_
 refine .split (t := 9) rfl (λ g1_6 => ?_) (λ g1_6 => ?_)
 refine .gF g1_6<|.gF g1_6<|.gF g1_6<|.gfU rfl ?_
 refine .gfU rfl ?_
 refine .gF g1_6<|.q (.pickTh g1_6) ?_
 refine .mo rfl<|.gX<|.gX<|.gX<|.gfU rfl ?_
 refine .gfU rfl ?_
 refine .gX<|.q .pickT<|.mo rfl<|.gX<|.gX<|.q .pickT<|.az rfl ?_
 refine .ret (rq1 rfl ?_)
 ·refine ⟨congrArg _ ?_, rfl⟩
  rw [hd]
  clear hd
  grind
 refine .gT g1_6<|.mo rfl<|.gT g1_6<|.q .geq<|.gT g1_6<|.mo rfl ?_
 refine .split (t := 12) rfl (λ g1_9 => ?_) (λ g1_9 => ?_)
 refine .gT g1_9<|.mo rfl<|.gT g1_9<|.q .leq<|.gT g1_6<|.q (.pickTh g1_9) ?_
 refine .q (.pickFh g1_6) ?_
 refine .mo rfl ?_
 refine .split (t := 17) rfl (λ g1_14 => ?_) (λ g1_14 => ?_)
 refine .gF g1_14<|.gF g1_14<|.gF g1_14<|.gfU rfl ?_
 refine .gfU rfl ?_
 refine .gF g1_14<|.q (.pickTh g1_14) ?_
 refine .mo rfl<|.gX<|.gX<|.q .pickT<|.az rfl ?_
 refine .ret (rq1 rfl ?_)
 ·refine ⟨congrArg _ ?_, rfl⟩
  rw [hd]
  clear hd
  grind
 refine .gT g1_14<|.mo rfl<|.gT g1_14<|.q .geq<|.gT g1_14<|.mo rfl ?_
 refine .split (t := 20) rfl (λ g1_17 => ?_) (λ g1_17 => ?_)
 refine .gT g1_17<|.mo rfl<|.gT g1_17<|.q .leq<|.gT g1_14<|.q (.pickTh g1_17) ?_
 refine .q (.pickFh g1_14) ?_
 refine .mo rfl ?_
 refine .split (t := 25) rfl (λ g1_22 => ?_) (λ g1_22 => ?_)
 refine .gF g1_22<|.gF g1_22<|.q (.pickTh g1_22) ?_
 refine .az rfl ?_
 refine .ret (rq1 rfl ?_)
 ·refine ⟨congrArg _ ?_, rfl⟩
  rw [hd]
  clear hd
  grind
 refine .gT g1_22<|.mo rfl<|.gT g1_22<|.q .eqI<|.q (.pickFh g1_22) ?_
 refine .az rfl ?_
 refine .ret (rq1 rfl ?_)
 ·refine ⟨congrArg _ ?_, rfl⟩
  rw [hd]
  clear hd
  grind
 refine .gF g1_17<|.gF g1_17<|.gT g1_14<|.q (.pickFh g1_17) ?_
 refine .q (.pickFh g1_14) ?_
 refine .mo rfl<|.gt rfl ?_
 refine .mo rfl<|.gt rfl ?_
 refine .q .eqI<|.q .pickF<|.az rfl ?_
 refine .ret (rq1 rfl ?_)
 ·refine ⟨congrArg _ ?_, rfl⟩
  rw [hd]
  clear hd
  grind
 refine .gF g1_9<|.gF g1_9<|.gT g1_6<|.q (.pickFh g1_9) ?_
 refine .q (.pickFh g1_6) ?_
 refine .mo rfl<|.gt rfl ?_
 refine .mo rfl<|.gt rfl ?_
 refine .q .geq<|.gt rfl ?_
 refine .mo rfl ?_
 refine .split (t := 20) rfl (λ g1_17 => ?_) (λ g1_17 => ?_)
 refine .gT g1_17<|.mo rfl<|.gT g1_17<|.q .leq<|.gt rfl ?_
 refine .q (.pickTh g1_17) ?_
 refine .q .pickF<|.mo rfl ?_
 refine .split (t := 25) rfl (λ g1_22 => ?_) (λ g1_22 => ?_)
 refine .gF g1_22<|.gF g1_22<|.q (.pickTh g1_22) ?_
 refine .az rfl ?_
 refine .ret (rq1 rfl ?_)
 ·refine ⟨congrArg _ ?_, rfl⟩
  rw [hd]
  clear hd
  grind
 refine .gT g1_22<|.mo rfl<|.gT g1_22<|.q .eqI<|.q (.pickFh g1_22) ?_
 refine .az rfl ?_
 refine .ret (rq1 rfl ?_)
 ·refine ⟨congrArg _ ?_, rfl⟩
  rw [hd]
  clear hd
  grind
 refine .gF g1_17<|.gF g1_17<|.gt rfl ?_
 refine .q (.pickFh g1_17) ?_
 refine .q .pickF<|.mo rfl<|.gt rfl ?_
 refine .mo rfl<|.gt rfl ?_
 refine .q .eqI<|.q .pickF<|.az rfl ?_
 refine .ret (rq1 rfl ?_)
 ·refine ⟨congrArg _ ?_, rfl⟩
  rw [hd]
  clear hd
  grind
 refine .gF g1_2<|.gF g1_2<|.q (.pickFh g1_2) ?_
 refine .mo rfl<|.gt rfl ?_
 refine .mo rfl<|.gt rfl ?_
 refine .q .geq<|.gt rfl ?_
 refine .mo rfl ?_
 refine .split (t := 12) rfl (λ g1_9 => ?_) (λ g1_9 => ?_)
 refine .gT g1_9<|.mo rfl<|.gT g1_9<|.q .leq<|.gt rfl ?_
 refine .q (.pickTh g1_9) ?_
 refine .q .pickF<|.mo rfl ?_
 refine .split (t := 17) rfl (λ g1_14 => ?_) (λ g1_14 => ?_)
 refine .gF g1_14<|.gF g1_14<|.gF g1_14<|.gfU rfl ?_
 refine .gfU rfl ?_
 refine .gF g1_14<|.q (.pickTh g1_14) ?_
 refine .mo rfl<|.gX<|.gX<|.q .pickT<|.az rfl ?_
 refine .ret (rq1 rfl ?_)
 ·refine ⟨congrArg _ ?_, rfl⟩
  rw [hd]
  clear hd
  grind
 refine .gT g1_14<|.mo rfl<|.gT g1_14<|.q .geq<|.gT g1_14<|.mo rfl ?_
 refine .split (t := 20) rfl (λ g1_17 => ?_) (λ g1_17 => ?_)
 refine .gT g1_17<|.mo rfl<|.gT g1_17<|.q .leq<|.gT g1_14<|.q (.pickTh g1_17) ?_
 refine .q (.pickFh g1_14) ?_
 refine .mo rfl ?_
 refine .split (t := 25) rfl (λ g1_22 => ?_) (λ g1_22 => ?_)
 refine .gF g1_22<|.gF g1_22<|.q (.pickTh g1_22) ?_
 refine .az rfl ?_
 refine .ret (rq1 rfl ?_)
 ·refine ⟨congrArg _ ?_, rfl⟩
  rw [hd]
  clear hd
  grind
 refine .gT g1_22<|.mo rfl<|.gT g1_22<|.q .eqI<|.q (.pickFh g1_22) ?_
 refine .az rfl ?_
 refine .ret (rq1 rfl ?_)
 ·refine ⟨congrArg _ ?_, rfl⟩
  rw [hd]
  clear hd
  grind
 refine .gF g1_17<|.gF g1_17<|.gT g1_14<|.q (.pickFh g1_17) ?_
 refine .q (.pickFh g1_14) ?_
 refine .mo rfl<|.gt rfl ?_
 refine .mo rfl<|.gt rfl ?_
 refine .q .eqI<|.q .pickF<|.az rfl ?_
 refine .ret (rq1 rfl ?_)
 ·refine ⟨congrArg _ ?_, rfl⟩
  rw [hd]
  clear hd
  grind
 refine .gF g1_9<|.gF g1_9<|.gt rfl ?_
 refine .q (.pickFh g1_9) ?_
 refine .q .pickF<|.mo rfl<|.gt rfl ?_
 refine .mo rfl<|.gt rfl ?_
 refine .q .geq<|.gt rfl ?_
 refine .mo rfl ?_
 refine .split (t := 20) rfl (λ g1_17 => ?_) (λ g1_17 => ?_)
 refine .gT g1_17<|.mo rfl<|.gT g1_17<|.q .leq<|.gt rfl ?_
 refine .q (.pickTh g1_17) ?_
 refine .q .pickF<|.mo rfl ?_
 refine .split (t := 25) rfl (λ g1_22 => ?_) (λ g1_22 => ?_)
 refine .gF g1_22<|.gF g1_22<|.q (.pickTh g1_22) ?_
 refine .az rfl ?_
 refine .ret (rq1 rfl ?_)
 ·refine ⟨congrArg _ ?_, rfl⟩
  rw [hd]
  clear hd
  grind
 refine .gT g1_22<|.mo rfl<|.gT g1_22<|.q .eqI<|.q (.pickFh g1_22) ?_
 refine .az rfl ?_
 refine .ret (rq1 rfl ?_)
 ·refine ⟨congrArg _ ?_, rfl⟩
  rw [hd]
  clear hd
  grind
 refine .gF g1_17<|.gF g1_17<|.gt rfl ?_
 refine .q (.pickFh g1_17) ?_
 refine .q .pickF<|.mo rfl<|.gt rfl ?_
 refine .mo rfl<|.gt rfl ?_
 refine .q .eqI<|.q .pickF<|.az rfl ?_
 refine .ret (rq1 rfl ?_)
 ·refine ⟨congrArg _ ?_, rfl⟩
  rw [hd]
  clear hd
  grind
theorem blank_spec (c : UInt8) (R : Rds) : Spec prog 220 [.int .u8 (c.toNat : Int)] R [] λ u H' => u = .bool (isBlank c) /\ H' = [] := by
 have hd : isBlank c = (decide (c.toNat = 32) || decide (c.toNat = 9) || decide (c.toNat = 10) || decide (c.toNat = 13)) := rfl
 generalize isBlank c = r at *
 generalize c.toNat = n at *
 refine Spec.body Tryz.func220 rfl Tryz.results220 Tryz.ntmps220 rfl ?_
 refine .sr<|.ag rfl<|.z<|.mo rfl<|.q .eqI<|.mo rfl ?_
 refine .split (t := 5) rfl (λ g1_2 => ?_) (λ g1_2 => ?_)
 refine .gF g1_2<|.gF g1_2<|.q (.pickTh g1_2) ?_
 refine .mo rfl<|.gX<|.gX<|.q .pickT<|.mo rfl<|.gX<|.gX<|.q .pickT<|.az rfl ?_
 refine .ret (rq1 rfl ?_)
 ·refine ⟨congrArg _ ?_, rfl⟩
  rw [hd]
  clear hd
  grind
 refine .gT g1_2<|.mo rfl<|.gT g1_2<|.q .eqI<|.q (.pickFh g1_2) ?_
 refine .mo rfl ?_
 refine .split (t := 9) rfl (λ g1_6 => ?_) (λ g1_6 => ?_)
 refine .gF g1_6<|.gF g1_6<|.q (.pickTh g1_6) ?_
 refine .mo rfl<|.gX<|.gX<|.q .pickT<|.az rfl ?_
 refine .ret (rq1 rfl ?_)
 ·refine ⟨congrArg _ ?_, rfl⟩
  rw [hd]
  clear hd
  grind
 refine .gT g1_6<|.mo rfl<|.gT g1_6<|.q .eqI<|.q (.pickFh g1_6) ?_
 refine .mo rfl ?_
 refine .split (t := 13) rfl (λ g1_10 => ?_) (λ g1_10 => ?_)
 refine .gF g1_10<|.gF g1_10<|.q (.pickTh g1_10) ?_
 refine .az rfl ?_
 refine .ret (rq1 rfl ?_)
 ·refine ⟨congrArg _ ?_, rfl⟩
  rw [hd]
  clear hd
  grind
 refine .gT g1_10<|.mo rfl<|.gT g1_10<|.q .eqI<|.q (.pickFh g1_10) ?_
 refine .az rfl ?_
 refine .ret (rq1 rfl ?_)
 ·refine ⟨congrArg _ ?_, rfl⟩
  rw [hd]
  clear hd
  grind
abbrev sblk (xb : Nat) (s : ByteArray) (i : Nat) : Seg := (bl xb [.string s, iN i] 310)
theorem run_spec (f : FuncId) [e : Ent prog f] (p : UInt8 -> Bool) (hf : ∀ (c : UInt8) (R : Rds), Spec prog f [.int .u8 (c.toNat : Int)] R [] λ u H' => u = .bool (p c) /\ H' = []) (xb : Nat) (s : ByteArray) (i : Nat) (hi : i <= s.size) (hs : s.size <= 1000000) (R : Rds) :
  Spec prog 219 [pT xb, .func (.func f) #[] #[]] R [sblk xb s i] λ u H' => ∃ T', H' = [T'] /\ u = .string (s.extract i (run s p i)) /\ T' = sblk xb s (run s p i) := by
 have hrun := λ j (h : RunTo s p i j) => h.run
 refine Spec.body Tryz.func219 rfl Tryz.results219 Tryz.ntmps219 rfl ?_
 refine .sr<|.ag rfl<|.z<|.mo rfl<|.nc rfl<|.fa rfl<|.lo rfl<|.ag rfl<|.zs<|.block ?_
 refine .loopS [(0, _), (1, _), (5, _)] (X := Nat) (λ j => i <= j /\ j <= s.size /\ ∀ k, i <= k -> k < j -> p (byteAt s k) = true) (λ j E => E) (G := []) (λ j G => sblk xb s j :: G) (λ j => s.size - j) i ⟨Nat.le_refl _, hi, λ k h1 h2 => absurd h2 (by omega)⟩ kE.c.c.c rH ?_
 rintro j ⟨hj1, hj2, hj3⟩
 refine .seq<|.seq ?_
 refine .region_tail 21 mixed (by kernel_rfl) ?_
 conv => arg 6; dsimp only [List.take]
 refine .mo rfl<|.nc rfl<|.fa rfl<|.lo rfl<|.mo rfl ?_
 refine .nc rfl<|.fa rfl<|.lo rfl<|.q .lenS<|.q .lss<|.mo rfl ?_
 refine .split (t := 20) rfl (λ g2_10 => ?_) (λ g2_10 => ?_)
 have hlt : j < s.size := by have := odt g2_10; omega
 have hb := byteAt_get hlt
 refine .gT g2_10<|.mo rfl<|.gT g2_10<|.mo rfl<|.gT g2_10<|.nc rfl<|.gT g2_10<|.fa rfl<|.gT g2_10<|.lo rfl<|.gT g2_10<|.mo rfl<|.gT g2_10 ?_
 refine .nc rfl<|.gT g2_10<|.fa rfl<|.gT g2_10<|.lo rfl<|.gT g2_10<|.q (.indexS j hlt) ?_
 refine .nil<|.gT g2_10 ?_
 refine .callRV (first := []) (captured := []) (vs := [.int .u8 ((s[j]'hlt).toNat : Int)]) (hf _ _) (λ u hu => ?_)
 subst hu
 rw [hb]
 refine .q (.pickTh g2_10) ?_
 refine .zn ?_
 refine .cond rfl (λ h1 => ?_) λ h1 => ?_
 have hpj : p (byteAt s j) = true := h1
 refine .kn<|.block<|.region<|.mo rfl<|.nc rfl<|.fa rfl<|.lo rfl ?_
 refine .ia (j + 1) .add ?_
 refine .nc rfl<|.fa rfl<|.store1 rfl rfl<|.nil<|blkQ_n ?_
 ·exact loopQ_i (j + 1) ⟨by omega, hlt, λ k h8 h9 => by
   rcases Nat.lt_or_ge k j with h7 | h7
   ·exact hj3 k h8 h7
   ·obtain rfl : k = j := by omega
    exact hpj⟩ (by omega) kE.c.c.c rH
 have hend : RunTo s p i j := ⟨hj1, hj2, hj3, by
  first
   |exact .inl (Nat.le_antisymm hj2 hge)
   |exact .inr h1⟩
 have hje := hrun j hend
 refine .exit<|seqQ_x<|loopQ_x<|blkQ_x<|seqQ_n<|.seq ?_
 refine .region_still mixed (by kernel_rfl) ?_
 refine .mo rfl<|.nc rfl<|.fa rfl<|.lo rfl<|.mo rfl<|.mo rfl ?_
 refine .nc rfl<|.fa rfl<|.lo rfl<|.q (.sliceStr i j ⟨_, rfl⟩ ⟨_, rfl⟩ hj1 hj2) ?_
 refine .az rfl ?_
 refine .ret (retQ_r _ (.one (.tmp rfl)) rH ?_)
 ·exact ⟨_, rfl, by rw [<- hje], by rw [<- hje]⟩
 have hge : s.size <= j := by have := odf g2_10; omega
 refine .gF g2_10<|.gF g2_10<|.gF g2_10<|.gF g2_10<|.gF g2_10<|.gF g2_10<|.gF g2_10<|.gF g2_10<|.gF g2_10<|.gF g2_10<|.nil<|.gF g2_10<|.q (.pickFh g2_10) ?_
 refine .zn<|.condF ?_
 have hend : RunTo s p i j := ⟨hj1, hj2, hj3, by
  first
   |exact .inl (Nat.le_antisymm hj2 hge)
   |exact .inr h1⟩
 have hje := hrun j hend
 refine .exit<|seqQ_x<|loopQ_x<|blkQ_x<|seqQ_n<|.seq ?_
 refine .region_still mixed (by kernel_rfl) ?_
 refine .mo rfl<|.nc rfl<|.fa rfl<|.lo rfl<|.mo rfl<|.mo rfl ?_
 refine .nc rfl<|.fa rfl<|.lo rfl<|.q (.sliceStr i j ⟨_, rfl⟩ ⟨_, rfl⟩ hj1 hj2) ?_
 refine .az rfl ?_
 refine .ret (retQ_r _ (.one (.tmp rfl)) rH ?_)
 ·exact ⟨_, rfl, by rw [<- hje], by rw [<- hje]⟩
def Pl (s : ByteArray) : Prop := ∀ k, k < s.size -> byteAt s k ≠ 34 /\ byteAt s k ≠ 47 /\ byteAt s k ≠ 45
theorem first_byte {s : ByteArray} {j : Nat} {c : UInt8} {l : List UInt8} (h : Lib.hasPrefix (s.extract j s.size).data.toList (c :: l) = true) : j < s.size /\ byteAt s j = c := by
 have e : (s.extract j s.size).data.toList = s.data.toList.drop j := by
  simp [ByteArray.data_extract]
  rw [List.take_of_length_le]
  simp
 rw [e] at h
 unfold Lib.hasPrefix at h
 cases hd : s.data.toList.drop j with
 | nil => rw [hd] at h; simp at h
 | cons b r =>
  rw [hd] at h
  have hj : j < s.data.toList.length := by
   rcases Nat.lt_or_ge j s.data.toList.length with h1 | h1
   ·exact h1
   ·rw [List.drop_eq_nil_of_le h1] at hd; cases hd
  have hb : s.data.toList[j] = b := by
   rw [List.drop_eq_getElem_cons hj] at hd
   injection hd
  have hsz : s.data.toList.length = s.size := by simp
  refine ⟨by omega, ?_⟩
  have hcb : b = c := by simp at h; exact h.1.symm
  rw [<- byteAt_get (by omega), <- hcb, <- hb]
  rfl
theorem hasPre_spec (s p : ByteArray) (R : Rds) : Spec prog 221 [.string s, .string p] R [] λ v H' => v = .bool (Lib.hasPrefix s.data.toList p.data.toList) /\ H' = [] :=
 Spec.ofCalls (Tryz.strings_HasPrefix s p) R
theorem skip_spec (xb : Nat) (s : ByteArray) (i : Nat) (hi : i <= s.size) (hs : s.size <= 1000000) (hp : Pl s) (R : Rds) : Spec prog 174 [pT xb] R [sblk xb s i] λ _ H' => ∃ T', H' = [T'] /\ T' = sblk xb s (run s isBlank i) := by
 obtain ⟨hj1, hj2⟩ := skip_ge hi
 have hno : Lib.hasPrefix (s.extract (run s isBlank i) s.size).data.toList [47, 47] = false := by
  cases h : Lib.hasPrefix (s.extract (run s isBlank i) s.size).data.toList [47, 47] with
  | false => rfl
  | true =>
   obtain ⟨h1, h2⟩ := first_byte h
   exact absurd h2 (hp _ h1).2.1
 have hrun := run_spec 220 isBlank blank_spec xb s i hi hs R
 generalize run s isBlank i = j at *
 refine Spec.body Tryz.func174 rfl Tryz.results174 Tryz.ntmps174 rfl ?_
 refine .block ?_
 refine .loopS [(0, _)] (X := Unit) (λ _ => True) (λ _ E => E) (G := [sblk xb s i]) (λ _ G => G) (λ _ => 0) () trivial kE.c rH ?_
 rintro _ _
 refine .block<|.sr<|.mo rfl ?_
 refine .callM (R := R) hrun (λ u T' hu => ?_)
 obtain ⟨rfl, rfl⟩ := hu
 refine .zs<|.seq ?_
 refine .region_tail 9 mixed (by kernel_rfl) ?_
 conv => arg 6; dsimp only [List.take]
 refine .mo rfl<|.nc rfl<|.fa rfl<|.lo rfl<|.mo rfl ?_
 refine .nc rfl<|.fa rfl<|.lo rfl<|.q (.sliceStr j s.size ⟨_, rfl⟩ rfl hj2 (Nat.le_refl _)) ?_
 refine .nil ?_
 refine .callR (hasPre_spec _ _ _) (λ u hu => ?_)
 subst hu
 refine .q .not<|.zn ?_
 refine .cond rfl (λ h1 => ?_) λ h1 => ?_
 refine .ret (seqQ_r (blkQ_r (loopQ_r (blkQ_r (retQ_r _ .none rH ?_)))))
 ·exact ⟨_, rfl, rfl⟩
 ·exact absurd h1 (by rw [show (⟨#[47, 47]⟩ : ByteArray).data.toList = [47, 47] from rfl, hno]; simp)
theorem signs_idx (c : UInt8) : decide (0 <= Lib.indexByte [123, 125, 59, 58, 61, 124, 38, 45, 40, 41, 35, 44] c) = signsL.contains c := by
 have e : ∀ k : Fin 256, decide (0 <= Lib.indexByte [123, 125, 59, 58, 61, 124, 38, 45, 40, 41, 35, 44] (UInt8.ofNat k.val)) = signsL.contains (UInt8.ofNat k.val) := by decide +kernel
 have h := e ⟨c.toNat, c.toNat_lt⟩
 simpa using h
theorem xindexByte_spec (s : ByteArray) (c : Int) (R : Rds) : Spec prog 225 [.string s, .int .u8 c] R [] λ v H' => v = .int .i64 (Lib.indexByte s.data.toList c.toNat.toUInt8) /\ H' = [] := by
 refine Spec.body Tryz.func225 rfl Tryz.results225 Tryz.ntmps225 rfl ?_
 refine .sr<|.ag rfl<|.z<|.mo rfl<|.mo rfl ?_
 refine .callR (Spec.ofCalls (Tryz.stringslite_IndexByte s c) _) (λ v hv => ?_)
 subst hv
 refine .az rfl ?_
 refine .ret (rq1 rfl ?_)
 ·exact ⟨rfl, rfl⟩
def LTok.enc (t : LTok) : List Value := [.int .i64 t.kind, .string t.text, iN t.pos]
instance LTok.one (t : LTok) : Ones t.enc := ⟨by simp [LTok.enc, oneCell]⟩
theorem ltoken_spec (xb : Nat) (s : ByteArray) (i j : Nat) (t : LTok) (hi : i < s.size) (hs : s.size <= 1000000) (hp : Pl s) (ht : tokenE s i = some (t, j)) (R : Rds) : Spec prog 175 [pT xb] R [sblk xb s i] λ u H' => ∃ T', H' = [T'] /\ u = .tuple [.agg t.enc.toArray, .bool true].toArray /\ T' = sblk xb s j := by
 have hrun := run_spec 223 isLetter letter_spec xb s i (Nat.le_of_lt hi) hs R
 obtain ⟨hp1, hp2, hp3⟩ := hp i hi
 have hno : Lib.hasPrefix (s.extract i s.size).data.toList [45, 62] = false := by
  cases h : Lib.hasPrefix (s.extract i s.size).data.toList [45, 62] with
  | false => rfl
  | true =>
   obtain ⟨h1, h2⟩ := first_byte h
   exact absurd h2 hp3
 have hb := byteAt_get hi
 have htw : two s i 45 62 = false := by
  unfold two
  simp [hp3]
 have h34 : (byteAt s i).toNat ≠ 34 := λ h => hp1 (by
  have : byteAt s i = UInt8.ofNat 34 := by rw [<- h]; simp
  exact this)
 have hte : tokenE s i = if isLetter (byteAt s i) = true then some (⟨1, s.extract i (run s isLetter i), i⟩, run s isLetter i) else if signsL.contains (byteAt s i) = true then some (⟨3, s.extract i (i + 1), i⟩, i + 1) else none := by
  simp only [tokenE, if_neg h34, htw, Bool.false_eq_true, if_false]
 rw [hte] at ht
 have hsg := signs_idx (byteAt s i)
 have hcb : ((byteAt s i).toNat : Int).toNat.toUInt8 = byteAt s i := by simp
 obtain ⟨k, hk⟩ : ∃ k, k = run s isLetter i := ⟨_, rfl⟩
 rw [<- hk] at hrun ht
 refine Spec.body Tryz.func175 rfl Tryz.results175 Tryz.ntmps175 rfl ?_
 refine .sr ?_
 refine .allocA (λ b2 => ?_)
 refine .ag rfl<|.z<|.mo rfl<|.nc rfl<|.fa rfl<|.lo rfl ?_
 refine .q .bld ?_
 refine .allocA (λ b4 => ?_)
 refine .storeA rfl rfl<|.zs ?_
 refine .region_still mixed (by kernel_rfl) ?_
 refine .mo rfl<|.nc rfl<|.fa rfl<|.lo rfl<|.mo rfl ?_
 refine .nc rfl<|.fa rfl<|.lo rfl ?_
 refine .q (.cast (.indexS i hi) (by rw [hb])) ?_
 refine .ag rfl<|.zs<|.block<|.sr<|.mo rfl ?_
 refine .callR (letter_spec _ _) (λ u hu => ?_)
 subst hu
 refine .az rfl ?_
 refine .cond rfl (λ h1 => ?_) λ h1 => ?_
 rw [if_pos h1] at ht
 cases ht
 refine .region<|.mo rfl ?_
 refine .callM (R := R) hrun (λ u T' hu => ?_)
 obtain ⟨rfl, rfl⟩ := hu
 refine .fa rfl<|.store1 rfl rfl<|.fa rfl<|.store1 rfl rfl<|.nil<|blkQ_n<|seqQ_n<|.sr<|.q (.loadA rfl)<|.storeA rfl rfl<|.az rfl ?_
 refine .ret (retQ_r _ (.two (.cellA rfl rfl) (.tmp rfl)) (pkH [2]) ?_)
 ·exact ⟨_, rfl, rfl, rfl⟩
 rw [if_neg (by rw [h1]; simp)] at ht
 refine .sr<|.mo rfl<|.q .eqI<|.az rfl ?_
 refine .cond rfl (λ h2 => ?_) λ h2 => ?_
 ·exact absurd h2 (by simp; omega)
 refine .seq ?_
 refine .region_tail 9 mixed (by kernel_rfl) ?_
 conv => arg 6; dsimp only [List.take]
 refine .mo rfl<|.nc rfl<|.fa rfl<|.lo rfl<|.mo rfl ?_
 refine .nc rfl<|.fa rfl<|.lo rfl ?_
 refine .q (.sliceStr i s.size ⟨_, rfl⟩ rfl (by omega) (Nat.le_refl _)) ?_
 refine .nil ?_
 refine .callR (hasPre_spec _ _ _) (λ u hu => ?_)
 subst hu
 refine .az rfl ?_
 refine .cond rfl (λ h3 => ?_) λ h3 => ?_
 ·exact absurd h3 (by rw [show (⟨#[45, 62]⟩ : ByteArray).data.toList = [45, 62] from rfl, hno]; simp)
 refine .sr<|.mo rfl ?_
 refine .callR (xindexByte_spec _ _ _) (λ u hu => ?_)
 subst hu
 refine .q .geq<|.az rfl ?_
 refine .cond rfl (λ h4 => ?_) λ h4 => ?_
 have hc : signsL.contains (byteAt s i) = true := by
  rw [<- hsg, <- hcb]; exact h4
 rw [if_pos hc] at ht
 cases ht
 refine .seq<|.region_any [0] [15, 17] mixed ?_
 conv => arg 3; simp only [take, rest, dropAt, List.getD_cons_zero, List.getD_cons_succ]
 conv => arg 5; simp only [take, rest, dropAt, List.getD_cons_zero, List.getD_cons_succ]
 conv => arg 9; simp only [take, rest, dropAt, List.getD_cons_zero, List.getD_cons_succ]
 refine .tK 0 rfl .move ?_
 refine .tK 1 rfl (.nilCheckA rfl) ?_
 refine .tK 2 rfl (.fieldAddrA rfl) ?_
 refine .tK 3 rfl (.load1 rfl)<|.tK 4 rfl .move ?_
 refine .tK 5 rfl (.nilCheckA rfl) ?_
 refine .tK 6 rfl (.fieldAddrA rfl) ?_
 refine .tK 7 rfl (.load1 rfl)<|.tK 8 rfl .move ?_
 refine .tK 9 rfl (.nilCheckA rfl) ?_
 refine .tK 10 rfl (.fieldAddrA rfl) ?_
 refine .tK 11 rfl (.load1 rfl) ?_
 refine .take 12 rfl (.i64 ((i + 1 : Nat) : Int) .add ⟨by omega, by omega, by omega⟩) (by kernel_rfl) ?_
 refine .tK 13 rfl (.sliceStr (s := s) i (i + 1) ⟨_, rfl⟩ ⟨_, rfl⟩ (by omega) (by omega)) ?_
 refine .tO 14 rfl (.fieldAddr rfl) ?_
 refine .sT 15 rfl ?_
 refine .store1 rfl rfl ?_
 refine .nil (Next.mod rfl ?_)
 refine .tK 16 rfl (.fieldAddrA rfl) ?_
 refine .sT 17 rfl ?_
 refine .store1 rfl rfl ?_
 refine .nil (Next.mod rfl ?_)
 refine RA.nil (by kernel_rfl) ?_
 refine seqQ_n<|.region ?_
 conv => arg 8; simp only [rest, dropAt, List.cons_append, List.nil_append]
 refine .mo rfl<|.nc rfl<|.fa rfl<|.lo rfl ?_
 refine .ia (i + 1) .add ?_
 refine .nc rfl<|.fa rfl<|.store1 rfl rfl<|.nil<|blkQ_n<|seqQ_n<|.sr<|.q (.loadA rfl)<|.storeA rfl rfl<|.az rfl ?_
 refine .ret (retQ_r _ (.two (.cellA rfl rfl) (.tmp rfl)) (pkH [2]) ?_)
 ·exact ⟨_, rfl, rfl, rfl⟩
 ·have hc : signsL.contains (byteAt s i) = false := by
   rw [<- hsg, <- hcb]; exact h4
  rw [if_neg (by rw [hc]; simp)] at ht
  cases ht
theorem Pl.skip {s : ByteArray} (hp : Pl s) {i : Nat} (hi : i <= s.size) : skipT s i = run s isBlank i := by
 rw [skip_turn hi, if_neg]
 intro h
 unfold two at h
 simp only [Bool.and_eq_true, decide_eq_true_eq] at h
 exact (hp _ (by omega)).2.1 h.1.2
theorem lex_spec (s : ByteArray) (hs : s.size <= 16384) (hp : Pl s) (L : List LTok) (hL : lexT s = some L) (R : Rds) : Spec prog 116 [.string s] R [] λ u H' => ∃ T, H' = [T] /\ ∃ v, u = .tuple [v, .int .i64 0].toArray /\ OS 312 3 LTok.enc v L T := by
 have hL0 : lexE s (s.size + 1) 0 [] = some L := hL
 refine Spec.segs (H' := [[]]) (by simp) ?_
 refine Spec.body Tryz.func116 rfl Tryz.results116 Tryz.ntmps116 rfl ?_
 refine .sr<|.ag rfl<|.ag rfl<|.zs<|.sr<|.mo rfl<|.q .lenS<|.q .gtr<|.zn ?_
 refine .cond rfl (λ h1 => ?_) λ h1 => ?_
 ·exact absurd h1 (by simp; omega)
 refine .kn<|.sr<|.mo rfl ?_
 refine .q .bld ?_
 refine .boxA rfl (λ b13 => ?_)
 refine .ag rfl<|.z<|.az rfl<|.block ?_
 refine .loopS [(0, _), (4, _)] (X := Nat × Nat × List LTok × Value × Seg) (λ y => y.2.1 <= s.size /\ y.2.2.1.length <= y.2.1 /\ lexE s y.1 y.2.1 y.2.2.1 = some L /\ OS 312 3 LTok.enc y.2.2.2.1 y.2.2.1 y.2.2.2.2) (λ y E => (5, y.2.2.2.1) :: E) (G := []) (λ y G => sblk b13 s y.2.1 :: y.2.2.2.2 :: G) (λ y => y.1) (s.size + 1, 0, [], sZ, []) ⟨Nat.zero_le _, Nat.le_refl _, hL0, OS.nil⟩ kE.c.c.c rH ?_
 rintro ⟨f, i, l, v, T⟩ ⟨hi, hll, hE, hO⟩
 simp only at hi hll hE hO ⊢
 have iv := hO.oneCell
 obtain ⟨hj1, hj2⟩ := skip_ge hi
 have hsk := hp.skip hi
 obtain ⟨f', rfl⟩ : ∃ f', f = f' + 1 := by
  cases f with
  | zero => rw [lexE] at hE; cases hE
  | succ f => exact ⟨f, rfl⟩
 rw [lexE, hsk] at hE
 refine .block<|.sr<|.mo rfl ?_
 refine .callM (R := R) (skip_spec b13 s i hi (by omega) hp R) (λ u T' hu => ?_)
 subst hu
 obtain ⟨k, hk⟩ : ∃ k, k = run s isBlank i := ⟨_, rfl⟩
 rw [<- hk] at hE hj1 hj2 ⊢
 refine .zs<|.sr<|.mo rfl<|.nc rfl<|.fa rfl<|.lo rfl<|.mo rfl<|.q .lenS<|.q .eqI<|.zn ?_
 refine .cond rfl (λ h2 => ?_) λ h2 => ?_
 have h8 : (k : Int) = s.size := by simpa using h2
 have hks : k = s.size := by omega
 rw [if_pos hks] at hE
 cases hE
 refine .sr<|.mo rfl<|.ag rfl<|.az rfl ?_
 refine .ret (seqQ_r (blkQ_r (loopQ_r (blkQ_r (retQ_r _ (.two (.tmp rfl) (.tmp rfl)) (pkH [1]) ?_)))))
 ·exact ⟨T, rfl, v, rfl, hO⟩
 have hks : ¬ k = s.size := by
  intro h9
  rw [h9] at h2
  simp at h2
 rw [if_neg hks] at hE
 obtain ⟨t, j, ht, hE2⟩ : ∃ t j, tokenE s k = some (t, j) /\ lexE s f' j (l ++ [t]) = some L := by
  cases hh : tokenE s k with
  | none => rw [hh] at hE; cases hE
  | some x => obtain ⟨t, j⟩ := x; rw [hh] at hE; exact ⟨t, j, rfl, hE⟩
 have hmore := token_more (by omega) ht
 refine .kn<|.sr<|.mo rfl ?_
 refine .callM (R := R) (ltoken_spec b13 s k j t (by omega) (by omega) hp ht R) (λ u T' hu => ?_)
 obtain ⟨rfl, rfl⟩ := hu
 refine .mo rfl<|.q .extract<|.q .extract ?_
 refine .allocA (λ b6 => ?_)
 refine .storeA rfl rfl<|.ag rfl<|.zs<|.sr<|.mo rfl<|.q .not<|.zn<|.condF<|.kn<|.region<|.mo rfl<|.q (.loadA rfl) ?_
 refine .buildSlice1A (λ b33 => ?_)
 refine .append hO (RS.lits (xs := [t]) rfl (by simp [LTok.enc]) (by simp [LTok.enc, oneCell])) (by simp only [List.length_singleton]; omega) (λ v5 T5 hv5 => ?_)
 refine .ag rfl<|.nil<|blkQ_n ?_
 ·exact loopQ_i (f', j, l ++ [t], v5, T5) ⟨hmore.2, by simp only [List.length_append, List.length_singleton]; omega, hE2, hv5⟩ (by simp only; omega) kE.c.c.c (pkH [2, 2])
end Go.Proofs.YtenilfmlfldogaaGreat
