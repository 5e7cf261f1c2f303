/- What the law 'ReachNobody' uses. No condition. -/
import Derived.Test.YtenilfmlfldogaaGreatKReachNobodyA
import Derived.Test.YtenilfmlfldogaaGreatKReachNobodyB
import Derived.Test.YtenilfmlfldogaaGreatKReachNobodyF
import Derived.Test.YtenilfmlfldogaaGreatKReachNobodyG
namespace Go.Proofs.YtenilfmlfldogaaGreat
open Tryz (prog)
set_option linter.unusedVariables false
theorem Spec.ofCalls {P : Program} {f : FuncId} {args : List Value} {v : Value} (h : ∀ w, Calls P f args.toArray w λ e w' => e = .returned v /\ w' = w) (R : Rds) : Spec P f args R [] λ u H' => u = v /\ H' = [] :=
 λ w _ _ => (h w).mono λ e w' ⟨h1, h2⟩ => ⟨v, [], h1, ⟨rfl, rfl⟩, by subst h2; exact ⟨by simp, by simp⟩, by subst h2; exact .refl _ _⟩
def scmp (a b : ByteArray) : Int := Lib.compareBytes a.data.toList b.data.toList
theorem cb_lt : ∀ (a b : List UInt8), Lib.compareBytes a b < 0 ↔ Op.bytesLess a b = true
 | [], [] => by simp [Lib.compareBytes, Op.bytesLess]
 | [], _ :: _ => by simp [Lib.compareBytes, Op.bytesLess]
 | _ :: _, [] => by simp [Lib.compareBytes, Op.bytesLess]
 | x :: a, y :: b => by
  have ih := cb_lt a b
  simp only [Lib.compareBytes, Op.bytesLess, Bool.or_eq_true, Bool.and_eq_true, decide_eq_true_eq, beq_iff_eq]
  by_cases h1 : x < y
  ·simp [h1]
  ·by_cases h2 : y < x
   ·have : x ≠ y := λ e => by subst e; exact UInt8.lt_irrefl _ h2
    simp [h1, h2, this]
   ·have : x = y := UInt8.le_antisymm (UInt8.not_lt.1 h2) (UInt8.not_lt.1 h1)
    subst this
    simp [h1, ih]
theorem cb_gt : ∀ (a b : List UInt8), 0 < Lib.compareBytes a b ↔ Op.bytesLess b a = true
 | [], [] => by simp [Lib.compareBytes, Op.bytesLess]
 | [], _ :: _ => by simp [Lib.compareBytes, Op.bytesLess]
 | _ :: _, [] => by simp [Lib.compareBytes, Op.bytesLess]
 | x :: a, y :: b => by
  have ih := cb_gt a b
  simp only [Lib.compareBytes, Op.bytesLess, Bool.or_eq_true, Bool.and_eq_true, decide_eq_true_eq, beq_iff_eq]
  by_cases h1 : x < y
  ·have h2 : ¬ y < x := λ h => UInt8.lt_irrefl _ (UInt8.lt_trans h1 h)
   have : ¬ y = x := λ e => by subst e; exact UInt8.lt_irrefl _ h1
   simp [h1, h2, this]
  ·by_cases h2 : y < x
   ·simp [h1, h2]
   ·have : x = y := UInt8.le_antisymm (UInt8.not_lt.1 h2) (UInt8.not_lt.1 h1)
    subst this
    simp [h1, ih]
theorem cb_eq : ∀ (a b : List UInt8), Lib.compareBytes a b = 0 ↔ a = b
 | [], [] => by simp [Lib.compareBytes]
 | [], _ :: _ => by simp [Lib.compareBytes]
 | _ :: _, [] => by simp [Lib.compareBytes]
 | x :: a, y :: b => by
  have ih := cb_eq a b
  simp only [Lib.compareBytes, List.cons.injEq]
  by_cases h1 : x < y
  ·have : ¬ x = y := λ e => by subst e; exact UInt8.lt_irrefl _ h1
   simp [h1, this]
  ·by_cases h2 : y < x
   ·have : ¬ x = y := λ e => by subst e; exact UInt8.lt_irrefl _ h2
    simp [h1, h2, this]
   ·have : x = y := UInt8.le_antisymm (UInt8.not_lt.1 h2) (UInt8.not_lt.1 h1)
    subst this
    simp [h1, ih]
theorem bl_trans : ∀ (a b c : List UInt8), Op.bytesLess a b = true -> Op.bytesLess b c = true -> Op.bytesLess a c = true
 | _, [], _, h, _ => by simp [Op.bytesLess] at h
 | _, _ :: _, [], _, h => by simp [Op.bytesLess] at h
 | [], _ :: _, _ :: _, _, _ => by simp [Op.bytesLess]
 | x :: a, y :: b, z :: c, h1, h2 => by
  simp only [Op.bytesLess, Bool.or_eq_true, Bool.and_eq_true, decide_eq_true_eq, beq_iff_eq] at h1 h2 ⊢
  rcases h1 with h1 | ⟨rfl, h1⟩
  ·rcases h2 with h2 | ⟨rfl, h2⟩
   ·exact .inl (UInt8.lt_trans h1 h2)
   ·exact .inl h1
  ·rcases h2 with h2 | ⟨rfl, h2⟩
   ·exact .inl h2
   ·exact .inr ⟨rfl, bl_trans a b c h1 h2⟩
theorem sLt_iff {a b : ByteArray} : sLt a b = true ↔ scmp a b < 0 := by
 unfold sLt scmp; rw [ByteArray.toList_eq, ByteArray.toList_eq, cb_lt]
theorem sLt_iff' {a b : ByteArray} : sLt b a = true ↔ 0 < scmp a b := by
 unfold sLt scmp; rw [ByteArray.toList_eq, ByteArray.toList_eq, cb_gt]
theorem scmp_eq {a b : ByteArray} : scmp a b = 0 ↔ a = b := by
 unfold scmp
 rw [cb_eq]
 exact ⟨λ h => ByteArray.ext (Array.toList_inj.1 h), λ h => by rw [h]⟩
theorem sLt_irr (a : ByteArray) : sLt a a = false := by
 cases h : sLt a a with
 | false => rfl
 | true => have := sLt_iff.1 h; rw [scmp_eq.2 rfl] at this; omega
theorem sLt_trans {a b c : ByteArray} (h1 : sLt a b = true) (h2 : sLt b c = true) : sLt a c = true := by
 unfold sLt at *; exact bl_trans _ _ _ h1 h2
theorem sLt_conn {a b : ByteArray} (h1 : sLt a b = false) (h2 : sLt b a = false) : a = b := by
 refine scmp_eq.1 ?_
 rcases Int.lt_trichotomy (scmp a b) 0 with h | h | h
 ·rw [sLt_iff.2 h] at h1; cases h1
 ·exact h
 ·rw [sLt_iff'.2 h] at h2; cases h2
theorem sLt_so : SO sLt := ⟨sLt_irr, λ _ _ _ => sLt_trans, λ x y z h1 h2 => by
 cases h : sLt x z with
 | false => rfl
 | true =>
  cases h3 : sLt y x with
  | true => rw [sLt_trans h3 h] at h2; cases h2
  | false => have := sLt_conn h1 h3; subst this; rw [h] at h2; cases h2⟩
theorem compare_spec (a b : ByteArray) (R : Rds) : Spec prog 273 [.string a, .string b] R [] λ v H' => v = .int .i64 (scmp a b) /\ H' = [] :=
 Spec.ofCalls (Tryz.strings_Compare a b) R
def icmp (a b : Int) : Int := if a < b then -1 else if b < a then 1 else 0
def orI : List Int -> Int
 | [] => 0
 | x :: l => if x = 0 then orI l else x
def encI (x : Int) : List Value := [.int .i64 x]
def encS (s : ByteArray) : List Value := [.string s]
instance decMemS (s : ByteArray) (l : List ByteArray) : Decidable (s ∈ l) := decidable_of_iff (l.any (λ x => decide (x = s)) = true) (by simp)
instance keyS : KeyT prog 9 (λ s : ByteArray => .string s) := KeyT.str fU9 fA9
theorem orI_skip {l : List Int} {i : Nat} (h : ∀ j x, j < i -> l[j]? = some x -> x = 0) : orI l = orI (l.drop i) := by
 induction i generalizing l with
 | zero => simp
 | succ i ih =>
  cases l with
  | nil => simp
  | cons x l =>
   have : x = 0 := h 0 x (by omega) rfl
   subst this
   simp only [orI, if_true, List.drop_succ_cons]
   exact ih λ j x hj hx => h (j + 1) x (by omega) (by simpa using hx)
theorem or_spec (v : Value) (l : List Int) (R : Rds) (h : RS R 1 encI v l) : Spec prog 272 [v] R [] λ u H' => u = .int .i64 (orI l) /\ H' = [] := by
 have hle := h.le
 refine Spec.body Tryz.func272 rfl Tryz.results272 Tryz.ntmps272 rfl<|.sr<|.ag rfl<|.z<|.ag rfl<|.zs<|.sr<|.mo rfl<|.q (.lenR h)<|.mo rfl<|.zn<|.block<|.loop (X := Nat) (λ i => i <= l.length /\ ∀ j x, j < i -> l[j]? = some x -> x = 0) (λ i => [(3, .int .i64 0), (6, v), (7, .int .i64 l.length), (8, iN i)]) (λ _ => []) (λ i => l.length - i) 0 ⟨by omega, by omega⟩ kE.c.c.c.c rH ?_
 rintro i ⟨hi, hz⟩
 refine .sr<|.q .lss<|.zs<|.cond rfl (λ h1 => ?_) λ h1 => ?_
 have hlt : i < l.length := by simp at h1; omega
 obtain ⟨z, hzz⟩ := exg hlt
 refine .kn<|.seq<|.block<|.sr ?_
 refine .indexR i h hzz (λ pz => ?_)
 refine .lo rfl<|.ag rfl<|.z<|.mo rfl<|.mo rfl<|.q .neI<|.zn<|.cond rfl (λ h2 => ?_) λ h2 => ?_
 refine .sr<|.mo rfl<|.az rfl<|.ret (blkQ_r (seqQ_r (loopQ_r (blkQ_r (seqQ_r (rq1 rfl ?_))))))
 ·refine ⟨?_, rfl⟩
  have h2' : z ≠ 0 := by simpa using h2
  rw [orI_skip hz, List.drop_eq_getElem_cons hlt]
  rw [gge hlt] at hzz
  cases hzz
  simp [orI, h2']
 refine .skip<|blkQ_n<|seqQ_n<|.region<|.q (.inc (n := i) (by omega))<|.mo rfl<|.nil ?_
 ·exact loopQ_i (i + 1) ⟨by omega, λ j x hj hx => by
   rcases Nat.lt_or_ge j i with hh | hh
   ·exact hz j x hh hx
   ·obtain rfl : j = i := by omega
    rw [hzz] at hx; cases hx; simpa using h2⟩ (by omega) kE.c.c.c.c rH
 refine .exit<|seqQ_x<|loopQ_x<|blkQ_x<|seqQ_n<|.sr<|.mo rfl<|.az rfl<|.ret (rq1 rfl ?_)
 ·refine ⟨?_, rfl⟩
  have : i = l.length := by simp at h1; omega
  rw [orI_skip hz, this]; simp [orI]
set_option maxRecDepth 4000
def short (s : ByteArray) (n : Nat) : ByteArray := if n < s.size then s.extract 0 n else s
def bAll (s : ByteArray) (p : Int -> Bool) : Bool := s.data.toList.all λ c => p (c.toNat : Int)
theorem bAll_true {s : ByteArray} {p : Int -> Bool} (h : ∀ j (hj : j < s.size), p (s[j]'hj).toNat = true) : bAll s p = true := by
 unfold bAll
 rw [List.all_eq_true]
 intro c hc
 obtain ⟨j, hj, rfl⟩ := List.mem_iff_getElem.1 hc
 exact h j (by simpa using hj)
theorem bAll_false {s : ByteArray} {p : Int -> Bool} {j : Nat} (hj : j < s.size) (h : p (s[j]'hj).toNat = false) : bAll s p = false := by
 unfold bAll
 rw [List.all_eq_false]
 refine ⟨s[j], ?_, by rw [h]; simp⟩
 have : s[j] = s.data.toList[j]'(by simpa using hj) := by simp [ByteArray.getElem_eq_getElem_data]
 rw [this]
 exact List.getElem_mem _
def zSmall (z : Int) : Bool := decide (97 <= z) && decide (z <= 122)
def zFig (z : Int) : Bool := (decide (48 <= z) && decide (z <= 57)) || z == 95
def zId (z : Int) : Bool := zSmall z || zFig z || (decide (65 <= z) && decide (z <= 90)) || z == 46 || z == 45
def zWord (z : Int) : Bool := zSmall z || zFig z
def isID (s : ByteArray) : Bool := bAll s zId && decide (1 <= s.size) && decide (s.size <= 32)
def reserved (s : ByteArray) : Bool := decide (s = ⟨#[117, 115, 101, 114]⟩) || decide (s = ⟨#[116, 104, 105, 115]⟩) || decide (s = ⟨#[110, 97, 109, 101, 115, 112, 97, 99, 101]⟩) || decide (s = ⟨#[114, 101, 108, 97, 116, 105, 111, 110]⟩) || decide (s = ⟨#[115, 99, 111, 112, 101]⟩)
def isWord (s : ByteArray) : Bool := !reserved s && (bAll s zWord && decide (1 <= s.size) && decide (s.size <= 32)) && (if h : 0 < s.size then zSmall (s[0]'h).toNat else false)
theorem small_spec (z : Int) (R : Rds) : Spec prog 146 [.int .u8 z] R [] λ v H' => v = .bool (zSmall z) /\ H' = [] := by
 refine Spec.body Tryz.func146 rfl Tryz.results146 Tryz.ntmps146 rfl<|.sr<|.ag rfl<|.z<|.mo rfl<|.q .geq<|.mo rfl<|.split (t := 5) rfl (λ g1_2 => ?_) (λ g1_2 => ?_)
 refine .gT g1_2<|.mo rfl<|.gT g1_2<|.q .leq<|.q (.pickTh g1_2)<|.az rfl<|.ret (rq1 rfl ?_)
 ·exact ⟨by simp_all [zSmall] <;> omega, rfl⟩
 refine .gF g1_2<|.gF g1_2<|.q (.pickFh g1_2)<|.az rfl<|.ret (rq1 rfl ?_)
 ·exact ⟨by simp_all [zSmall] <;> omega, rfl⟩
theorem figure_spec (z : Int) (R : Rds) : Spec prog 147 [.int .u8 z] R [] λ v H' => v = .bool (zFig z) /\ H' = [] := by
 refine Spec.body Tryz.func147 rfl Tryz.results147 Tryz.ntmps147 rfl<|.sr<|.ag rfl<|.z<|.mo rfl<|.q .geq<|.mo rfl<|.split (t := 5) rfl (λ g1_2 => ?_) (λ g1_2 => ?_)
 refine .gT g1_2<|.mo rfl<|.gT g1_2<|.q .leq<|.q (.pickTh g1_2)<|.mo rfl<|.split (t := 9) rfl (λ g1_6 => ?_) (λ g1_6 => ?_)
 refine .gF g1_6<|.gF g1_6<|.q (.pickTh g1_6)<|.az rfl<|.ret (rq1 rfl ?_)
 ·exact ⟨by simp_all [zFig] <;> omega, rfl⟩
 refine .gT g1_6<|.mo rfl<|.gT g1_6<|.q .eqI<|.q (.pickFh g1_6)<|.az rfl<|.ret (rq1 rfl ?_)
 ·exact ⟨by simp_all [zFig] <;> omega, rfl⟩
 refine .gF g1_2<|.gF g1_2<|.q (.pickFh g1_2)<|.mo rfl<|.gt rfl<|.mo rfl<|.gt rfl<|.q .eqI<|.q .pickF<|.az rfl<|.ret (rq1 rfl ?_)
 ·exact ⟨by simp_all [zFig] <;> omega, rfl⟩
theorem id1_spec (z : Int) (R : Rds) : Spec prog 145 [.int .u8 z] R [] λ v H' => v = .bool (zId z) /\ H' = [] := by
 refine Spec.body Tryz.func145 rfl Tryz.results145 Tryz.ntmps145 rfl<|.sr<|.ag rfl<|.z<|.mo rfl<|.callR (small_spec z _) (λ v hv => ?_)
 subst hv
 refine .mo rfl<|.split (t := 5) rfl (λ g1_2 => ?_) (λ g1_2 => ?_)
 refine .gF g1_2<|.gF g1_2<|.q (.pickTh g1_2)<|.mo rfl<|.gX<|.gX<|.gX<|.gfU rfl<|.gfU rfl<|.gX<|.q .pickT<|.mo rfl<|.gX<|.gX<|.q .pickT<|.mo rfl<|.gX<|.gX<|.q .pickT<|.az rfl<|.ret (rq1 rfl ?_)
 ·exact ⟨by simp_all [zId] <;> omega, rfl⟩
 refine .gT g1_2<|.mo rfl<|.gT g1_2<|.callR (figure_spec z _) (λ v hv => ?_)
 subst hv
 refine .q (.pickFh g1_2)<|.mo rfl<|.split (t := 9) rfl (λ g1_6 => ?_) (λ g1_6 => ?_)
 refine .gF g1_6<|.gF g1_6<|.gF g1_6<|.gfU rfl<|.gfU rfl<|.gF g1_6<|.q (.pickTh g1_6)<|.mo rfl<|.gX<|.gX<|.q .pickT<|.mo rfl<|.gX<|.gX<|.q .pickT<|.az rfl<|.ret (rq1 rfl ?_)
 ·exact ⟨by simp_all [zId] <;> omega, rfl⟩
 refine .gT g1_6<|.mo rfl<|.gT g1_6<|.q .geq<|.gT g1_6<|.mo rfl<|.split (t := 12) rfl (λ g1_9 => ?_) (λ g1_9 => ?_)
 refine .gT g1_9<|.mo rfl<|.gT g1_9<|.q .leq<|.gT g1_6<|.q (.pickTh g1_9)<|.q (.pickFh g1_6)<|.mo rfl<|.split (t := 17) rfl (λ g1_14 => ?_) (λ g1_14 => ?_)
 refine .gF g1_14<|.gF g1_14<|.q (.pickTh g1_14)<|.mo rfl<|.gX<|.gX<|.q .pickT<|.az rfl<|.ret (rq1 rfl ?_)
 ·exact ⟨by simp_all [zId] <;> omega, rfl⟩
 refine .gT g1_14<|.mo rfl<|.gT g1_14<|.q .eqI<|.q (.pickFh g1_14)<|.mo rfl<|.split (t := 21) rfl (λ g1_18 => ?_) (λ g1_18 => ?_)
 refine .gF g1_18<|.gF g1_18<|.q (.pickTh g1_18)<|.az rfl<|.ret (rq1 rfl ?_)
 ·exact ⟨by simp_all [zId] <;> omega, rfl⟩
 refine .gT g1_18<|.mo rfl<|.gT g1_18<|.q .eqI<|.q (.pickFh g1_18)<|.az rfl<|.ret (rq1 rfl ?_)
 ·exact ⟨by simp_all [zId] <;> omega, rfl⟩
 refine .gF g1_9<|.gF g1_9<|.gT g1_6<|.q (.pickFh g1_9)<|.q (.pickFh g1_6)<|.mo rfl<|.gt rfl<|.mo rfl<|.gt rfl<|.q .eqI<|.q .pickF<|.mo rfl<|.split (t := 21) rfl (λ g1_18 => ?_) (λ g1_18 => ?_)
 refine .gF g1_18<|.gF g1_18<|.q (.pickTh g1_18)<|.az rfl<|.ret (rq1 rfl ?_)
 ·exact ⟨by simp_all [zId] <;> omega, rfl⟩
 refine .gT g1_18<|.mo rfl<|.gT g1_18<|.q .eqI<|.q (.pickFh g1_18)<|.az rfl<|.ret (rq1 rfl ?_)
 ·exact ⟨by simp_all [zId] <;> omega, rfl⟩
theorem word1_spec (z : Int) (R : Rds) : Spec prog 246 [.int .u8 z] R [] λ v H' => v = .bool (zWord z) /\ H' = [] := by
 refine Spec.body Tryz.func246 rfl Tryz.results246 Tryz.ntmps246 rfl<|.sr<|.ag rfl<|.z<|.mo rfl<|.callR (small_spec z _) (λ v hv => ?_)
 subst hv
 refine .mo rfl<|.split (t := 5) rfl (λ g1_2 => ?_) (λ g1_2 => ?_)
 refine .gF g1_2<|.gF g1_2<|.q (.pickTh g1_2)<|.az rfl<|.ret (rq1 rfl ?_)
 ·exact ⟨by simp_all [zWord] <;> omega, rfl⟩
 refine .gT g1_2<|.mo rfl<|.gT g1_2<|.callR (figure_spec z _) (λ v hv => ?_)
 subst hv
 refine .q (.pickFh g1_2)<|.az rfl<|.ret (rq1 rfl ?_)
 ·exact ⟨by simp_all [zWord] <;> omega, rfl⟩
theorem all_spec (s : ByteArray) (f : FuncId) [e : Ent prog f] (p : Int -> Bool) (hf : ∀ z R, Spec prog f [.int .u8 z] R [] λ v H' => v = .bool (p z) /\ H' = []) (hs : s.size <= 9223372036854775807) (R : Rds) :
  Spec prog 144 [.string s, .func (.func f) #[] #[]] R [] λ v H' => v = .bool (bAll s p && decide (1 <= s.size) && decide (s.size <= 32)) /\ H' = [] := by
 refine Spec.body Tryz.func144 rfl Tryz.results144 Tryz.ntmps144 rfl<|.sr<|.ag rfl<|.zs<|.sr<|.mo rfl<|.q .lenS<|.mo rfl<|.zn<|.block<|.loop (X := Nat) (λ i => i <= s.size /\ ∀ j (hj : j < s.size), j < i -> p (s[j]'hj).toNat = true) (λ i => [(0, .string s), (1, .func (.func f) #[] #[]), (7, iN s.size), (8, iN i)]) (λ _ => []) (λ i => s.size - i) 0 ⟨by omega, by omega⟩ kE.c.c.c.c rH ?_
 rintro i ⟨hi, hp⟩
 refine .sr<|.q .lss<|.zs<|.cond rfl (λ h1 => ?_) λ h1 => ?_
 have hlt : i < s.size := by simp at h1; omega
 refine .kn<|.seq<|.block<|.sr<|.mo rfl<|.ag rfl<|.z<|.mo rfl<|.mo rfl<|.mo rfl<|.q (.indexS i hlt)<|.callRV (first := []) (captured := []) (vs := [.int .u8 (s[i]'hlt).toNat]) (hf _ _) (λ v hv => ?_)
 subst hv
 refine .q .not<|.zn<|.cond rfl (λ h2 => ?_) λ h2 => ?_
 refine .sr<|.az rfl<|.ret (blkQ_r (seqQ_r (loopQ_r (blkQ_r (seqQ_r (rq1 rfl ?_))))))
 ·have := bAll_false hlt (p := p) (by simpa using h2)
  exact ⟨by simp [this], rfl⟩
 refine .skip<|blkQ_n<|seqQ_n<|.region<|.q (.inc (n := i) (by omega))<|.mo rfl<|.nil ?_
 ·exact loopQ_i (i + 1) ⟨by omega, λ j hj hji => by
   rcases Nat.lt_or_ge j i with hh | hh
   ·exact hp j hj hh
   ·obtain rfl : j = i := by omega
    simpa using h2⟩ (by omega) kE.c.c.c.c rH
 have hb : bAll s p = true := bAll_true λ j hj => hp j hj (by simp at h1; omega)
 refine .exit<|seqQ_x<|loopQ_x<|blkQ_x<|seqQ_n<|.sr<|.mo rfl<|.q .lenS<|.q .geq<|.mo rfl<|.split (t := 21) rfl (λ g7_3 => ?_) (λ g7_3 => ?_)
 refine .gT g7_3<|.mo rfl<|.gT g7_3<|.q .lenS<|.gT g7_3<|.q .leq<|.q (.pickTh g7_3)<|.az rfl<|.ret (rq1 rfl ?_)
 ·exact ⟨by rw [Value.bool.injEq, Bool.eq_iff_iff]; simp [hb] at *; omega, rfl⟩
 refine .gF g7_3<|.gF g7_3<|.gF g7_3<|.q (.pickFh g7_3)<|.az rfl<|.ret (rq1 rfl ?_)
 ·exact ⟨by rw [Value.bool.injEq, Bool.eq_iff_iff]; simp [hb] at *; omega, rfl⟩
theorem id_spec (s : ByteArray) (hs : s.size <= 9223372036854775807) (R : Rds) : Spec prog 93 [.string s] R [] λ v H' => v = .bool (isID s) /\ H' = [] := by
 refine Spec.body Tryz.func93 rfl Tryz.results93 Tryz.ntmps93 rfl<|.sr<|.ag rfl<|.z<|.mo rfl<|.callR (all_spec s 145 zId id1_spec hs _) (λ v hv => ?_)
 subst hv
 refine .az rfl<|.ret (rq1 rfl ?_)
 ·exact ⟨rfl, rfl⟩
theorem word_spec (s : ByteArray) (hs : s.size <= 9223372036854775807) (R : Rds) : Spec prog 192 [.string s] R [] λ v H' => v = .bool (isWord s) /\ H' = [] := by
 refine Spec.body Tryz.func192 rfl Tryz.results192 Tryz.ntmps192 rfl<|.sr<|.ag rfl<|.zs<|.sr<|.mo rfl<|.zn<|.block<|.seq<|.sr<|.q .eqS<|.az rfl ?_
 refine Tri.cut (X := Unit) (λ _ => True) (λ _ => [(0, .string s), (4, .bool (reserved s))]) (λ _ => []) ?_ ?_
 refine .cond rfl (λ h1 => ?_) λ h1 => ?_
 refine .skip ?_
 ·refine joinQ_n () trivial ?_ rH
  (simp only [reserved, h1, Bool.true_or]; exact kE.c.c)
 refine .sr<|.q .eqS<|.az rfl<|.cond rfl (λ h2 => ?_) λ h2 => ?_
 refine .skip ?_
 ·refine joinQ_n () trivial ?_ rH
  (simp only [reserved, h1, h2, Bool.false_or, Bool.true_or]; exact kE.c.c)
 refine .sr<|.q .eqS<|.az rfl<|.cond rfl (λ h3 => ?_) λ h3 => ?_
 refine .skip ?_
 ·refine joinQ_n () trivial ?_ rH
  (simp only [reserved, h1, h2, h3, Bool.false_or, Bool.true_or]; exact kE.c.c)
 refine .sr<|.q .eqS<|.az rfl<|.cond rfl (λ h4 => ?_) λ h4 => ?_
 refine .skip ?_
 ·refine joinQ_n () trivial ?_ rH
  (simp only [reserved, h1, h2, h3, h4, Bool.false_or]; exact kE.c.c)
 refine .region<|.q .eqS<|.ag rfl<|.nil ?_
 ·refine joinQ_n () trivial ?_ rH
  (simp only [reserved, h1, h2, h3, h4, Bool.false_or]; exact kE.c.c)
 intro x hx
 refine seqQ_n<|.cond rfl (λ h5 => ?_) λ h5 => ?_
 refine .sr<|.az rfl<|.ret (blkQ_r (seqQ_r (rq1 rfl ?_)))
 ·refine ⟨?_, rfl⟩
  (simp [isWord, h5]; done)
 refine .skip<|blkQ_n<|seqQ_n<|.sr<|.mo rfl<|.callR (all_spec s 246 zWord word1_spec hs _) (λ v hv => ?_)
 subst hv
 refine .mo rfl<|.split (t := 12) rfl (λ g8_2 => ?_) (λ g8_2 => ?_)
 refine .gT g8_2<|.mo rfl<|.gT g8_2 ?_
 have hpos : 0 < s.size := by simp at g8_2; omega
 refine .q (.indexS 0 hpos)<|.gT g8_2<|.callR (small_spec _ _) (λ v hv => ?_)
 subst hv
 refine .q (.pickTh g8_2)<|.az rfl<|.ret (rq1 rfl ?_)
 ·refine ⟨?_, rfl⟩
  (rw [isWord, h5, g8_2, dif_pos hpos, Bool.not_false, Bool.true_and, Bool.true_and])
 refine .gF g8_2<|.gF g8_2<|.gF g8_2<|.q (.pickFh g8_2)<|.az rfl<|.ret (rq1 rfl ?_)
 ·refine ⟨?_, rfl⟩
  (rw [isWord, g8_2, Bool.and_false, Bool.false_and])
structure CmpOK {α : Type} (c : α -> α -> Int) : Prop where
 sw : ∀ x y, c x y < 0 ↔ 0 < c y x
 tr : ∀ x y z, c x y <= 0 -> c y z <= 0 -> c x z <= 0
 tl : ∀ x y z, c x y < 0 -> c y z <= 0 -> c x z < 0
section
variable {α β : Type} {c d : α -> α -> Int}
theorem CmpOK.refl (h : CmpOK c) (x : α) : c x x = 0 := by have := h.sw x x; omega
theorem CmpOK.zero_sw (h : CmpOK c) {x y : α} (h0 : c x y = 0) : c y x = 0 := by have h1 := h.sw x y; have h2 := h.sw y x; omega
theorem CmpOK.t2 (h : CmpOK c) (x y z : α) (h1 : c x y <= 0) (h2 : c y z < 0) : c x z < 0 := by
 have h3 := h.tr x y z h1 (by omega)
 rcases Int.lt_or_eq_of_le h3 with h4 | h4
 ·exact h4
 ·have h5 := h.zero_sw h4
  have h6 := h.tl y z x h2 (by omega)
  have h7 := (h.sw y x).1 h6
  omega
theorem CmpOK.map (h : CmpOK c) (f : β -> α) : CmpOK (λ x y => c (f x) (f y)) := ⟨λ x y => h.sw _ _, λ x y z => h.tr _ _ _, λ x y z => h.tl _ _ _⟩
theorem CmpOK.so (h : CmpOK c) : SO (ltc c) where
 irr x := by unfold ltc; rw [h.refl]; rfl
 tr x y z h1 h2 := by
  unfold ltc at *
  have h1 := odt h1
  have h2 := odt h2
  exact decide_eq_true (h.tl x y z h1 (by omega))
 ntr x y z h1 h2 := by
  unfold ltc at *
  have h1 := odf h1
  have h2 := odf h2
  refine decide_eq_false λ h3 => ?_
  have e1 : c y x <= 0 := by have := h.sw y x; have := h.sw x y; omega
  have e2 : c z y <= 0 := by have := h.sw y z; have := h.sw z y; omega
  have e3 := h.tr z y x e2 e1
  have e4 := (h.sw x z).1 h3
  omega
theorem orI_cons (a : Int) (l : List Int) : orI (a :: l) = if a = 0 then orI l else a := rfl
theorem CmpOK.nil : CmpOK (λ _ _ : α => orI []) := ⟨λ x y => by simp [orI], λ x y z _ _ => by simp [orI], λ x y z h _ => by simp [orI] at h⟩
theorem CmpOK.cons {L : α -> α -> List Int} (hc : CmpOK c) (hL : CmpOK λ a b => orI (L a b)) : CmpOK (λ a b => orI (c a b :: L a b)) where
 sw x y := by
  simp only [orI_cons]
  have h1 := hc.sw x y
  have h2 := hc.sw y x
  have h3 := hL.sw x y
  split <;> split <;> omega
 tr x y z h1 h2 := by
  simp only [orI_cons] at *
  have a1 := hc.tr x y z
  have a2 := hc.tl x y z
  have a3 := hc.t2 x y z
  have a4 := hL.tr x y z
  have b1 := hc.tr z y x
  have b2 := hc.sw x y
  have b3 := hc.sw y x
  have b4 := hc.sw z y
  have b5 := hc.sw y z
  have b6 := hc.sw x z
  have b7 := hc.sw z x
  split <;> (try split at h1) <;> (try split at h2) <;> omega
 tl x y z h1 h2 := by
  simp only [orI_cons] at *
  have a1 := hc.tr x y z
  have a2 := hc.tl x y z
  have a3 := hc.t2 x y z
  have a4 := hL.tl x y z
  have b1 := hc.tr z y x
  have b2 := hc.sw x y
  have b3 := hc.sw y x
  have b4 := hc.sw z y
  have b5 := hc.sw y z
  have b6 := hc.sw x z
  have b7 := hc.sw z x
  split <;> (try split at h1) <;> (try split at h2) <;> omega
theorem orI_zero {a : Int} {l : List Int} (h : orI (a :: l) = 0) : a = 0 /\ orI l = 0 := by
 rw [orI_cons] at h
 split at h
 ·rename_i h0; exact ⟨h0, h⟩
 ·omega
end
theorem scmp_ok : CmpOK scmp where
 sw x y := by rw [<- sLt_iff, <- sLt_iff']
 tr x y z h1 h2 := by
  have e1 : sLt y x = false := Bool.eq_false_iff.2 λ h => by have := sLt_iff'.1 h; omega
  have e2 : sLt z y = false := Bool.eq_false_iff.2 λ h => by have := sLt_iff'.1 h; omega
  have e3 := sLt_so.ntr z y x e2 e1
  rcases Int.lt_or_le 0 (scmp x z) with h | h
  ·rw [sLt_iff'.2 h] at e3; cases e3
  ·exact h
 tl x y z h1 h2 := by
  have e1 := sLt_iff.2 h1
  rcases Int.lt_or_eq_of_le h2 with h | h
  ·exact sLt_iff.1 (sLt_trans e1 (sLt_iff.2 h))
  ·rw [scmp_eq] at h; subst h; exact h1
theorem icmp_ok : CmpOK icmp where
 sw x y := by unfold icmp; split <;> split <;> (try split) <;> (try split) <;> omega
 tr x y z h1 h2 := by unfold icmp at *; split at h1 <;> split at h2 <;> (try split at h1) <;> (try split at h2) <;> split <;> (try split) <;> omega
 tl x y z h1 h2 := by unfold icmp at *; split at h1 <;> split at h2 <;> (try split at h1) <;> (try split at h2) <;> split <;> (try split) <;> omega
theorem cmp_uniq {α : Type} {c : α -> α -> Int} (h : CmpOK c) (he : ∀ x y, c x y = 0 -> x = y) {xs ys : List α} (hp : ys.Perm xs) (hx : xs.Pairwise λ a b => ltc c b a = false) (hy : ys.Pairwise λ a b => ltc c b a = false) : ys = xs := by
 refine List.Perm.eq_of_pairwise (le := λ a b : α => ltc c b a = false) (λ a b _ _ h1 h2 => ?_) hy hx hp
 unfold ltc at h1 h2
 have h1 := odf h1
 have h2 := odf h2
 have := h.sw b a
 have := h.sw a b
 exact he a b (by omega)
structure Tpl where
 os : ByteArray
 oi : ByteArray
 rel : ByteArray
 us : ByteArray
 ss : ByteArray
 si : ByteArray
 sr : ByteArray
def Tpl.enc (t : Tpl) : List Value := [.string t.os, .string t.oi, .string t.rel, .string t.us, .string t.ss, .string t.si, .string t.sr]
theorem Tpl.kinds (t : Tpl) : HasK [.s, .s, .s, .s, .s, .s, .s] t.enc := ⟨trivial, trivial, trivial, trivial, trivial, trivial, trivial, trivial⟩
theorem Tpl.eq_iff (a b : Tpl) : cellsEq a.enc b.enc = true ↔ a = b := by
 cases a; cases b
 simp only [Tpl.enc, cellsEq, cellEq, Tpl.mk.injEq]
 simp
instance decTpl : DecidableEq Tpl := λ a b => decidable_of_iff _ (Tpl.eq_iff a b)
theorem Tpl.eq (a b : Tpl) : cellsEq a.enc b.enc = decide (a = b) := by rw [Bool.eq_iff_iff, decide_eq_true_eq]; exact Tpl.eq_iff a b
instance Tpl.one (t : Tpl) : Ones t.enc := ⟨by simp [Tpl.enc, oneCell]⟩
structure Sub where
 us : ByteArray
 ss : ByteArray
 si : ByteArray
 sr : ByteArray
def Sub.enc (t : Sub) : List Value := [.string t.us, .string t.ss, .string t.si, .string t.sr]
theorem Sub.eq_iff (a b : Sub) : cellsEq a.enc b.enc = true ↔ a = b := by
 cases a; cases b
 simp only [Sub.enc, cellsEq, cellEq, Sub.mk.injEq]
 simp
instance decSub : DecidableEq Sub := λ a b => decidable_of_iff _ (Sub.eq_iff a b)
instance Sub.one (t : Sub) : Ones t.enc := ⟨by simp [Sub.enc, oneCell]⟩
structure Obr where
 os : ByteArray
 oi : ByteArray
 rel : ByteArray
def Obr.enc (t : Obr) : List Value := [.string t.os, .string t.oi, .string t.rel]
theorem Obr.kinds (t : Obr) : HasK [.s, .s, .s] t.enc := ⟨trivial, trivial, trivial, trivial⟩
theorem Obr.eq_iff (a b : Obr) : cellsEq a.enc b.enc = true ↔ a = b := by
 cases a; cases b
 simp only [Obr.enc, cellsEq, cellEq, Obr.mk.injEq]
 simp
instance decObr : DecidableEq Obr := λ a b => decidable_of_iff _ (Obr.eq_iff a b)
theorem Obr.eq (a b : Obr) : cellsEq a.enc b.enc = decide (a = b) := by rw [Bool.eq_iff_iff, decide_eq_true_eq]; exact Obr.eq_iff a b
def Tpl.sub (t : Tpl) : Sub := ⟨t.us, t.ss, t.si, t.sr⟩
def Tpl.obr (t : Tpl) : Obr := ⟨t.os, t.oi, t.rel⟩
def srank (u : ByteArray) : Int := if u = ⟨#[]⟩ then 1 else 0
def tplcmp (a b : Tpl) : Int := orI [scmp a.os b.os, scmp a.oi b.oi, scmp a.rel b.rel, icmp (srank a.us) (srank b.us), scmp a.us b.us, scmp a.ss b.ss, scmp a.si b.si, scmp a.sr b.sr]
def tlt (a b : Tpl) : Bool := decide (tplcmp a b < 0)
theorem tplcmp_ok : CmpOK tplcmp :=
 (scmp_ok.map Tpl.os).cons ((scmp_ok.map Tpl.oi).cons ((scmp_ok.map Tpl.rel).cons ((icmp_ok.map λ t : Tpl => srank t.us).cons ((scmp_ok.map Tpl.us).cons ((scmp_ok.map Tpl.ss).cons ((scmp_ok.map Tpl.si).cons ((scmp_ok.map Tpl.sr).cons .nil)))))))
theorem tplcmp_zero {a b : Tpl} (h : tplcmp a b = 0) : a = b := by
 unfold tplcmp at h
 obtain ⟨h1, h⟩ := orI_zero h
 obtain ⟨h2, h⟩ := orI_zero h
 obtain ⟨h3, h⟩ := orI_zero h
 obtain ⟨h4, h⟩ := orI_zero h
 obtain ⟨h5, h⟩ := orI_zero h
 obtain ⟨h6, h⟩ := orI_zero h
 obtain ⟨h7, h⟩ := orI_zero h
 obtain ⟨h8, h⟩ := orI_zero h
 rw [scmp_eq] at h1 h2 h3 h5 h6 h7 h8
 cases a; cases b
 simp_all
def isRef (s i : ByteArray) : Bool := isWord s && isID i
def isSub (t : Sub) : Bool := if t.us = ⟨#[]⟩ then isRef t.ss t.si && isWord t.sr else isID t.us && (decide (t.ss = ⟨#[]⟩) && decide (t.si = ⟨#[]⟩) && decide (t.sr = ⟨#[]⟩))
def isTpl (t : Tpl) : Bool := isRef t.os t.oi && isWord t.rel && isSub t.sub
def tmatch (f t : Tpl) : Bool := (decide (f.os = ⟨#[]⟩) || decide (f.os = t.os)) && (decide (f.oi = ⟨#[]⟩) || decide (f.oi = t.oi)) && (decide (f.rel = ⟨#[]⟩) || decide (f.rel = t.rel)) && (decide (f.us = ⟨#[]⟩) || decide (f.us = t.us)) && (decide (f.ss = ⟨#[]⟩) || decide (f.ss = t.ss)) && (decide (f.si = ⟨#[]⟩) || decide (f.si = t.si)) && (decide (f.sr = ⟨#[]⟩) || decide (f.sr = t.sr))
structure Plc where
 k : Obr
 found : Bool
 nodes : List Nd
 number : Nat
 users : List ByteArray
 leads : List (List Nat)
def one (c : Cf) (num : List Nat) (k : Obr) : Plc :=
 match rfind c.all ⟨k.os, k.rel⟩ with
 | none => ⟨k, false, [], 0, [], []⟩
 | some i => ⟨k, true, (c.all.map (·.2.nodes)).getD i [], num.getD i 0, [], []⟩
theorem one_k (c : Cf) (num : List Nat) (k : Obr) : (one c num k).k = k := by unfold one; split <;> rfl
def fitT (s : Sub) (t : Ty) : Bool := if s.us = ⟨#[]⟩ then (!decide (t.space = ⟨#[]⟩)) && decide (t.space = s.ss) && decide (t.rel = s.sr) else decide (t.space = ⟨#[]⟩) && decide (t.rel = ⟨#[]⟩)
def allowed (c : Cf) (k : Obr) (s : Sub) : Bool :=
 match rfind c.all ⟨k.os, k.rel⟩ with
 | none => false
 | some i => ((c.all.map (·.2.types)).getD i []).any (fitT s)
section
variable (c : Cf) (num : List Nat) (sub : Obr -> List Sub)
def fitting (k : Obr) : List Sub := (sub k).filter (allowed c k)
def usersOf (k : Obr) : List ByteArray := ((fitting c sub k).filter λ s => !decide (s.us = ⟨#[]⟩)).map (·.us)
def setsOf (k : Obr) : List Sub := (fitting c sub k).filter λ s => decide (s.us = ⟨#[]⟩)
def aheadK (k : Obr) (n : Nd) : List Obr :=
 if n.kind = 1 then (setsOf c sub k).map λ s => ⟨s.ss, s.si, s.sr⟩
 else if n.kind = 3 then (setsOf c sub ⟨k.os, k.oi, n.rel⟩).map λ s => ⟨s.ss, s.si, n.thn⟩
 else if n.kind = 2 then [⟨k.os, k.oi, n.rel⟩]
 else []
def pfind (ps : List Plc) (k : Obr) : Option Nat := ps.findIdx? λ p => decide (p.k = k)
def addK (ps : List Plc) (k : Obr) : List Plc × Nat :=
 match pfind ps k with
 | some i => (ps, i)
 | none => (ps ++ [one c num k], ps.length)
def addKs : List Plc -> List Obr -> List Plc × List Nat
 | ps, [] => (ps, [])
 | ps, k :: ks => ((addKs (addK c num ps k).1 ks).1, (addK c num ps k).2 :: (addKs (addK c num ps k).1 ks).2)
def addNs (k : Obr) : List Plc -> List Nd -> List Plc × List (List Nat)
 | ps, [] => (ps, [])
 | ps, n :: ns => ((addNs k (addKs c num ps (aheadK c sub k n)).1 ns).1, (addKs c num ps (aheadK c sub k n)).2 :: (addNs k (addKs c num ps (aheadK c sub k n)).1 ns).2)
def ndiff (l : List Nat) : Nat := (l.foldl (λ a x => if x ∈ a then a else a ++ [x]) []).length
def openP (ps : List Plc) (i : Nat) : List Plc × Nat :=
 match ps[i]? with
 | none => (ps, 0)
 | some p =>
  ((addNs c num sub p.k ps p.nodes).1.set i { p with users := if p.found then usersOf c sub p.k else [], leads := (addNs c num sub p.k ps p.nodes).2 }, ndiff (addNs c num sub p.k ps p.nodes).2.flatten)
end
section
variable {c : Cf} {num : List Nat} {sub : Obr -> List Sub}
theorem addK_le (ps : List Plc) (k : Obr) : ∃ l, (addK c num ps k).1 = ps ++ l /\ (∀ p ∈ l, p.k = k /\ p = one c num k) /\ (l ≠ [] -> k ∉ ps.map (·.k)) /\ l.length <= 1 := by
 unfold addK
 split
 ·exact ⟨[], by simp, by simp, by simp, by simp⟩
 ·rename_i h
  refine ⟨[one c num k], rfl, λ p hp => ?_, λ _ hm => ?_, by simp⟩
  ·rw [List.mem_singleton] at hp
   subst hp
   exact ⟨one_k _ _ _, rfl⟩
  ·obtain ⟨p, hp, e⟩ := List.mem_map.1 hm
   unfold pfind at h
   rw [List.findIdx?_eq_none_iff] at h
   have := h p hp
   simp [e] at this
structure Grown (c : Cf) (num : List Nat) (P : Obr -> Prop) (ps ps' : List Plc) : Prop where
 ex : ∃ l, ps' = ps ++ l /\ ∀ p ∈ l, P p.k /\ p = one c num p.k
 nd : (ps.map (·.k)).Nodup -> (ps'.map (·.k)).Nodup
theorem Grown.refl (P : Obr -> Prop) (ps : List Plc) : Grown c num P ps ps := ⟨⟨[], by simp, by simp⟩, λ h => h⟩
theorem Grown.trans {P : Obr -> Prop} {a b d : List Plc} (h1 : Grown c num P a b) (h2 : Grown c num P b d) : Grown c num P a d := by
 obtain ⟨⟨l, rfl, hl⟩, n1⟩ := h1
 obtain ⟨⟨m, rfl, hm⟩, n2⟩ := h2
 refine ⟨⟨l ++ m, by rw [List.append_assoc], λ p hp => ?_⟩, λ h => n2 (n1 h)⟩
 rcases List.mem_append.1 hp with h | h
 ·exact hl p h
 ·exact hm p h
theorem Grown.mono {P P' : Obr -> Prop} {a b : List Plc} (h : Grown c num P a b) (hP : ∀ k, P k -> P' k) : Grown c num P' a b := by
 obtain ⟨⟨l, e, hl⟩, n⟩ := h
 exact ⟨⟨l, e, λ p hp => ⟨hP _ (hl p hp).1, (hl p hp).2⟩⟩, n⟩
theorem Grown.len {P : Obr -> Prop} {a b : List Plc} (h : Grown c num P a b) : a.length <= b.length := by
 obtain ⟨⟨l, rfl, _⟩, _⟩ := h; simp
theorem addK_grown (ps : List Plc) (k : Obr) : Grown c num (· = k) ps (addK c num ps k).1 := by
 obtain ⟨l, e, h1, h2, h3⟩ := addK_le (c := c) (num := num) ps k
 refine ⟨⟨l, e, λ p hp => ⟨(h1 p hp).1, by rw [(h1 p hp).1]; exact (h1 p hp).2⟩⟩, λ hn => ?_⟩
 rw [e, List.map_append]
 cases l with
 | nil => simpa using hn
 | cons p m =>
  have : m = [] := List.length_eq_zero_iff.1 (by simp only [List.length_cons] at h3; omega)
  subst this
  refine List.nodup_append.2 ⟨hn, by simp, λ a ha b hb => ?_⟩
  simp only [List.map_cons, List.map_nil, List.mem_singleton] at hb
  rw [hb, (h1 p List.mem_cons_self).1]
  intro e2
  exact h2 (by simp) (e2 ▸ ha)
theorem addK_ix (ps : List Plc) (k : Obr) : (addK c num ps k).2 < (addK c num ps k).1.length /\ ((addK c num ps k).1.map (·.k))[(addK c num ps k).2]? = some k := by
 unfold addK
 split
 ·rename_i i h
  unfold pfind at h
  obtain ⟨h1, h2, _⟩ := List.findIdx?_eq_some_iff_getElem.1 h
  exact ⟨h1, by rw [List.getElem?_map, gge h1]; simpa using h2⟩
 ·exact ⟨by simp, by simp [one_k]⟩
theorem addKs_grown : ∀ (ks : List Obr) (ps : List Plc), Grown c num (· ∈ ks) ps (addKs c num ps ks).1
 | [], ps => .refl _ ps
 | k :: ks, ps => ((addK_grown ps k).mono λ x h => by rw [h]; exact List.mem_cons_self).trans ((addKs_grown ks _).mono λ x h => List.mem_cons_of_mem _ h)
theorem addKs_len : ∀ (ks : List Obr) (ps : List Plc), (addKs c num ps ks).2.length = ks.length
 | [], _ => rfl
 | k :: ks, ps => by rw [addKs]; simp only [List.length_cons]; rw [addKs_len ks]
theorem addNs_grown (k : Obr) : ∀ (ns : List Nd) (ps : List Plc), Grown c num (λ x => ∃ n ∈ ns, x ∈ aheadK c sub k n) ps (addNs c num sub k ps ns).1
 | [], ps => .refl _ ps
 | n :: ns, ps => ((addKs_grown _ ps).mono λ x h => ⟨n, List.mem_cons_self, h⟩).trans ((addNs_grown k ns _).mono λ x ⟨m, hm, h⟩ => ⟨m, List.mem_cons_of_mem _ hm, h⟩)
theorem openP_len (ps : List Plc) (i : Nat) : ps.length <= (openP c num sub ps i).1.length := by
 unfold openP
 split
 ·exact Nat.le_refl _
 ·rw [List.length_set]; exact (addNs_grown _ _ _).len
structure PI (c : Cf) (num : List Nat) (U : Obr -> Prop) (ps : List Plc) : Prop where
 nd : (ps.map (·.k)).Nodup
 u : ∀ p ∈ ps, U p.k /\ p.found = (one c num p.k).found /\ p.nodes = (one c num p.k).nodes /\ p.number = (one c num p.k).number
theorem PI.grown {U P : Obr -> Prop} {a b : List Plc} (h : PI c num U a) (hg : Grown c num P a b) (hP : ∀ k, P k -> U k) : PI c num U b := by
 obtain ⟨⟨l, rfl, hl⟩, n⟩ := hg
 refine ⟨n h.nd, λ p hp => ?_⟩
 rcases List.mem_append.1 hp with hp | hp
 ·exact h.u p hp
 ·obtain ⟨h1, h2⟩ := hl p hp
  rw [<- h2]
  exact ⟨hP _ h1, rfl, rfl, rfl⟩
def Closed (c : Cf) (num : List Nat) (sub : Obr -> List Sub) (U : Obr -> Prop) : Prop := ∀ k, U k -> ∀ n ∈ (one c num k).nodes, ∀ x ∈ aheadK c sub k n, U x
theorem PI.opened {U : Obr -> Prop} {ps : List Plc} (h : PI c num U ps) (hc : Closed c num sub U) (i : Nat) : PI c num U (openP c num sub ps i).1 := by
 unfold openP
 split
 ·exact h
 ·rename_i p hp
  have hpm := mog hp
  obtain ⟨u1, u2, u3, u4⟩ := h.u p hpm
  have hg := addNs_grown (c := c) (num := num) (sub := sub) p.k p.nodes ps
  have h2 := h.grown hg λ k hk => by
   obtain ⟨n, hn, hx⟩ := hk
   exact hc p.k u1 n (u3 ▸ hn) k hx
  obtain ⟨l, hl, _⟩ := hg.ex
  refine ⟨?_, λ q hq => ?_⟩
  ·rw [List.map_set]
   have : ((addNs c num sub p.k ps p.nodes).1.map (·.k)).set i p.k = (addNs c num sub p.k ps p.nodes).1.map (·.k) := by
    refine List.ext_getElem? λ j => ?_
    rw [List.getElem?_set]
    split
    ·rename_i e
     subst e
     have hi := (List.getElem?_eq_some_iff.1 hp).1
     rw [if_pos (by rw [hl]; simp; omega), hl, List.getElem?_map, List.getElem?_append_left hi, hp]
     rfl
    ·rfl
   rw [this]
   exact h2.nd
  ·rcases List.mem_or_eq_of_mem_set hq with hq | rfl
   ·exact h2.u q hq
   ·exact ⟨u1, u2, u3, u4⟩
end
theorem nodup_le {α : Type} [DecidableEq α] : ∀ {l m : List α}, l.Nodup -> (∀ x ∈ l, x ∈ m) -> l.length <= m.length
 | [], _, _, _ => Nat.zero_le _
 | x :: l, m, h, hm => by
  obtain ⟨h1, h2⟩ := List.nodup_cons.1 h
  have hx := hm x List.mem_cons_self
  have ih := nodup_le (m := m.erase x) h2 λ y hy => (List.mem_erase_of_ne (a := y) (b := x) (λ e => h1 (by rw [<- e]; exact hy))).2 (hm y (List.mem_cons_of_mem _ hy))
  rw [List.length_erase_of_mem hx] at ih
  have := List.length_pos_of_mem hx
  simp only [List.length_cons]
  omega
theorem ndiff_inv : ∀ (l a : List Nat), a.Nodup -> (l.foldl (λ a x => if x ∈ a then a else a ++ [x]) a).Nodup /\ ∀ x, x ∈ l.foldl (λ a x => if x ∈ a then a else a ++ [x]) a ↔ x ∈ a \/ x ∈ l
 | [], a, h => ⟨h, λ x => by simp⟩
 | y :: l, a, h => by
  rw [List.foldl_cons]
  by_cases hy : y ∈ a
  ·rw [if_pos hy]
   obtain ⟨h1, h2⟩ := ndiff_inv l a h
   refine ⟨h1, λ x => ?_⟩
   rw [h2, List.mem_cons]
   constructor
   ·rintro (h | h) <;> simp [h]
   ·rintro (h | rfl | h) <;> simp [*]
  ·rw [if_neg hy]
   obtain ⟨h1, h2⟩ := ndiff_inv l (a ++ [y]) (List.nodup_append.2 ⟨h, by simp, λ u hu v hv => by simp only [List.mem_singleton] at hv; subst hv; exact λ e => hy (e ▸ hu)⟩)
   refine ⟨h1, λ x => ?_⟩
   rw [h2, List.mem_append, List.mem_singleton, List.mem_cons, or_assoc]
theorem ndiff_le {l : List Nat} {n : Nat} (h : ∀ x ∈ l, x < n) : ndiff l <= n := by
 obtain ⟨h1, h2⟩ := ndiff_inv l [] List.nodup_nil
 have := nodup_le (m := List.range n) h1 λ x hx => by
  rcases (h2 x).1 hx with h3 | h3
  ·cases h3
  ·exact List.mem_range.2 (h x h3)
 simpa [ndiff] using this
section
variable {c : Cf} {num : List Nat} {sub : Obr -> List Sub}
theorem addKs_lt : ∀ (ks : List Obr) (ps : List Plc), ∀ x ∈ (addKs c num ps ks).2, x < (addKs c num ps ks).1.length
 | [], ps, x, hx => by cases hx
 | k :: ks, ps, x, hx => by
  rw [addKs] at hx ⊢
  rcases List.mem_cons.1 hx with rfl | hx
  ·exact Nat.lt_of_lt_of_le (addK_ix ps k).1 (addKs_grown ks _).len
  ·exact addKs_lt ks _ x hx
theorem addNs_lt (k : Obr) : ∀ (ns : List Nd) (ps : List Plc), ∀ l ∈ (addNs c num sub k ps ns).2, ∀ x ∈ l, x < (addNs c num sub k ps ns).1.length
 | [], ps, l, hl, x, hx => by cases hl
 | n :: ns, ps, l, hl, x, hx => by
  rw [addNs] at hl ⊢
  rcases List.mem_cons.1 hl with rfl | hl
  ·exact Nat.lt_of_lt_of_le (addKs_lt _ ps x hx) (addNs_grown k ns _).len
  ·exact addNs_lt k ns _ l hl x hx
def opened (c : Cf) (num : List Nat) (sub : Obr -> List Sub) (k : Obr) : Nat -> List Plc × Nat
 | 0 => ([one c num k], 0)
 | i + 1 => ((openP c num sub (opened c num sub k i).1 i).1, (opened c num sub k i).2 + (openP c num sub (opened c num sub k i).1 i).2)
variable {k : Obr}
theorem opened_mono {i j : Nat} (h : i <= j) : (opened c num sub k i).1.length <= (opened c num sub k j).1.length /\ (opened c num sub k i).2 <= (opened c num sub k j).2 := by
 induction j with
 | zero => rw [Nat.le_zero.1 h]; exact ⟨Nat.le_refl _, Nat.le_refl _⟩
 | succ j ih =>
  rcases Nat.lt_or_ge j i with h1 | h1
  ·rw [show i = j + 1 from by omega]; exact ⟨Nat.le_refl _, Nat.le_refl _⟩
  ·obtain ⟨h2, h3⟩ := ih h1
   exact ⟨Nat.le_trans h2 (openP_len _ _), Nat.le_trans h3 (Nat.le_add_right _ _)⟩
theorem opened_PI {U : Obr -> Prop} (hc : Closed c num sub U) (hk : U k) : ∀ i, PI c num U (opened c num sub k i).1
 | 0 => ⟨by simp [opened], λ p hp => by
  simp only [opened, List.mem_singleton] at hp
  subst hp
  rw [one_k]
  exact ⟨hk, rfl, rfl, rfl⟩⟩
 | i + 1 => (opened_PI hc hk i).opened hc i
theorem opened_len {U : List Obr} (hc : Closed c num sub (· ∈ U)) (hk : k ∈ U) (i : Nat) : (opened c num sub k i).1.length <= U.length := by
 have h := opened_PI hc hk i
 have := nodup_le (m := U) h.nd λ x hx => by
  obtain ⟨p, hp, rfl⟩ := List.mem_map.1 hx
  exact (h.u p hp).1
 simpa using this
def reachU (c : Cf) (L : List Sub) (k : Obr) : List Obr :=
 ((k.os, k.oi) :: L.map λ s => (s.ss, s.si)).flatMap λ o => (k.rel :: (L.map (·.sr) ++ c.all.flatMap λ x => x.2.nodes.flatMap λ n => [n.rel, n.thn])).map λ r => (⟨o.1, o.2, r⟩ : Obr)
theorem mem_reachU {L : List Sub} {x : Obr} : x ∈ reachU c L k ↔ ((x.os, x.oi) = (k.os, k.oi) \/ ∃ s ∈ L, (x.os, x.oi) = (s.ss, s.si)) /\ (x.rel = k.rel \/ (∃ s ∈ L, x.rel = s.sr) \/ ∃ y ∈ c.all, ∃ n ∈ y.2.nodes, x.rel = n.rel \/ x.rel = n.thn) := by
 unfold reachU
 rw [List.mem_flatMap]
 constructor
 ·rintro ⟨o, ho, hx⟩
  obtain ⟨r, hr, rfl⟩ := List.mem_map.1 hx
  refine ⟨?_, ?_⟩
  ·rcases List.mem_cons.1 ho with rfl | ho
   ·exact .inl rfl
   ·obtain ⟨s, hs, rfl⟩ := List.mem_map.1 ho
    exact .inr ⟨s, hs, rfl⟩
  ·rcases List.mem_cons.1 hr with rfl | hr
   ·exact .inl rfl
   ·rcases List.mem_append.1 hr with hr | hr
    ·obtain ⟨s, hs, rfl⟩ := List.mem_map.1 hr
     exact .inr (.inl ⟨s, hs, rfl⟩)
    ·obtain ⟨y, hy, hr⟩ := List.mem_flatMap.1 hr
     obtain ⟨n, hn, hr⟩ := List.mem_flatMap.1 hr
     exact .inr (.inr ⟨y, hy, n, hn, by simpa using hr⟩)
 ·rintro ⟨h1, h2⟩
  refine ⟨(x.os, x.oi), ?_, List.mem_map.2 ⟨x.rel, ?_, rfl⟩⟩
  ·rcases h1 with h | ⟨s, hs, h⟩
   ·rw [h]; exact List.mem_cons_self
   ·rw [h]; exact List.mem_cons_of_mem _ (List.mem_map.2 ⟨s, hs, rfl⟩)
  ·rcases h2 with h | ⟨s, hs, h⟩ | ⟨y, hy, n, hn, h⟩
   ·rw [h]; exact List.mem_cons_self
   ·rw [h]; exact List.mem_cons_of_mem _ (List.mem_append_left _ (List.mem_map.2 ⟨s, hs, rfl⟩))
   ·refine List.mem_cons_of_mem _ (List.mem_append_right _ (List.mem_flatMap.2 ⟨y, hy, List.mem_flatMap.2 ⟨n, hn, ?_⟩⟩))
    rcases h with h | h <;> simp [h]
theorem one_nodes {n : Nd} (h : n ∈ (one c num k).nodes) : ∃ y ∈ c.all, n ∈ y.2.nodes := by
 unfold one at h
 split at h
 ·cases h
 ·rename_i i hi
  simp only [List.getD_eq_getElem?_getD, List.getElem?_map] at h
  cases hy : c.all[i]? with
  | none => rw [hy] at h; cases h
  | some y =>
   rw [hy] at h
   exact ⟨y, mog hy, h⟩
theorem mem_sets {L : List Sub} (hsub : ∀ k, ∀ s ∈ sub k, s ∈ L) {x : Obr} {s : Sub} (h : s ∈ setsOf c sub x) : s ∈ L := by
 unfold setsOf fitting at h
 exact hsub x s (List.mem_filter.1 (List.mem_filter.1 h).1).1
theorem reachU_closed {L : List Sub} (hsub : ∀ k, ∀ s ∈ sub k, s ∈ L) : Closed c num sub (· ∈ reachU c L k) := λ x hx n hn y hy => by
 obtain ⟨z, hz, hnz⟩ := one_nodes hn
 have hx1 := (mem_reachU.1 hx).1
 refine mem_reachU.2 ?_
 unfold aheadK at hy
 split at hy
 ·obtain ⟨s, hs, rfl⟩ := List.mem_map.1 hy
  exact ⟨.inr ⟨s, mem_sets hsub hs, rfl⟩, .inr (.inl ⟨s, mem_sets hsub hs, rfl⟩)⟩
 ·split at hy
  ·obtain ⟨s, hs, rfl⟩ := List.mem_map.1 hy
   exact ⟨.inr ⟨s, mem_sets hsub hs, rfl⟩, .inr (.inr ⟨z, hz, n, hnz, .inr rfl⟩)⟩
  ·split at hy
   ·rw [List.mem_singleton] at hy
    subst hy
    exact ⟨hx1, .inr (.inr ⟨z, hz, n, hnz, .inl rfl⟩)⟩
   ·cases hy
theorem self_reachU {L : List Sub} : k ∈ reachU c L k := mem_reachU.2 ⟨.inl rfl, .inl rfl⟩
def AtEnd (c : Cf) (num : List Nat) (sub : Obr -> List Sub) (k : Obr) (N : Nat) : Prop := (opened c num sub k N).1.length <= N /\ ∀ j, j < N -> j < (opened c num sub k j).1.length
theorem AtEnd.uniq {N M : Nat} (h : AtEnd c num sub k N) (h2 : AtEnd c num sub k M) : N = M := by
 rcases Nat.lt_trichotomy N M with h3 | h3 | h3
 ·have := h2.2 N h3; have := h.1; omega
 ·exact h3
 ·have := h.2 M h3; have := h2.1; omega
end
structure Net where
 n : Nat
 f : Nat -> Bool
 num : Nat -> Nat
 ex : Nat -> (Nat -> Bool) -> Bool
 to : Nat -> Nat -> Prop
structure Net.OK (G : Net) : Prop where
 up : ∀ i, i < G.n -> G.f i = true -> ∀ v w : Nat -> Bool, (∀ j, G.to i j -> v j = true -> w j = true) -> (∀ j, G.to i j -> G.num j < G.num i -> v j = w j) -> G.ex i v = true -> G.ex i w = true
 dn : ∀ i, i < G.n -> G.f i = true -> ∀ j, G.to i j -> G.num j <= G.num i
def Net.PG (G : Net) (d : Nat -> Bool) (ρ : Nat -> Nat) : Prop := ∀ i, d i = true -> i < G.n /\ G.f i = true /\ G.ex i (λ j => d j && (decide (G.num j < G.num i) || (decide (G.num j = G.num i) && decide (ρ j < ρ i)))) = true
def Net.Full (G : Net) (k : Nat) (d : Nat -> Bool) : Prop := ∀ i, i < G.n -> G.f i = true -> G.num i <= k -> G.ex i d = true -> d i = true
section
variable {G : Net} (ok : G.OK)
include ok
theorem PG_add {d : Nat -> Bool} {ρ : Nat -> Nat} {T i : Nat} (h : G.PG d ρ) (hT : ∀ j, d j = true -> ρ j < T) (hi : i < G.n) (hf : G.f i = true) (hd : d i = false) (hn : ∀ j, d j = true -> G.num j <= G.num i) (he : G.ex i d = true) :
  G.PG (λ j => d j || decide (j = i)) (λ j => if j = i then T else ρ j) := λ j hj => by
 simp only [Bool.or_eq_true, decide_eq_true_eq] at hj
 by_cases hji : j = i
 ·subst hji
  refine ⟨hi, hf, ok.up j hi hf _ _ (λ u _ hu => ?_) (λ u _ hlt => ?_) he⟩
  ·have hne : u ≠ j := λ e => by rw [e, hd] at hu; cases hu
   have h1 := hn u hu
   have h2 := hT u hu
   simp only [hu, Bool.true_or, Bool.true_and, if_true, if_neg hne, Bool.or_eq_true, decide_eq_true_eq, Bool.and_eq_true]
   omega
  ·have hne : u ≠ j := λ e => by rw [e] at hlt; omega
   simp [hne, hlt]
 ·have hdj : d j = true := hj.resolve_right hji
  obtain ⟨h1, h2, h3⟩ := h j hdj
  refine ⟨h1, h2, ok.up j h1 h2 _ _ (λ u _ hu => ?_) (λ u _ hlt => ?_) h3⟩
  ·simp only [Bool.and_eq_true, Bool.or_eq_true, decide_eq_true_eq] at hu ⊢
   have hne : u ≠ i := λ e => by rw [e, hd] at hu; cases hu.1
   simp only [if_neg hji, if_neg hne]
   exact ⟨.inl hu.1, hu.2⟩
  ·have hne : u ≠ i := λ e => by have := hn j hdj; rw [e] at hlt; omega
   simp [hne, hlt]
theorem Full_add {d : Nat -> Bool} {k i : Nat} (h : G.Full k d) (hk : k < G.num i) : G.Full k (λ j => d j || decide (j = i)) := λ j hj hf hn he => by
 have hs : ∀ u, G.to j u -> (d u || decide (u = i)) = d u := λ u hu => by
  have := ok.dn j hj hf u hu
  have hne : u ≠ i := λ e => by rw [e] at this; omega
  simp [hne]
 have h1 := ok.up j hj hf (λ u => d u || decide (u = i)) d (λ u hu h => by rw [<- hs u hu]; exact h) (λ u hu _ => hs u hu) he
 simp [h j hj hf hn h1]
end
section
variable (G : Net)
def dput (k : Nat) (v : List Bool) (i : Nat) : List Bool := if G.f i && decide (G.num i = k) && !v.getD i false && G.ex i (λ j => v.getD j false) then v.set i true else v
def dround (k : Nat) (v : List Bool) : List Bool := (List.range' 0 G.n).foldl (dput G k) v
def drounds (k : Nat) : Nat -> List Bool -> List Bool
 | 0, v => v
 | r + 1, v => drounds k r (dround G k v)
end
section
variable {G : Net} (ok : G.OK)
structure DS (G : Net) (k : Nat) (v : List Bool) : Prop where
 len : v.length = G.n
 pg : ∃ ρ T, G.PG (λ j => v.getD j false) ρ /\ ∀ j, v.getD j false = true -> ρ j < T
 le : ∀ j, v.getD j false = true -> G.num j <= k
 low : ∀ k', k' < k -> G.Full k' λ j => v.getD j false
theorem set_fun (v : List Bool) (i : Nat) (h : i < v.length) : (λ j => (v.set i true).getD j false) = λ j => v.getD j false || decide (j = i) := by
 funext j
 rw [bset]
 by_cases e : i = j
 ·subst e; simp [h]
 ·rw [if_neg λ h => e h.1]
  simp [Ne.symm e]
include ok
theorem DS.put {k : Nat} {v : List Bool} (h : DS G k v) {i : Nat} (hi : i < G.n) : DS G k (dput G k v i) := by
 unfold dput
 split
 ·rename_i hc
  simp only [Bool.and_eq_true, decide_eq_true_eq, Bool.not_eq_true'] at hc
  obtain ⟨⟨⟨h1, h2⟩, h3⟩, h4⟩ := hc
  obtain ⟨ρ, T, hp, hT⟩ := h.pg
  have hs := set_fun v i (by rw [h.len]; exact hi)
  have hs' : ∀ j, (v.set i true).getD j false = (v.getD j false || decide (j = i)) := λ j => congrFun hs j
  refine ⟨by rw [List.length_set]; exact h.len, ⟨λ j => if j = i then T else ρ j, T + 1, ?_, λ j hj => ?_⟩, λ j hj => ?_, λ k' hk => ?_⟩
  ·rw [hs]; exact PG_add ok hp hT hi h1 h3 (λ j hj => by rw [h2]; exact h.le j hj) h4
  ·rw [hs'] at hj
   simp only [Bool.or_eq_true, decide_eq_true_eq] at hj
   simp only
   split
   ·omega
   ·have := hT j (hj.resolve_right (by assumption)); omega
  ·rw [hs'] at hj
   simp only [Bool.or_eq_true, decide_eq_true_eq] at hj
   rcases hj with hj | rfl
   ·exact h.le j hj
   ·omega
  ·rw [hs]; exact Full_add ok (h.low k' hk) (by omega)
 ·exact h
omit ok in
theorem dput_same {k : Nat} {v : List Bool} {i : Nat} (h : dput G k v i = v) (hi : i < v.length) : G.f i = true -> G.num i = k -> G.ex i (λ j => v.getD j false) = true -> v.getD i false = true := λ h1 h2 h3 => by
 unfold dput at h
 cases hv : v.getD i false with
 | true => rfl
 | false =>
  rw [if_pos (by rw [h1, hv, h3]; simp [h2])] at h
  have h5 : (v.set i true).getD i false = v.getD i false := by rw [h]
  rw [bset, if_pos ⟨rfl, hi⟩, hv] at h5
  cases h5
omit ok in
def ntrue (v : List Bool) : Nat := v.countP id
omit ok in
theorem ntrue_set : ∀ (v : List Bool) (i : Nat), i < v.length -> v.getD i false = false -> ntrue (v.set i true) = ntrue v + 1
 | [], i, h, _ => absurd h (by simp)
 | b :: v, 0, h, hv => by
  have : b = false := by simpa using hv
  subst this
  simp [ntrue]
 | b :: v, i + 1, h, hv => by
  have := ntrue_set v i (by simpa using h) (by simpa using hv)
  unfold ntrue at this ⊢
  rw [List.set_cons_succ, List.countP_cons, List.countP_cons, this]
  omega
omit ok in
theorem dput_n {k : Nat} {v : List Bool} {i : Nat} (hl : v.length = G.n) (hi : i < G.n) : (dput G k v i).length = G.n /\ ntrue v <= ntrue (dput G k v i) /\ (ntrue (dput G k v i) = ntrue v -> dput G k v i = v) := by
 unfold dput
 split
 ·rename_i hc
  simp only [Bool.and_eq_true, decide_eq_true_eq, Bool.not_eq_true'] at hc
  have := ntrue_set v i (by omega) hc.1.2
  exact ⟨by rw [List.length_set]; exact hl, by omega, λ h => by omega⟩
 ·exact ⟨hl, Nat.le_refl _, λ _ => rfl⟩
omit ok in
theorem dfold_n {k : Nat} : ∀ (l : List Nat) (v : List Bool), (∀ i ∈ l, i < G.n) -> v.length = G.n -> (l.foldl (dput G k) v).length = G.n /\ ntrue v <= ntrue (l.foldl (dput G k) v) /\ (ntrue (l.foldl (dput G k) v) = ntrue v -> l.foldl (dput G k) v = v /\ ∀ i ∈ l, dput G k v i = v)
 | [], v, _, hl => ⟨hl, Nat.le_refl _, λ _ => ⟨rfl, λ i hi => by cases hi⟩⟩
 | x :: l, v, h, hl => by
  rw [List.foldl_cons]
  obtain ⟨a1, a2, a3⟩ := dput_n (k := k) hl (h x List.mem_cons_self)
  obtain ⟨b1, b2, b3⟩ := dfold_n l (dput G k v x) (λ i hi => h i (List.mem_cons_of_mem _ hi)) a1
  refine ⟨b1, by omega, λ e => ?_⟩
  have e1 := a3 (by omega)
  rw [e1] at b3 b2 ⊢
  obtain ⟨c1, c2⟩ := b3 (by rw [e1] at e; exact e)
  refine ⟨c1, λ i hi => ?_⟩
  rcases List.mem_cons.1 hi with rfl | hi
  ·exact e1
  ·exact c2 i hi
theorem DS.fold {k : Nat} : ∀ (l : List Nat) (v : List Bool), (∀ i ∈ l, i < G.n) -> DS G k v -> DS G k (l.foldl (dput G k) v)
 | [], v, _, h => h
 | x :: l, v, hl, h => DS.fold l _ (λ i hi => hl i (List.mem_cons_of_mem _ hi)) (h.put ok (hl x List.mem_cons_self))
omit ok in
theorem rng {i : Nat} (h : i ∈ List.range' 0 G.n) : i < G.n := by
 have := List.mem_range'_1.1 h
 omega
theorem DS.round {k : Nat} {v : List Bool} (h : DS G k v) : DS G k (dround G k v) := DS.fold ok _ v (λ i hi => rng hi) h
theorem DS.rounds {k : Nat} : ∀ (r : Nat) {v : List Bool}, DS G k v -> DS G k (drounds G k r v)
 | 0, _, h => h
 | r + 1, _, h => DS.rounds r (h.round ok)
omit ok in
theorem drounds_last {k : Nat} : ∀ (r : Nat) (v : List Bool), drounds G k (r + 1) v = dround G k (drounds G k r v)
 | 0, _ => rfl
 | r + 1, v => by
  rw [drounds, drounds_last r, drounds]
omit ok in
theorem drounds_fix {k : Nat} {v : List Bool} (hl : v.length = G.n) : ∀ r, (drounds G k r v).length = G.n /\ (dround G k (drounds G k r v) = drounds G k r v \/ r <= ntrue (drounds G k r v))
 | 0 => ⟨hl, .inr (Nat.zero_le _)⟩
 | r + 1 => by
  obtain ⟨h1, h2⟩ := drounds_fix hl r
  rw [drounds_last]
  obtain ⟨a1, a2, a3⟩ := dfold_n (k := k) (List.range' 0 G.n) (drounds G k r v) (λ i hi => rng hi) h1
  refine ⟨a1, ?_⟩
  rcases h2 with h2 | h2
  ·rw [h2]; exact .inl h2
  ·by_cases e : ntrue (dround G k (drounds G k r v)) = ntrue (drounds G k r v)
   ·have := (a3 e).1
    have h3 : dround G k (drounds G k r v) = drounds G k r v := this
    rw [h3]; exact .inl h3
   ·have h4 : ntrue (drounds G k r v) <= ntrue (dround G k (drounds G k r v)) := a2
    exact .inr (by omega)
theorem DS.number {k : Nat} {v : List Bool} (h : DS G k v) : DS G k (drounds G k (G.n + 1) v) /\ G.Full k λ j => (drounds G k (G.n + 1) v).getD j false := by
 have hd := h.rounds ok (G.n + 1)
 refine ⟨hd, λ i hi hf hn he => ?_⟩
 rcases Nat.lt_or_ge (G.num i) k with h1 | h1
 ·exact hd.low _ h1 i hi hf (Nat.le_refl _) he
 ·obtain ⟨b1, b2⟩ := drounds_fix (G := G) (k := k) h.len (G.n + 1)
  have hle : ntrue (drounds G k (G.n + 1) v) <= G.n := by
   have : ntrue (drounds G k (G.n + 1) v) <= (drounds G k (G.n + 1) v).length := List.countP_le_length
   omega
  have hfix := b2.resolve_right (by omega)
  obtain ⟨_, _, a3⟩ := dfold_n (k := k) (List.range' 0 G.n) (drounds G k (G.n + 1) v) (λ i hi => rng hi) b1
  have := (a3 (congrArg ntrue hfix)).2 i (List.mem_range'_1.2 ⟨Nat.zero_le _, by omega⟩)
  exact dput_same this (by omega) hf (by omega) he
end
def nodeV (p : Plc) (user : ByteArray) (v : Nat -> Bool) (m : Nat) : Bool :=
 match m with
 | 0 => false
 | e + 1 => match p.nodes[e]? with
  | none => false
  | some n =>
   if n.op then
    if h : n.a.toNat + 1 <= e /\ n.b.toNat + 1 <= e then
     if n.kind = 4 then nodeV p user v (n.a.toNat + 1) || nodeV p user v (n.b.toNat + 1)
     else if n.kind = 5 then nodeV p user v (n.a.toNat + 1) && nodeV p user v (n.b.toNat + 1)
     else nodeV p user v (n.a.toNat + 1) && !nodeV p user v (n.b.toNat + 1)
    else false
   else (decide (n.kind = 1) && p.users.any λ s => decide (s = user)) || (p.leads.getD e []).any v
termination_by m
section
variable {c : Cf} {num : List Nat} {sub : Obr -> List Sub}
theorem addKs_keys : ∀ (ks : List Obr) (ps : List Plc), (addKs c num ps ks).2.map (λ j => ((addKs c num ps ks).1.map (·.k))[j]?) = ks.map some
 | [], _ => rfl
 | k :: ks, ps => by
  rw [addKs]
  simp only [List.map_cons]
  rw [addKs_keys ks]
  congr 1
  obtain ⟨h1, h2⟩ := addK_ix (c := c) (num := num) ps k
  obtain ⟨⟨l, hl, _⟩, _⟩ := addKs_grown (c := c) (num := num) ks (addK c num ps k).1
  rw [hl, List.map_append, List.getElem?_append_left (by simpa using h1)]
  exact h2
def LeadsOK (c : Cf) (sub : Obr -> List Sub) (ps : List Plc) (k : Obr) (nodes : List Nd) (leads : List (List Nat)) : Prop :=
 leads.length = nodes.length /\ ∀ e n, nodes[e]? = some n -> ((leads.getD e []).map λ j => (ps.map (·.k))[j]?) = (aheadK c sub k n).map some
theorem keys_grow {ps l : List Plc} {ls : List Nat} {ks : List Obr} (h : (ls.map λ j => (ps.map (·.k))[j]?) = ks.map some) : (ls.map λ j => ((ps ++ l).map (·.k))[j]?) = ks.map some := by
 rw [<- h]
 refine List.map_congr_left λ j hj => ?_
 have : (ps.map (·.k))[j]? ∈ ks.map some := by rw [<- h]; exact List.mem_map.2 ⟨j, hj, rfl⟩
 obtain ⟨k, _, hk⟩ := List.mem_map.1 this
 have hlt := (List.getElem?_eq_some_iff.1 hk.symm).1
 rw [List.map_append, List.getElem?_append_left hlt]
theorem LeadsOK.grow {ps l : List Plc} {k : Obr} {nodes : List Nd} {leads : List (List Nat)} (h : LeadsOK c sub ps k nodes leads) : LeadsOK c sub (ps ++ l) k nodes leads :=
 ⟨h.1, λ e n hn => keys_grow (h.2 e n hn)⟩
theorem addNs_leads (k : Obr) : ∀ (ns : List Nd) (ps : List Plc), LeadsOK c sub (addNs c num sub k ps ns).1 k ns (addNs c num sub k ps ns).2
 | [], ps => ⟨rfl, λ e n hn => by simp at hn⟩
 | n :: ns, ps => by
  obtain ⟨h1, h2⟩ := addNs_leads k ns (addKs c num ps (aheadK c sub k n)).1
  rw [addNs]
  refine ⟨by simp only [List.length_cons]; rw [h1], λ e m hm => ?_⟩
  cases e with
  | zero =>
   simp only [List.getElem?_cons_zero, Option.some.injEq] at hm
   subst hm
   simp only [List.getD_cons_zero]
   obtain ⟨⟨l, hl, _⟩, _⟩ := addNs_grown (c := c) (num := num) (sub := sub) k ns (addKs c num ps (aheadK c sub k n)).1
   rw [hl]
   exact keys_grow (addKs_keys _ _)
  | succ e =>
   simp only [List.getElem?_cons_succ] at hm
   simp only [List.getD_cons_succ]
   exact h2 e m hm
structure GrI (c : Cf) (num : List Nat) (sub : Obr -> List Sub) (ps : List Plc) (i : Nat) : Prop where
 one : ∀ p ∈ ps, p.found = (one c num p.k).found /\ p.nodes = (one c num p.k).nodes /\ p.number = (one c num p.k).number
 op : ∀ j p, j < i -> ps[j]? = some p -> LeadsOK c sub ps p.k p.nodes p.leads /\ p.users = if p.found then usersOf c sub p.k else []
theorem opened_GrI {k : Obr} : ∀ i, (∀ j, j < i -> j < (opened c num sub k j).1.length) -> GrI c num sub (opened c num sub k i).1 i
 | 0, _ => ⟨λ p hp => by
   simp only [opened, List.mem_singleton] at hp
   subst hp
   rw [one_k]
   exact ⟨rfl, rfl, rfl⟩, λ j p hj => absurd hj (by omega)⟩
 | i + 1, hlt => by
  have ih := opened_GrI i λ j hj => hlt j (by omega)
  have hil := hlt i (by omega)
  obtain ⟨ps, hps⟩ : ∃ ps, ps = (opened c num sub k i).1 := ⟨_, rfl⟩
  show GrI c num sub (openP c num sub (opened c num sub k i).1 i).1 (i + 1)
  rw [<- hps] at ih hil ⊢
  obtain ⟨p, hp⟩ := exg hil
  unfold openP
  simp only [hp]
  have hg := addNs_grown (c := c) (num := num) (sub := sub) p.k p.nodes ps
  obtain ⟨l, hl, hl2⟩ := hg.ex
  have hlead := addNs_leads (c := c) (num := num) (sub := sub) p.k p.nodes ps
  obtain ⟨q, hq⟩ : ∃ q, q = (addNs c num sub p.k ps p.nodes).2 := ⟨_, rfl⟩
  rw [<- hq, hl] at hlead
  rw [<- hq, hl]
  have hkeys : (((ps ++ l).set i { p with users := if p.found then usersOf c sub p.k else [], leads := q }).map (·.k)) = (ps ++ l).map (·.k) := by
   refine List.ext_getElem? λ j => ?_
   rw [List.getElem?_map, List.getElem?_map, List.getElem?_set]
   split
   ·rename_i e
    subst e
    rw [if_pos (by simp; omega), List.getElem?_append_left hil, hp]
    rfl
   ·rfl
  have hmem : ∀ x ∈ ps ++ l, x.found = (Go.Proofs.YtenilfmlfldogaaGreat.one c num x.k).found /\ x.nodes = (Go.Proofs.YtenilfmlfldogaaGreat.one c num x.k).nodes /\ x.number = (Go.Proofs.YtenilfmlfldogaaGreat.one c num x.k).number := λ x hx => by
   rcases List.mem_append.1 hx with hx | hx
   ·exact ih.one x hx
   ·have := (hl2 x hx).2
    rw [<- this]
    exact ⟨rfl, rfl, rfl⟩
  refine ⟨λ x hx => ?_, λ j x hj hx => ?_⟩
  ·rcases List.mem_or_eq_of_mem_set hx with hx | rfl
   ·exact hmem x hx
   ·exact ih.one p (mog hp)
  ·unfold LeadsOK
   rw [hkeys]
   rw [List.getElem?_set] at hx
   split at hx
   ·rename_i e
    subst e
    rw [if_pos (by simp; omega)] at hx
    cases hx
    exact ⟨hlead, rfl⟩
   ·rename_i e
    have hji : j < i := by omega
    rw [List.getElem?_append_left (by omega)] at hx
    obtain ⟨h1, h2⟩ := ih.op j x hji hx
    exact ⟨h1.grow, h2⟩
end
theorem enum_get {α : Type} {x : α} : ∀ {l : List α} {i k : Nat}, l[k]? = some x -> (i + k, x) ∈ enum i l
 | [], _, _, h => by simp at h
 | y :: l, i, 0, h => by
  simp only [List.getElem?_cons_zero, Option.some.injEq] at h
  subst h
  exact List.mem_cons_self
 | y :: l, i, k + 1, h => by
  rw [show i + (k + 1) = i + 1 + k from by omega]
  exact List.mem_cons_of_mem _ (enum_get (by simpa using h))
theorem findAll_get {l : List (ByteArray × Rl)} {t : Ty} : ∀ {ts : List Ty} {o : List Nat}, findAll l ts = some o -> t ∈ ts -> ∃ i, rfind l t = some i /\ i ∈ o
 | [], _, _, ht => by cases ht
 | u :: ts, o, h, ht => by
  rw [findAll] at h
  cases h1 : rfind l u with
  | none => rw [h1] at h; cases h
  | some j =>
   cases h2 : findAll l ts with
   | none => rw [h1, h2] at h; cases h
   | some v =>
    rw [h1, h2] at h
    simp only [Option.bind_some, Option.map_some, Option.some.injEq] at h
    subst h
    rcases List.mem_cons.1 ht with rfl | ht
    ·exact ⟨j, h1, List.mem_cons_self⟩
    ·obtain ⟨i, hi, hm⟩ := findAll_get h2 ht
     exact ⟨i, hi, List.mem_cons_of_mem _ hm⟩
def netOf (ps : List Plc) (user : ByteArray) : Net where
 n := ps.length
 f i := ((ps[i]?).map (·.found)).getD false
 num i := ((ps[i]?).map (·.number)).getD 0
 ex i v := match ps[i]? with
  | none => false
  | some p => nodeV p user v p.nodes.length
 to i j := ∃ p, ps[i]? = some p /\ ∃ e n, p.nodes[e]? = some n /\ j ∈ p.leads.getD e []
def lsum (l : List Nat) : Nat := l.foldr (· + ·) 0
def Ty.enc (t : Ty) : List Value := [.string t.space, .string t.rel]
def Nd.enc (n : Nd) : List Value := [.int .i64 n.kind, .string n.rel, .string n.thn, .int .i64 n.a, .int .i64 n.b]
def Sc.enc (s : Sc) : List Value := [.string s.name, .string s.ospace, .string s.oid, .string s.rel]
def Ty.fits (t : Ty) : Prop := t.space.size <= 9223372036854775807 /\ t.rel.size <= 9223372036854775807
def Nd.fits (n : Nd) : Prop := n.rel.size <= 9223372036854775807 /\ n.thn.size <= 9223372036854775807
def Sc.fits (s : Sc) : Prop := s.name.size <= 9223372036854775807 /\ s.ospace.size <= 9223372036854775807 /\ s.oid.size <= 9223372036854775807 /\ s.rel.size <= 9223372036854775807
structure RlM where
 vt : Value
 vn : Value
 r : Rl
def RlM.enc (p : RlM) : List Value := [.string p.r.name, p.vt, p.vn]
structure RlM.is (R : Rds) (p : RlM) : Prop where
 n : p.r.name.size <= 9223372036854775807
 t : RS R 2 Ty.enc p.vt p.r.types
 d : RS R 5 Nd.enc p.vn p.r.nodes
 ft : ∀ x ∈ p.r.types, x.fits
 fd : ∀ x ∈ p.r.nodes, x.fits
structure SpM where
 name : ByteArray
 v : Value
 rels : List RlM
def SpM.enc (s : SpM) : List Value := [.string s.name, s.v]
def SpM.plain (s : SpM) : Sp := ⟨s.name, s.rels.map (·.r)⟩
structure SpM.is (R : Rds) (s : SpM) : Prop where
 n : s.name.size <= 9223372036854775807
 rs : RS R 3 RlM.enc s.v s.rels
 all : ∀ r ∈ s.rels, r.is R
structure CfM where
 vs : Value
 vc : Value
 spaces : List SpM
 scopes : List Sc
def CfM.enc (c : CfM) : List Value := [c.vs, c.vc]
def CfM.plain (c : CfM) : Cf := ⟨c.spaces.map (·.plain), c.scopes⟩
structure CfM.is (R : Rds) (c : CfM) : Prop where
 ss : RS R 2 SpM.enc c.vs c.spaces
 sc : RS R 4 Sc.enc c.vc c.scopes
 all : ∀ s ∈ c.spaces, s.is R
 fc : ∀ s ∈ c.scopes, s.fits
section
variable {R R' : Rds}
theorem RlM.is.mono {p : RlM} (h : p.is R) (hR : ∀ b o, R b o -> R' b o) : p.is R' := ⟨h.n, h.t.mono hR, h.d.mono hR, h.ft, h.fd⟩
theorem SpM.is.mono {s : SpM} (h : s.is R) (hR : ∀ b o, R b o -> R' b o) : s.is R' := ⟨h.n, h.rs.mono hR, λ r hr => (h.all r hr).mono hR⟩
theorem CfM.is.mono {c : CfM} (h : c.is R) (hR : ∀ b o, R b o -> R' b o) : c.is R' := ⟨h.ss.mono hR, h.sc.mono hR, λ s hs => (h.all s hs).mono hR, h.fc⟩
instance Ty.one (t : Ty) : Ones t.enc := ⟨by simp [Ty.enc, oneCell]⟩
instance Nd.one (n : Nd) : Ones n.enc := ⟨by simp [Nd.enc, oneCell]⟩
instance Sc.one (s : Sc) : Ones s.enc := ⟨by simp [Sc.enc, oneCell]⟩
theorem RlM.is.ones {p : RlM} (h : p.is R) : ∀ u ∈ p.enc, oneCell u = true := by
 have h1 := h.t.oneCell
 have h2 := h.d.oneCell
 intro u hu
 simp only [RlM.enc, List.mem_cons, List.not_mem_nil, or_false] at hu
 rcases hu with rfl | rfl | rfl
 ·rfl
 ·exact h1.h
 ·exact h2.h
theorem SpM.is.ones {s : SpM} (h : s.is R) : ∀ u ∈ s.enc, oneCell u = true := by
 have h1 := h.rs.oneCell
 intro u hu
 simp only [SpM.enc, List.mem_cons, List.not_mem_nil, or_false] at hu
 rcases hu with rfl | rfl
 ·rfl
 ·exact h1.h
theorem CfM.is.ones {c : CfM} (h : c.is R) : ∀ u ∈ c.enc, oneCell u = true := by
 have h1 := h.ss.oneCell
 have h2 := h.sc.oneCell
 intro u hu
 simp only [CfM.enc, List.mem_cons, List.not_mem_nil, or_false] at hu
 rcases hu with rfl | rfl
 ·exact h1.h
 ·exact h2.h
end
set_option linter.unusedSimpArgs false
theorem tree_some_le {W : ByteArray -> Bool} {l : List Nd} {m b x : Nat} (h : tree W l m = some (b, x)) : b < m /\ m <= l.length := ⟨(tree_some m _ h).2.2.1, (tree_some m _ h).2.1⟩
theorem tree_depth {W : ByteArray -> Bool} {l : List Nd} : ∀ (m b x : Nat), tree W l m = some (b, x) -> x <= m := by
 intro m
 induction m using Nat.strongRecOn with
 | _ m ih =>
  intro b x h
  have hb := tree_some_le h
  obtain ⟨e, rfl⟩ : ∃ e, m = e + 1 := ⟨m - 1, by omega⟩
  obtain ⟨n, hn⟩ : ∃ n, l[e]? = some n := ⟨_, gge (by omega)⟩
  cases ho : n.op with
  | false =>
   rw [tree_leaf hn ho] at h
   split at h
   ·cases h; omega
   ·cases h
  | true =>
   obtain ⟨b', x', y, h1, h2, h3, _, _, _, _, h4⟩ := tree_op hn ho h
   have h5 := ih e (by omega) _ _ h1
   have h6 := ih b' (by omega) _ _ h3
   simp only at h4
   omega
structure SRow where
 t : Tpl
 fr : Int
 to : Int
def SRow.enc (x : SRow) : List Value := x.t.enc ++ [.int .u64 x.fr, .int .u64 x.to]
structure Chg where
 put : Bool
 t : Tpl
def encPt (b : Nat) : List Value := [pT b]
def SRow.there (x : SRow) (r : Int) : Bool := decide (x.fr <= r) && (x.to == 0 || decide (r < x.to))
def SRow.openOf (t : Tpl) (x : SRow) : Bool := decide (x.t = t) && x.to == 0
def sthere (L : List SRow) (t : Tpl) : Bool := L.any (SRow.openOf t)
def scheck (must no : List Tpl) (cs : List Chg) : Int :=
 if 32 < cs.length \/ cs.length = 0 \/ 32 < must.length \/ 32 < no.length then 25
 else if must.any (λ t => !isTpl t) || no.any (λ t => !isTpl t) || cs.any (λ c => !isTpl c.t) then 9
 else if ¬ (cs.map (·.t)).Nodup then 2 else 0
def sputs (cs : List Chg) : Nat := (cs.filter (·.put)).length
def sfits (L : List SRow) (head : Int) (must no : List Tpl) (cs : List Chg) : Int :=
 if must.any (λ t => !sthere L t) || no.any (λ t => sthere L t) then 13
 else if cs.any (λ c => c.put && sthere L c.t) then 10
 else if cs.any (λ c => !c.put && !sthere L c.t) then 11
 else if 4611686018427387903 <= head \/ 4096 < L.length + sputs cs /\ 0 < sputs cs then 8 else 0
def SRow.close (t : Tpl) (r : Int) (x : SRow) : SRow := if x.openOf t then ⟨x.t, x.fr, r⟩ else x
def sapply (r : Int) (L : List SRow) (c : Chg) : List SRow := if c.put then L ++ [⟨c.t, r, 0⟩] else L.map (SRow.close c.t r)
structure Sto where
 rows : List SRow
 head : Int
 hor : Int
def scode (S : Sto) (must no : List Tpl) (cs : List Chg) : Int := if scheck must no cs ≠ 0 then scheck must no cs else sfits S.rows S.head must no cs
def swrite (S : Sto) (must no : List Tpl) (cs : List Chg) : Sto := if scode S must no cs = 0 then ⟨cs.foldl (sapply (S.head + 1)) S.rows, S.head + 1, S.hor⟩ else S
def scan (S : Sto) (r : Int) : Bool := decide (S.hor <= r) && decide (r <= S.head)
structure SOK (S : Sto) : Prop where
 ok : ∀ x ∈ S.rows, isTpl x.t = true /\ 1 <= x.fr /\ x.fr <= S.head /\ (x.to = 0 \/ (x.fr < x.to /\ S.hor < x.to /\ x.to <= S.head))
 pw : S.rows.Pairwise λ x y => x.t = y.t -> x.to ≠ 0 /\ x.to <= y.fr
 len : S.rows.length <= 4096
 h0 : 0 <= S.hor
 h1 : S.hor <= S.head
 h2 : S.head <= 4611686018427387903
def srd (S : Sto) (f : Tpl) (r : Int) : List Tpl := (S.rows.filter λ x => x.there r && tmatch f x.t).map (·.t)
def closeAll (cs : List Chg) (r : Int) (x : SRow) : SRow := if x.to = 0 /\ cs.any (λ c => !c.put && decide (c.t = x.t)) = true then ⟨x.t, x.fr, r⟩ else x
def news (cs : List Chg) (r : Int) : List SRow := (cs.filter (·.put)).map λ c => ⟨c.t, r, 0⟩
theorem closeAll_t {cs : List Chg} {r : Int} {x : SRow} : (closeAll cs r x).t = x.t /\ (closeAll cs r x).fr = x.fr := by unfold closeAll; split <;> exact ⟨rfl, rfl⟩
theorem closeAll_shut {cs : List Chg} {r : Int} {x : SRow} (h : x.to ≠ 0) : closeAll cs r x = x := by unfold closeAll; rw [if_neg λ hh => h hh.1]
theorem closeAll_nil {r : Int} {x : SRow} : closeAll [] r x = x := by unfold closeAll; rw [if_neg (by simp)]
theorem sapply_all {r : Int} (hr : r ≠ 0) : ∀ (cs : List Chg) (L : List SRow), (cs.map (·.t)).Nodup -> cs.foldl (sapply r) L = L.map (closeAll cs r) ++ news cs r
 | [], L, _ => by
  have : L.map (closeAll [] r) = L := by
   conv => rhs; rw [<- List.map_id L]
   exact List.map_congr_left λ x _ => closeAll_nil
  simp [news, this]
 | c :: cs, L, hn => by
  rw [List.map_cons, List.nodup_cons] at hn
  rw [List.foldl_cons, sapply_all hr cs _ hn.2]
  have hfresh : ∀ x : SRow, x.t = c.t -> closeAll cs r x = x := λ x hx => by
   unfold closeAll
   rw [if_neg]
   rintro ⟨_, h⟩
   obtain ⟨d, hd, hd2⟩ := List.any_eq_true.1 h
   simp only [Bool.and_eq_true, decide_eq_true_eq] at hd2
   exact hn.1 (List.mem_map.2 ⟨d, hd, hd2.2.trans hx⟩)
  cases hp : c.put with
  | true =>
   have e1 : closeAll (c :: cs) r = closeAll cs r := by
    funext x
    unfold closeAll
    simp only [List.any_cons, hp, Bool.not_true, Bool.false_and, Bool.false_or]
   have e2 : news (c :: cs) r = ⟨c.t, r, 0⟩ :: news cs r := by unfold news; rw [List.filter_cons, if_pos hp]; rfl
   rw [e1, e2]
   unfold sapply
   rw [if_pos hp, List.map_append, List.append_assoc]
   congr 1
   rw [List.map_cons, List.map_nil, hfresh _ rfl]; rfl
  | false =>
   have e2 : news (c :: cs) r = news cs r := by unfold news; rw [List.filter_cons, if_neg (by simp [hp])]
   rw [e2]
   unfold sapply
   rw [if_neg (by simp [hp]), List.map_map]
   congr 1
   refine List.map_congr_left λ x hx => ?_
   simp only [Function.comp]
   by_cases h1 : x.openOf c.t = true
   ·have h2 : x.t = c.t /\ x.to = 0 := by unfold SRow.openOf at h1; simpa using h1
    have e3 : SRow.close c.t r x = ⟨x.t, x.fr, r⟩ := by unfold SRow.close; rw [if_pos h1]
    rw [e3, closeAll_shut hr]
    unfold closeAll
    rw [if_pos ⟨h2.2, by simp [hp, h2.1]⟩]
   ·have e3 : SRow.close c.t r x = x := by unfold SRow.close; rw [if_neg h1]
    rw [e3]
    unfold closeAll
    have h2 : x.to = 0 -> ¬ c.t = x.t := λ h3 h4 => h1 (by unfold SRow.openOf; simp [h3, h4])
    by_cases h3 : x.to = 0
    ·have h4 := h2 h3
     simp [h3, hp, h4]
    ·rw [if_neg λ hh => h3 hh.1, if_neg λ hh => h3 hh.1]
structure WOK (S : Sto) (cs : List Chg) : Prop where
 right : ∀ c ∈ cs, isTpl c.t = true
 nd : (cs.map (·.t)).Nodup
 away : ∀ c ∈ cs, c.put = true -> sthere S.rows c.t = false
 there : ∀ c ∈ cs, c.put = false -> sthere S.rows c.t = true
 head : S.head < 4611686018427387903
 len : S.rows.length + sputs cs <= 4096 \/ sputs cs = 0
theorem sthere_false {L : List SRow} {t : Tpl} : sthere L t = false ↔ ∀ x ∈ L, x.t = t -> x.to ≠ 0 := by
 unfold sthere
 rw [List.any_eq_false]
 refine forall_congr' λ x => forall_congr' λ hx => ?_
 unfold SRow.openOf
 simp
theorem news_mem {cs : List Chg} {r : Int} {x : SRow} : x ∈ news cs r ↔ ∃ c ∈ cs, c.put = true /\ x = ⟨c.t, r, 0⟩ := by
 unfold news
 rw [List.mem_map]
 constructor
 ·rintro ⟨c, hc, rfl⟩
  have := List.mem_filter.1 hc
  exact ⟨c, this.1, this.2, rfl⟩
 ·rintro ⟨c, hc, hp, rfl⟩
  exact ⟨c, List.mem_filter.2 ⟨hc, hp⟩, rfl⟩
theorem SOK.fold {S : Sto} (hS : SOK S) {cs : List Chg} (hw : WOK S cs) : SOK ⟨cs.foldl (sapply (S.head + 1)) S.rows, S.head + 1, S.hor⟩ := by
 have a0 := hS.h0; have a1 := hS.h1; have a2 := hS.h2; have a3 := hw.head
 rw [sapply_all (by omega) _ _ hw.nd]
 refine ⟨λ x hx => ?_, ?_, ?_, a0, by simp only; omega, by simp only; omega⟩
 ·simp only at hx ⊢
  rcases List.mem_append.1 hx with hx | hx
  ·obtain ⟨y, hy, rfl⟩ := List.mem_map.1 hx
   obtain ⟨b1, b2, b3, b4⟩ := hS.ok y hy
   obtain ⟨c1, c2⟩ := closeAll_t (cs := cs) (r := S.head + 1) (x := y)
   rw [c1, c2]
   refine ⟨b1, b2, by omega, ?_⟩
   unfold closeAll
   split
   ·right; simp only; omega
   ·rcases b4 with b4 | b4
    ·exact .inl b4
    ·right; omega
  ·obtain ⟨c, hc, hp, rfl⟩ := news_mem.1 hx
   exact ⟨hw.right c hc, by simp only; omega, by simp only; omega, .inl rfl⟩
 ·simp only
  rw [List.pairwise_append]
  refine ⟨?_, ?_, λ x hx y hy => ?_⟩
  ·rw [List.pairwise_map]
   refine hS.pw.imp λ {x y} hxy he => ?_
   obtain ⟨c1, c2⟩ := closeAll_t (cs := cs) (r := S.head + 1) (x := x)
   obtain ⟨c3, c4⟩ := closeAll_t (cs := cs) (r := S.head + 1) (x := y)
   rw [c1, c3] at he
   obtain ⟨d1, d2⟩ := hxy he
   rw [closeAll_shut d1, c4]
   exact ⟨d1, d2⟩
  ·unfold news
   rw [List.pairwise_map]
   have := hw.nd
   rw [List.Nodup, List.pairwise_map] at this
   exact (this.sublist List.filter_sublist).imp λ {x y} hxy he => absurd he hxy
  ·intro he
   obtain ⟨z, hz, rfl⟩ := List.mem_map.1 hx
   obtain ⟨c, hc, hp, rfl⟩ := news_mem.1 hy
   obtain ⟨c1, c2⟩ := closeAll_t (cs := cs) (r := S.head + 1) (x := z)
   rw [c1] at he
   have h5 := sthere_false.1 (hw.away c hc hp) z hz he
   rw [closeAll_shut h5]
   refine ⟨h5, ?_⟩
   obtain ⟨_, _, _, h6⟩ := hS.ok z hz
   simp only
   omega
 ·simp only [List.length_append, List.length_map, news]
  have hl := hS.len
  have := hw.len
  unfold sputs at this
  omega
section
variable {κ β : Type} [DecidableEq κ]
def kdel (k : κ) (A : List (κ × β)) : List (κ × β) := A.filter λ p => decide (p.1 ≠ k)
def kset (k : κ) (x : β) (A : List (κ × β)) : List (κ × β) := kdel k A ++ [(k, x)]
theorem kdel_none {k : κ} {A : List (κ × β)} (h : k ∉ A.map (·.1)) : kdel k A = A := by
 unfold kdel
 rw [List.filter_eq_self]
 intro p hp
 simp only [decide_eq_true_eq]
 exact λ e => h (e ▸ List.mem_map_of_mem hp)
theorem kdel_cons {k : κ} {x : β} {A : List (κ × β)} (h : k ∉ A.map (·.1)) : kdel k ((k, x) :: A) = A := by
 have := kdel_none h
 unfold kdel at *
 rw [List.filter_cons, if_neg (by simp)]
 exact this
theorem kdel_mid {k : κ} {x : β} {A B : List (κ × β)} (hn : ((A ++ (k, x) :: B).map (·.1)).Nodup) : kdel k (A ++ (k, x) :: B) = A ++ B := by
 simp only [List.map_append, List.map_cons, List.nodup_append, List.nodup_cons, List.mem_cons] at hn
 obtain ⟨_, ⟨h2, _⟩, h3⟩ := hn
 have e1 : kdel k A = A := kdel_none λ hm => h3 k hm k (.inl rfl) rfl
 have e2 : kdel k ((k, x) :: B) = B := kdel_cons h2
 unfold kdel at *
 rw [List.filter_append, e1, e2]
end
section
variable {κ β γ : Type}
variable [DecidableEq κ]
theorem mset_perm {k : κ} {x : β} : ∀ {M : List (κ × β)}, (M.map (·.1)).Nodup -> (mset k x M).Perm (kset k x M)
 | [], _ => by simp [mset, kset, kdel]
 | (k', x') :: M, hn => by
  rw [List.map_cons, List.nodup_cons] at hn
  simp only [mset]
  split
  ·rename_i h
   subst h
   unfold kset
   rw [kdel_cons hn.1]
   exact List.perm_append_comm (l₁ := [(k, x)])
  ·rename_i h
   have ih := (mset_perm (k := k) (x := x) hn.2).cons (k', x')
   refine ih.trans (List.Perm.of_eq ?_)
   unfold kset kdel
   have : decide ((k', x').1 ≠ k) = true := decide_eq_true λ e => h e.symm
   rw [List.filter_cons, if_pos this]
   rfl
end
def texts (l : List ByteArray) (n k : Nat) : List ByteArray := (l.take n).map λ s => short s k
abbrev RB : Type := Nat × SRow
def encRB (p : RB) : List Value := encPt p.1
theorem RS.of_map {α β : Type} {R : Rds} {sz : Nat} {enc : α -> List Value} {f : β -> α} {v : Value} {xs : List β} (h : RS R sz enc v (xs.map f)) : RS R sz (λ x => enc (f x)) v xs := by
 refine ⟨λ x hx => h.len _ (List.mem_map.2 ⟨x, hx, rfl⟩), λ x hx => h.one _ (List.mem_map.2 ⟨x, hx, rfl⟩), ?_⟩
 obtain ⟨p, cap, h1, h2, h3, h4⟩ := h.h
 rw [List.length_map] at h1 h2
 refine ⟨p, cap, h1, h2, h3, ?_⟩
 rcases h4 with h4 | ⟨b, off, c, E, fr, h5, h6, h7⟩
 ·exact .inl (List.map_eq_nil_iff.1 h4)
 ·exact .inr ⟨b, off, c, E, fr, h5, h6, by rwa [List.flatMap_map] at h7⟩
def rowObj (x : SRow) : Obj := .cells x.enc.toArray 196 (0, 0)
def rowSeg (ps : List RB) : Seg := ps.map λ p => (p.1, rowObj p.2)
def ids {κ : Type} [DecidableEq κ] (key : SRow -> κ) (k : κ) (ps : List RB) : List Nat := (ps.filter λ x => decide (key x.2 = k)).map (·.1)
section
variable {κ : Type} [DecidableEq κ] {encK : κ -> Value} {key : SRow -> κ}
structure MFx (encK : κ -> Value) (key : SRow -> κ) (ps : List RB) (vm : Value) (M : List (κ × (Value × Seg))) (Tm Ts : Seg) : Prop where
 ms : MS encK (λ p : Value × Seg => p.1) vm M Tm
 pm : Ts.Perm (M.flatMap λ p => p.2.2)
 os : ∀ p ∈ M, OS 197 1 encPt p.2.1 (ids key p.1 ps) p.2.2
 ne : ∀ p ∈ M, ids key p.1 ps ≠ []
 al : ∀ x ∈ ps, key x.2 ∈ M.map (·.1)
theorem ids_nil {k : κ} {ps : List RB} (h : ∀ x ∈ ps, key x.2 ≠ k) : ids key k ps = [] := by
 unfold ids
 rw [List.filter_eq_nil_iff.2 λ x hx => by simpa using h x hx]; rfl
theorem MFx.nil {b : Nat} : MFx encK key [] (.map (some b)) [] [(b, .map #[] 0)] [] := ⟨MS.nil, by simp, by simp, by simp, by simp⟩
theorem MFx.get {ps : List RB} {vm : Value} {M : List (κ × (Value × Seg))} {Tm Ts : Seg} (h : MFx encK key ps vm M Tm Ts) (k : κ) : ∃ v Tk Tr, ((mget k M).map λ p : Value × Seg => p.1).getD (sZ) = v /\ OS 197 1 encPt v (ids key k ps) Tk /\ Ts.Perm (Tk ++ Tr) /\ (∀ v' Tk', ((mset k (v', Tk') M).flatMap λ p => p.2.2).Perm (Tk' ++ Tr)) := by
 cases hm : mget k M with
 | none =>
  have hk := mget_none.1 hm
  have hid : ids key k ps = [] := ids_nil λ x hx he => hk (he ▸ h.al x hx)
  refine ⟨sZ, [], Ts, rfl, by rw [hid]; exact OS.nil, .refl _, λ v' Tk' => ?_⟩
  rw [mset_new hk, List.flatMap_append]
  exact (List.perm_append_comm).trans (by simpa using h.pm.symm.append_left Tk')
 | some p =>
  obtain ⟨v, Tk⟩ := p
  have hmem := mget_some hm
  obtain ⟨X, Y, hXY⟩ := List.append_of_mem hmem
  have hn := h.ms.nd
  refine ⟨v, Tk, (X.flatMap λ p => p.2.2) ++ (Y.flatMap λ p => p.2.2), rfl, h.os _ hmem, ?_, λ v' Tk' => ?_⟩
  ·refine h.pm.trans ?_
   rw [hXY, List.flatMap_append, List.flatMap_cons]
   exact List.perm_append_comm_assoc _ _ _
  ·refine ((mset_perm hn).flatMap_right _).trans ?_
   unfold kset
   rw [hXY] at hn ⊢
   rw [kdel_mid hn, List.flatMap_append, List.flatMap_append]
   simp only [List.flatMap_cons, List.flatMap_nil, List.append_nil]
   exact List.perm_append_comm
theorem MFx.rows {ps qs : List RB} {vm : Value} {M : List (κ × (Value × Seg))} {Tm Ts : Seg} (h : MFx encK key ps vm M Tm Ts) (hq : qs.map (λ p => (p.1, key p.2)) = ps.map (λ p => (p.1, key p.2))) : MFx encK key qs vm M Tm Ts := by
 have hid : ∀ k, ids key k qs = ids key k ps := λ k => by
  have e : ∀ L : List RB, ids key k L = ((L.map λ p => (p.1, key p.2)).filter λ p => decide (p.2 = k)).map (·.1) := λ L => by
   unfold ids
   rw [List.filter_map, List.map_map]; rfl
  rw [e, e, hq]
 refine ⟨h.ms, h.pm, λ p hp => by rw [hid]; exact h.os p hp, λ p hp => by rw [hid]; exact h.ne p hp, λ x hx => ?_⟩
 have : (x.1, key x.2) ∈ ps.map (λ p => (p.1, key p.2)) := hq ▸ List.mem_map.2 ⟨x, hx, rfl⟩
 obtain ⟨y, hy, hyx⟩ := List.mem_map.1 this
 have hk : key y.2 = key x.2 := congrArg Prod.snd hyx
 rw [<- hk]
 exact h.al y hy
end
def SI (g : Nat) (S : Sto) (T : Seg) : Prop := ∃ ps vf vr Mf Mr Tf Tr Sf Sr, T = (g, .cells [.bool true, .int .u64 S.head, .int .u64 S.hor, iN ps.length, vf, vr].toArray 89 (0, 0)) :: (Tf ++ (Sf ++ (Tr ++ (Sr ++ rowSeg ps)))) /\
 MFx (λ k : Obr => .agg k.enc.toArray) (λ x => x.t.obr) ps vf Mf Tf Sf /\ MFx (λ k : Sub => .agg k.enc.toArray) (λ x => x.t.sub) ps vr Mr Tr Sr /\ ps.map (·.2) = S.rows
theorem isNaNI_spec (a : Int) (R : Rds) : Spec prog 284 [.int .i64 a] R [] λ u H' => u = .bool false /\ H' = [] := by
 refine Spec.body Tryz.func284 rfl Tryz.results284 Tryz.ntmps284 rfl<|.sr<|.ag rfl<|.z<|.mo rfl<|.mo rfl<|.q .neI<|.az rfl<|.ret (rq1 rfl ?_)
 ·exact ⟨by simp, rfl⟩
theorem compareI_spec (a b : Int) (R : Rds) : Spec prog 274 [.int .i64 a, .int .i64 b] R [] λ u H' => u = .int .i64 (icmp a b) /\ H' = [] := by
 refine Spec.body Tryz.func274 rfl Tryz.results274 Tryz.ntmps274 rfl<|.sr<|.ag rfl<|.z<|.mo rfl<|.callR (isNaNI_spec a _) (λ v hv => ?_)
 subst hv
 refine .ag rfl<|.z<|.mo rfl<|.callR (isNaNI_spec b _) (λ v hv => ?_)
 subst hv
 refine .ag rfl<|.zs<|.sr<|.mo rfl<|.zn<|.condF<|.kn<|.seq<|.sr<|.mo rfl<|.zn<|.condF<|.kn<|.seq<|.sr<|.mo rfl<|.mo rfl<|.q .lss<|.zn<|.cond rfl (λ h4 => ?_) λ h4 => ?_
 refine .sr<|.az rfl<|.ret (seqQ_r (rq1 rfl ?_))
 ·refine ⟨?_, rfl⟩
  simp at h4
  try simp at h5
  unfold icmp
  congr 1
  split
  ·first | rfl | omega
  ·first | rfl | (exfalso; omega) | (split <;> first | rfl | omega)
 refine .kn<|.seq<|.sr<|.mo rfl<|.mo rfl<|.q .gtr<|.zn<|.cond rfl (λ h5 => ?_) λ h5 => ?_
 refine .sr<|.az rfl<|.ret (seqQ_r (rq1 rfl ?_))
 ·refine ⟨?_, rfl⟩
  simp at h4
  try simp at h5
  unfold icmp
  congr 1
  split
  ·first | rfl | omega
  ·first | rfl | (exfalso; omega) | (split <;> first | rfl | omega)
 refine .kn<|.sr<|.az rfl<|.ret (rq1 rfl ?_)
 ·refine ⟨?_, rfl⟩
  simp at h4
  try simp at h5
  unfold icmp
  congr 1
  split
  ·first | rfl | omega
  ·first | rfl | (exfalso; omega) | (split <;> first | rfl | omega)
theorem rank_spec (s : Sub) (R : Rds) : Spec prog 275 [.agg s.enc.toArray] R [] λ v H' => v = .int .i64 (srank s.us) /\ H' = [] := by
 refine Spec.body Tryz.func275 rfl Tryz.results275 Tryz.ntmps275 rfl<|.sr ?_
 refine .boxA rfl (λ b1 => ?_)
 refine .ag rfl<|.zs<|.sr<|.fa rfl<|.lo rfl<|.q .neS<|.zn<|.cond rfl (λ h1 => ?_) λ h1 => ?_
 refine .sr<|.az rfl<|.ret (seqQ_r (rq1 rfl ?_))
 ·have h9 : ¬ s.us = ⟨#[]⟩ := by simpa using h1
  exact ⟨by unfold srank; rw [if_neg h9], rfl⟩
 refine .kn<|.sr<|.az rfl<|.ret (rq1 rfl ?_)
 ·have h9 : s.us = ⟨#[]⟩ := by simpa using h1
  exact ⟨by unfold srank; rw [if_pos h9], rfl⟩
theorem tcompare_spec (a b : Tpl) (R : Rds) : Spec prog 243 [.agg a.enc.toArray, .agg b.enc.toArray] R [] λ v H' => v = .int .i64 (tplcmp a b) /\ H' = [] := by
 obtain ⟨a1, a2, a3, a4, a5, a6, a7⟩ := a
 obtain ⟨c1, c2, c3, c4, c5, c6, c7⟩ := b
 have ia : Ones (Sub.enc ⟨a4, a5, a6, a7⟩) := inferInstance
 have ib : Ones (Sub.enc ⟨c4, c5, c6, c7⟩) := inferInstance
 refine Spec.body Tryz.func243 rfl Tryz.results243 Tryz.ntmps243 rfl<|.sr ?_
 refine .boxA rfl (λ b2 => ?_)
 refine .boxA rfl (λ b3 => ?_)
 refine .ag rfl<|.zs ?_
 refine Tri.cut (X := Nat × Nat) (λ _ => True) (λ y => [(2, pT b2), (3, pT b3), (5, .pointer (some ⟨y.1, 0, none⟩)), (6, .pointer (some ⟨y.2, 0, none⟩))]) (λ y => [[(y.1, .cells (Sub.enc ⟨a4, a5, a6, a7⟩).toArray 149 (0, 0))], [(y.2, .cells (Sub.enc ⟨c4, c5, c6, c7⟩).toArray 149 (0, 0))], bl b3 (Tpl.enc ⟨c1, c2, c3, c4, c5, c6, c7⟩) 151, bl b2 (Tpl.enc ⟨a1, a2, a3, a4, a5, a6, a7⟩) 151]) ?_ ?_
 refine .region_any [] [6, 7] mixed ?_
 conv => arg 3; simp only [take, rest, dropAt, List.getD_cons_zero, List.getD_cons_succ]
 conv => arg 5; simp only [take, rest, dropAt, List.getD_cons_zero, List.getD_cons_succ]
 conv => arg 9; simp only [take, rest, dropAt, List.getD_cons_zero, List.getD_cons_succ]
 refine .tO 0 rfl (.fieldAddr rfl)<|.tO 1 rfl (.loadT rfl)<|.tK 2 rfl (.fieldAddrA rfl)<|.tK 3 rfl (.loadT rfl)<|RA.step2 4 5 rfl rfl (by kernel_rfl) rfl ?_ ?_
 refine .allocA (λ b5 => ?_)
 refine .nil<|Next.sub<|.sT 5 rfl ?_
 refine .allocA (λ b6 => ?_)
 refine .nil<|Next.sub<|.sT 6 rfl<|.storeA rfl rfl<|.nil<|Next.mod rfl<|.sT 7 rfl<|.storeA rfl rfl<|.nil<|Next.mod rfl<|RA.nil (by kernel_rfl) ?_
 ·exact joinQ_n (b5, b6) trivial kE.c.c.c.c (pkH [1, 0, 0, 0])
 refine .allocA (λ b6 => ?_)
 refine .nil<|Next.sub<|.sT 4 rfl ?_
 refine .allocA (λ b5 => ?_)
 refine .nil<|Next.sub<|.sT 6 rfl<|.storeA rfl rfl<|.nil<|Next.mod rfl<|.sT 7 rfl<|.storeA rfl rfl<|.nil<|Next.mod rfl<|RA.nil (by kernel_rfl) ?_
 ·exact joinQ_n (b5, b6) trivial kE.c.c.c.c (pkH [0, 0, 0, 0])
 intro y hy
 obtain ⟨b5, b6⟩ := y
 simp only
 refine seqQ_n<|.seq<|.region_all [] mixed<|.tO 0 rfl (.fieldAddr rfl)<|.tO 1 rfl (.fieldAddr rfl)<|.tO 2 rfl (.load1 rfl)<|.tO 3 rfl (.fieldAddr rfl)<|.tO 4 rfl (.fieldAddr rfl)<|.tO 5 rfl (.load1 rfl)<|.tO 7 rfl (.fieldAddr rfl)<|.tO 8 rfl (.fieldAddr rfl)<|.tO 9 rfl (.load1 rfl)<|.tO 10 rfl (.fieldAddr rfl)<|.tO 11 rfl (.fieldAddr rfl)<|.tO 12 rfl (.load1 rfl)<|.tO 14 rfl (.fieldAddr rfl)<|.tO 15 rfl (.load1 rfl)<|.tO 16 rfl (.fieldAddr rfl)<|.tO 17 rfl (.load1 rfl)<|.tO 19 rfl (.loadA rfl)<|.tO 21 rfl (.loadA rfl)<|.tO 24 rfl (.fieldAddr rfl)<|.tO 25 rfl (.load1 rfl)<|.tO 26 rfl (.fieldAddr rfl)<|.tO 27 rfl (.load1 rfl)<|.tO 29 rfl (.fieldAddr rfl)<|.tO 30 rfl (.fieldAddr rfl)<|.tO 31 rfl (.load1 rfl)<|.tO 32 rfl (.fieldAddr rfl)<|.tO 33 rfl (.fieldAddr rfl)<|.tO 34 rfl (.load1 rfl)<|.tO 36 rfl (.fieldAddr rfl)<|.tO 37 rfl (.fieldAddr rfl)<|.tO 38 rfl (.load1 rfl)<|.tO 39 rfl (.fieldAddr rfl)<|.tO 40 rfl (.fieldAddr rfl)<|.tO 41 rfl (.load1 rfl)<|.tO 43 rfl (.fieldAddr rfl)<|.tO 44 rfl (.load1 rfl)<|.tO 45 rfl (.fieldAddr rfl)<|.tO 46 rfl (.load1 rfl)<|.sT 6 rfl<|.callR (compare_spec a1 c1 _) (λ v hv => ?_)
 subst hv
 refine .nil<|Next.sub<|.sT 13 rfl<|.callR (compare_spec a2 c2 _) (λ v hv => ?_)
 subst hv
 refine .nil<|Next.sub<|.sT 18 rfl<|.callR (compare_spec a3 c3 _) (λ v hv => ?_)
 subst hv
 refine .nil<|Next.sub<|.sT 20 rfl<|.callR (rank_spec ⟨a4, a5, a6, a7⟩ _) (λ v hv => ?_)
 subst hv
 refine .nil<|Next.sub<|.sT 22 rfl<|.callR (rank_spec ⟨c4, c5, c6, c7⟩ _) (λ v hv => ?_)
 subst hv
 refine .nil<|Next.sub<|.sT 23 rfl<|.callR (compareI_spec (srank a4) (srank c4) _) (λ v hv => ?_)
 subst hv
 refine .nil<|Next.sub<|.sT 28 rfl<|.callR (compare_spec a4 c4 _) (λ v hv => ?_)
 subst hv
 refine .nil<|Next.sub<|.sT 35 rfl<|.callR (compare_spec a5 c5 _) (λ v hv => ?_)
 subst hv
 refine .nil<|Next.sub<|.sT 42 rfl<|.callR (compare_spec a6 c6 _) (λ v hv => ?_)
 subst hv
 refine .nil<|Next.sub<|.sT 47 rfl<|.callR (compare_spec a7 c7 _) (λ v hv => ?_)
 subst hv
 refine .nil<|Next.sub<|.sT 48 rfl ?_
 refine .buildSliceN1 [_, _, _, _, _, _, _, _] (λ b59 => ?_)
 refine .nil<|Next.sub<|.sT 49 rfl<|.callR (or_spec _ [scmp a1 c1, scmp a2 c2, scmp a3 c3, icmp (srank a4) (srank c4), scmp a4 c4, scmp a5 c5, scmp a6 c6, scmp a7 c7] _ (RS.lits rfl (by simp [encI]) (by simp [encI, oneCell]))) (λ v hv => ?_)
 subst hv
 refine .nil<|Next.sub<|.tO 50 rfl .assign<|RA.nil (by kernel_rfl)<|seqQ_n<|.ret (rq1 rfl ?_)
 ·exact ⟨rfl, rfl⟩
theorem tless_p_spec (a b : Tpl) (R : Rds) : Spec prog 188 [.agg a.enc.toArray, .agg b.enc.toArray] R [] λ v H' => v = .bool (tlt a b) /\ H' = [] := by
 refine Spec.body Tryz.func188 rfl Tryz.results188 Tryz.ntmps188 rfl<|.sr ?_
 refine .boxA rfl (λ b2 => ?_)
 refine .boxA rfl (λ b3 => ?_)
 refine .ag rfl<|.z<|.q (.loadA rfl)<|.q (.loadA rfl)<|.callR (tcompare_spec a b _) (λ v hv => ?_)
 subst hv
 refine .q .lss<|.az rfl<|.ret (rq1 rfl ?_)
 ·exact ⟨rfl, rfl⟩
theorem tname_spec (b : Bool) (R : Rds) : Spec prog 244 [.bool b] R [] λ v H' => v = .int .i64 (if b then 0 else 9) /\ H' = [] := by
 refine Spec.body Tryz.func244 rfl Tryz.results244 Tryz.ntmps244 rfl<|.sr<|.ag rfl<|.zs<|.sr<|.mo rfl<|.zn<|.cond rfl (λ h1 => ?_) λ h1 => ?_
 refine .sr<|.az rfl<|.ret (seqQ_r (rq1 rfl ?_))
 ·exact ⟨by rw [h1]; rfl, rfl⟩
 refine .kn<|.sr<|.az rfl<|.ret (rq1 rfl ?_)
 ·exact ⟨by rw [h1]; rfl, rfl⟩
theorem checkRef_spec (s i : ByteArray) (hs : s.size <= 9223372036854775807) (hi : i.size <= 9223372036854775807) (R : Rds) : Spec prog 199 [.agg [.string s, .string i].toArray] R [] λ v H' => v = .int .i64 (if isRef s i then 0 else 9) /\ H' = [] := by
 refine Spec.body Tryz.func199 rfl Tryz.results199 Tryz.ntmps199 rfl<|.sr ?_
 refine .boxA rfl (λ b1 => ?_)
 refine .ag rfl<|.z<|.fa rfl<|.lo rfl<|.callR (word_spec s hs _) (λ v hv => ?_)
 subst hv
 refine .mo rfl<|.split (t := 6) rfl (λ g1_3 => ?_) (λ g1_3 => ?_)
 have hv9 : isRef s i = isID i := by unfold isRef; rw [g1_3]; rfl
 refine .gT g1_3<|.fa rfl<|.gT g1_3<|.lo rfl<|.gT g1_3<|.callR (id_spec i hi _) (λ v hv => ?_)
 subst hv
 refine .q (.pickTh g1_3)<|.callR (tname_spec _ _) (λ v hv => ?_)
 subst hv
 refine .az rfl<|.ret (rq1 rfl ?_)
 ·exact ⟨by rw [hv9], rfl⟩
 have hv9 : isRef s i = false := by unfold isRef; rw [g1_3]; rfl
 refine .gF g1_3<|.gF g1_3<|.gF g1_3<|.q (.pickFh g1_3)<|.callR (tname_spec _ _) (λ v hv => ?_)
 subst hv
 refine .az rfl<|.ret (rq1 rfl ?_)
 ·exact ⟨by rw [hv9], rfl⟩
theorem tfits_spec (a s : ByteArray) (R : Rds) : Spec prog 186 [.string a, .string s] R [] λ v H' => v = .bool (decide (a = ⟨#[]⟩) || decide (a = s)) /\ H' = [] := by
 refine Spec.body Tryz.func186 rfl Tryz.results186 Tryz.ntmps186 rfl<|.sr<|.ag rfl<|.z<|.mo rfl<|.q .eqS<|.mo rfl<|.split (t := 7) rfl (λ g1_2 => ?_) (λ g1_2 => ?_)
 refine .gF g1_2<|.gF g1_2<|.gF g1_2<|.q (.pickTh g1_2)<|.az rfl<|.ret (rq1 rfl ?_)
 ·refine ⟨congrArg _ ?_, rfl⟩
  simp_all
 refine .gT g1_2<|.mo rfl<|.gT g1_2<|.mo rfl<|.gT g1_2<|.q .eqS<|.q (.pickFh g1_2)<|.az rfl<|.ret (rq1 rfl ?_)
 ·refine ⟨congrArg _ ?_, rfl⟩
  simp_all
theorem tmatch_spec (f t : Tpl) (R : Rds) : Spec prog 141 [.agg f.enc.toArray, .agg t.enc.toArray] R [] λ v H' => v = .bool (tmatch f t) /\ H' = [] := by
 have it : Ones (Sub.enc ⟨t.us, t.ss, t.si, t.sr⟩) := inferInstance
 refine Spec.body Tryz.func141 rfl Tryz.results141 Tryz.ntmps141 rfl<|.sr ?_
 refine .boxA rfl (λ b2 => ?_)
 refine .boxA rfl (λ b3 => ?_)
 refine .ag rfl<|.z<|.fa rfl<|.q (.loadT rfl) ?_
 refine .allocA (λ b5 => ?_)
 refine .storeA rfl rfl<|.z<|.fa rfl<|.lo rfl<|.fa rfl<|.fa rfl<|.lo rfl<|.callR (tfits_spec (f.os) (t.os) _) (λ v hv => ?_)
 subst hv
 refine .mo rfl<|.split (t := 14) rfl (λ g2_6 => ?_) (λ g2_6 => ?_)
 refine .gT g2_6<|.fa rfl<|.gT g2_6<|.lo rfl<|.gT g2_6<|.fa rfl<|.gT g2_6<|.fa rfl<|.gT g2_6<|.lo rfl<|.gT g2_6<|.callR (tfits_spec (f.oi) (t.oi) _) (λ v hv => ?_)
 subst hv
 refine .q (.pickTh g2_6)<|.mo rfl<|.split (t := 22) rfl (λ g2_14 => ?_) (λ g2_14 => ?_)
 refine .gT g2_14<|.fa rfl<|.gT g2_14<|.lo rfl<|.gT g2_14<|.fa rfl<|.gT g2_14<|.lo rfl<|.gT g2_14<|.callR (tfits_spec (f.rel) (t.rel) _) (λ v hv => ?_)
 subst hv
 refine .q (.pickTh g2_14)<|.mo rfl<|.split (t := 29) rfl (λ g2_21 => ?_) (λ g2_21 => ?_)
 refine .gT g2_21<|.fa rfl<|.gT g2_21<|.lo rfl<|.gT g2_21<|.fa rfl<|.gT g2_21<|.lo rfl<|.gT g2_21<|.callR (tfits_spec (f.us) (t.us) _) (λ v hv => ?_)
 subst hv
 refine .q (.pickTh g2_21)<|.mo rfl<|.split (t := 36) rfl (λ g2_28 => ?_) (λ g2_28 => ?_)
 refine .gT g2_28<|.fa rfl<|.gT g2_28<|.fa rfl<|.gT g2_28<|.lo rfl<|.gT g2_28<|.fa rfl<|.gT g2_28<|.fa rfl<|.gT g2_28<|.lo rfl<|.gT g2_28<|.callR (tfits_spec (f.ss) (t.ss) _) (λ v hv => ?_)
 subst hv
 refine .q (.pickTh g2_28)<|.mo rfl<|.split (t := 45) rfl (λ g2_37 => ?_) (λ g2_37 => ?_)
 refine .gT g2_37<|.fa rfl<|.gT g2_37<|.fa rfl<|.gT g2_37<|.lo rfl<|.gT g2_37<|.fa rfl<|.gT g2_37<|.fa rfl<|.gT g2_37<|.lo rfl<|.gT g2_37<|.callR (tfits_spec (f.si) (t.si) _) (λ v hv => ?_)
 subst hv
 refine .q (.pickTh g2_37)<|.mo rfl<|.split (t := 54) rfl (λ g2_46 => ?_) (λ g2_46 => ?_)
 refine .gT g2_46<|.fa rfl<|.gT g2_46<|.lo rfl<|.gT g2_46<|.fa rfl<|.gT g2_46<|.lo rfl<|.gT g2_46<|.callR (tfits_spec (f.sr) (t.sr) _) (λ v hv => ?_)
 subst hv
 refine .q (.pickTh g2_46)<|.az rfl<|.ret (rq1 rfl ?_)
 ·refine ⟨congrArg _ ?_, rfl⟩
  unfold tmatch
  simp_all
 refine .gF g2_46<|.gF g2_46<|.gF g2_46<|.gF g2_46<|.gF g2_46<|.q (.pickFh g2_46)<|.az rfl<|.ret (rq1 rfl ?_)
 ·refine ⟨congrArg _ ?_, rfl⟩
  unfold tmatch
  simp_all
 refine .gF g2_37<|.gF g2_37<|.gF g2_37<|.gF g2_37<|.gF g2_37<|.gF g2_37<|.gF g2_37<|.q (.pickFh g2_37)<|.mo rfl<|.gX<|.gX<|.gX<|.gX<|.gX<|.q .pickF<|.az rfl<|.ret (rq1 rfl ?_)
 ·refine ⟨congrArg _ ?_, rfl⟩
  unfold tmatch
  simp_all
 refine .gF g2_28<|.gF g2_28<|.gF g2_28<|.gF g2_28<|.gF g2_28<|.gF g2_28<|.gF g2_28<|.q (.pickFh g2_28)<|.mo rfl<|.gX<|.gX<|.gX<|.gX<|.gX<|.gX<|.gX<|.q .pickF<|.mo rfl<|.gX<|.gX<|.gX<|.gX<|.gX<|.q .pickF<|.az rfl<|.ret (rq1 rfl ?_)
 ·refine ⟨congrArg _ ?_, rfl⟩
  unfold tmatch
  simp_all
 refine .gF g2_21<|.gF g2_21<|.gF g2_21<|.gF g2_21<|.gF g2_21<|.q (.pickFh g2_21)<|.mo rfl<|.gX<|.gX<|.gX<|.gX<|.gX<|.gX<|.gX<|.q .pickF<|.mo rfl<|.gX<|.gX<|.gX<|.gX<|.gX<|.gX<|.gX<|.q .pickF<|.mo rfl<|.gX<|.gX<|.gX<|.gX<|.gX<|.q .pickF<|.az rfl<|.ret (rq1 rfl ?_)
 ·refine ⟨congrArg _ ?_, rfl⟩
  unfold tmatch
  simp_all
 refine .gF g2_14<|.gF g2_14<|.gF g2_14<|.gF g2_14<|.gF g2_14<|.q (.pickFh g2_14)<|.mo rfl<|.gX<|.gX<|.gX<|.gX<|.gX<|.q .pickF<|.mo rfl<|.gX<|.gX<|.gX<|.gX<|.gX<|.gX<|.gX<|.q .pickF<|.mo rfl<|.gX<|.gX<|.gX<|.gX<|.gX<|.gX<|.gX<|.q .pickF<|.mo rfl<|.gX<|.gX<|.gX<|.gX<|.gX<|.q .pickF<|.az rfl<|.ret (rq1 rfl ?_)
 ·refine ⟨congrArg _ ?_, rfl⟩
  unfold tmatch
  simp_all
 refine .gF g2_6<|.gF g2_6<|.gF g2_6<|.gF g2_6<|.gF g2_6<|.gF g2_6<|.q (.pickFh g2_6)<|.mo rfl<|.gX<|.gX<|.gX<|.gX<|.gX<|.q .pickF<|.mo rfl<|.gX<|.gX<|.gX<|.gX<|.gX<|.q .pickF<|.mo rfl<|.gX<|.gX<|.gX<|.gX<|.gX<|.gX<|.gX<|.q .pickF<|.mo rfl<|.gX<|.gX<|.gX<|.gX<|.gX<|.gX<|.gX<|.q .pickF<|.mo rfl<|.gX<|.gX<|.gX<|.gX<|.gX<|.q .pickF<|.az rfl<|.ret (rq1 rfl ?_)
 ·refine ⟨congrArg _ ?_, rfl⟩
  unfold tmatch
  simp_all
instance Obr.keyP : KeyT prog 262 (λ k : Obr => .agg k.enc.toArray) := KeyT.agg fQ262 Tryz.underlying262 rfl Obr.kinds Obr.eq
def frows {κ : Type} [DecidableEq κ] (key : SRow -> κ) (k : κ) (ps : List RB) : List RB := ps.filter λ x => decide (key x.2 = k)
theorem MFx.look {κ : Type} [DecidableEq κ] {encK : κ -> Value} {key : SRow -> κ} {ps : List RB} {vm : Value} {M : List (κ × (Value × Seg))} {Tm Ts : Seg} {R : Rds} (h : MFx encK key ps vm M Tm Ts) (hR : ∀ p ∈ Ts, R p.1 p.2) (k : κ) : ∃ p c, ((mget k M).map λ p : Value × Seg => p.1).getD (sZ) = .slice p (ids key k ps).length c /\ RS R 1 encPt (.slice p (ids key k ps).length c) (ids key k ps) := by
 obtain ⟨v, Tk, Tr, h1, h2, h3, _⟩ := h.get k
 have h4 : RS R 1 encPt v (ids key k ps) := h2.rs λ p hp => hR p (h3.mem_iff.2 (List.mem_append_left _ hp))
 obtain ⟨p, c, e⟩ := h4.val
 subst e
 exact ⟨p, c, h1, h4⟩
structure SV (R : Rds) (g : Nat) (S : Sto) (ps : List RB) (vf vr : Value) (Mf : List (Obr × (Value × Seg))) (Mr : List (Sub × (Value × Seg))) : Prop where
 pc : PC R (pT g) [.bool true, .int .u64 S.head, .int .u64 S.hor, iN ps.length, vf, vr]
 of : One vf
 or : One vr
 mf : RM R (λ k : Obr => .agg k.enc.toArray) (λ p : Value × Seg => p.1) vf Mf
 mr : RM R (λ k : Sub => .agg k.enc.toArray) (λ p : Value × Seg => p.1) vr Mr
 lf : ∀ k, ∃ p c, ((mget k Mf).map λ p : Value × Seg => p.1).getD (sZ) = .slice p (ids (λ x => x.t.obr) k ps).length c /\ RS R 1 encPt (.slice p (ids (λ x => x.t.obr) k ps).length c) (ids (λ x => x.t.obr) k ps)
 lr : ∀ k, ∃ p c, ((mget k Mr).map λ p : Value × Seg => p.1).getD (sZ) = .slice p (ids (λ x => x.t.sub) k ps).length c /\ RS R 1 encPt (.slice p (ids (λ x => x.t.sub) k ps).length c) (ids (λ x => x.t.sub) k ps)
 af : ∀ x ∈ ps, x.2.t.obr ∈ Mf.map (·.1)
 nf : (Mf.map (·.1)).Nodup
 pr : ∀ p ∈ ps, PC R (.pointer (some ⟨p.1, 0, none⟩)) p.2.enc
 eq : ps.map (·.2) = S.rows
theorem SV.mono {R R' : Rds} {g : Nat} {S : Sto} {ps : List RB} {vf vr : Value} {Mf : List (Obr × (Value × Seg))} {Mr : List (Sub × (Value × Seg))} (h : SV R g S ps vf vr Mf Mr) (hR : ∀ b o, R b o -> R' b o) : SV R' g S ps vf vr Mf Mr := by
 refine ⟨h.pc.mono hR, h.of, h.or, ?_, ?_, λ k => ?_, λ k => ?_, h.af, h.nf, λ p hp => (h.pr p hp).mono hR, h.eq⟩
 ·obtain ⟨b, es, c, h1, h2, h3⟩ := h.mf
  exact ⟨b, es, c, h1, hR _ _ h2, h3⟩
 ·obtain ⟨b, es, c, h1, h2, h3⟩ := h.mr
  exact ⟨b, es, c, h1, hR _ _ h2, h3⟩
 ·obtain ⟨p, c, h1, h2⟩ := h.lf k
  exact ⟨p, c, h1, h2.mono hR⟩
 ·obtain ⟨p, c, h1, h2⟩ := h.lr k
  exact ⟨p, c, h1, h2.mono hR⟩
theorem SI.view {g : Nat} {S : Sto} {T : Seg} {R : Rds} (h : SI g S T) (hR : ∀ p ∈ T, R p.1 p.2) : ∃ ps vf vr Mf Mr, SV R g S ps vf vr Mf Mr := by
 obtain ⟨ps, vf, vr, Mf, Mr, Tf, Tr, Sf, Sr, rfl, h1, h2, h3⟩ := h
 refine ⟨ps, vf, vr, Mf, Mr, ⟨PC.of (E := 89) (fr := (0, 0)) (hR (g, _) (by simp)), h1.ms.one, h2.ms.one, h1.ms.rm λ p hp => hR p (by simp [hp]), h2.ms.rm λ p hp => hR p (by simp [hp]), λ k => h1.look (λ p hp => hR p (by simp [hp])) k, λ k => h2.look (λ p hp => hR p (by simp [hp])) k, h1.al, h1.ms.nd, λ p hp => ?_, h3⟩⟩
 exact PC.of (E := 196) (fr := (0, 0)) (hR (p.1, rowObj p.2) (by
  have : (p.1, rowObj p.2) ∈ rowSeg ps := List.mem_map.2 ⟨p, hp, rfl⟩
  simp [this]))
theorem sok_spec (g : Nat) (R : Rds) (c1 c2 c3 c4 c5 : Value) [i1 : One c1] [i2 : One c2] [i3 : One c3] [i4 : One c4] [i5 : One c5] [pc : PC R (pT g) [.bool true, c1, c2, c3, c4, c5]] : Spec prog 94 [pT g] R [] λ v H' => v = .bool true /\ H' = [] := by
 refine Spec.body Tryz.func94 rfl Tryz.results94 Tryz.ntmps94 rfl<|.sr<|.ag rfl<|.z<|.mo rfl<|.q (.neNilP rfl rfl)<|.mo rfl<|.gt rfl<|.mo rfl<|.gt rfl<|.nc rfl<|.gt rfl<|.fa rfl<|.gt rfl<|.lo rfl<|.q .pickT<|.az rfl<|.ret (rq1 rfl ?_)
 ·exact ⟨rfl, rfl⟩
section
variable {R : Rds} {g : Nat} {S : Sto} {ps : List RB} {vf vr : Value} {Mf : List (Obr × (Value × Seg))} {Mr : List (Sub × (Value × Seg))}
theorem SV.ok (h : SV R g S ps vf vr Mf Mr) : Spec prog 94 [pT g] R [] λ v H' => v = .bool true /\ H' = [] := by
 have := h.pc
 have := h.of
 have := h.or
 exact sok_spec g R _ _ _ _ _
theorem SV.head (h : SV R g S ps vf vr Mf Mr) : Spec prog 41 [pT g] R [] λ v H' => v = .int .u64 S.head /\ H' = [] := by
 have pc := h.pc
 refine Spec.body Tryz.func41 rfl Tryz.results41 Tryz.ntmps41 rfl<|.sr<|.ag rfl<|.zs<|.sr<|.mo rfl<|.callR (h.mono λ b o hb => .inl hb).ok (λ v hv => ?_)
 subst hv
 refine .q .not<|.zn<|.condF<|.kn<|.sr<|.mo rfl<|.nc rfl<|.fa rfl<|.lo rfl<|.az rfl<|.ret (rq1 rfl ?_)
 ·exact ⟨rfl, rfl⟩
theorem SV.can (h : SV R g S ps vf vr Mf Mr) (r : Int) : Spec prog 139 [pT g, .int .u64 r] R [] λ v H' => v = .bool (scan S r) /\ H' = [] := by
 have pc := h.pc
 refine Spec.body Tryz.func139 rfl Tryz.results139 Tryz.ntmps139 rfl<|.sr<|.ag rfl<|.z<|.mo rfl<|.callR (h.mono λ b o hb => .inl hb).ok (λ v hv => ?_)
 subst hv
 refine .mo rfl<|.split (t := 7) rfl (λ g1_2 => ?_) (λ g1_2 => ?_)
 refine .gT g1_2<|.mo rfl<|.gT g1_2<|.mo rfl<|.gT g1_2<|.nc rfl<|.gT g1_2<|.fa rfl<|.gT g1_2<|.lo rfl<|.gT g1_2<|.q .geq<|.q (.pickTh g1_2)<|.mo rfl<|.split (t := 15) rfl (λ g1_10 => ?_) (λ g1_10 => ?_)
 refine .gT g1_10<|.mo rfl<|.gT g1_10<|.mo rfl<|.gT g1_10<|.nc rfl<|.gT g1_10<|.fa rfl<|.gT g1_10<|.lo rfl<|.gT g1_10<|.q .leq<|.q (.pickTh g1_10)<|.az rfl<|.ret (rq1 rfl ?_)
 ·refine ⟨congrArg _ ?_, rfl⟩
  unfold scan
  simp_all
  try omega
 refine .gF g1_10<|.gF g1_10<|.gF g1_10<|.gF g1_10<|.gF g1_10<|.gF g1_10<|.q (.pickFh g1_10)<|.az rfl<|.ret (rq1 rfl ?_)
 ·refine ⟨congrArg _ ?_, rfl⟩
  unfold scan
  simp_all
  try omega
 refine .gF g1_2<|.gF g1_2<|.gF g1_2<|.gF g1_2<|.gF g1_2<|.gF g1_2<|.q (.pickFh g1_2)<|.mo rfl<|.gX<|.gX<|.gX<|.gX<|.gX<|.gX<|.q .pickF<|.az rfl<|.ret (rq1 rfl ?_)
 ·refine ⟨congrArg _ ?_, rfl⟩
  unfold scan
  simp_all
  try omega
end
theorem there_spec (x : SRow) (r : Int) (R : Rds) : Spec prog 185 [.agg x.enc.toArray, .int .u64 r] R [] λ v H' => v = .bool (x.there r) /\ H' = [] := by
 obtain ⟨⟨a1, a2, a3, a4, a5, a6, a7⟩, fr, to⟩ := x
 refine Spec.body Tryz.func185 rfl Tryz.results185 Tryz.ntmps185 rfl<|.sr ?_
 refine .boxA rfl (λ b2 => ?_)
 refine .ag rfl<|.z<|.fa rfl<|.lo rfl<|.mo rfl<|.q .leq<|.mo rfl<|.split (t := 9) rfl (λ g1_4 => ?_) (λ g1_4 => ?_)
 refine .gT g1_4<|.fa rfl<|.gT g1_4<|.lo rfl<|.gT g1_4<|.q .eqI<|.gT g1_4<|.mo rfl<|.split (t := 13) rfl (λ g1_8 => ?_) (λ g1_8 => ?_)
 refine .gF g1_8<|.gF g1_8<|.gF g1_8<|.gF g1_8<|.gT g1_4<|.q (.pickTh g1_8)<|.q (.pickTh g1_4)<|.az rfl<|.ret (rq1 rfl ?_)
 ·refine ⟨congrArg _ ?_, rfl⟩
  unfold SRow.there
  simp_all
  try omega
 refine .gT g1_8<|.fa rfl<|.gT g1_8<|.lo rfl<|.gT g1_8<|.mo rfl<|.gT g1_8<|.q .gtr<|.gT g1_4<|.q (.pickFh g1_8)<|.q (.pickTh g1_4)<|.az rfl<|.ret (rq1 rfl ?_)
 ·refine ⟨congrArg _ ?_, rfl⟩
  unfold SRow.there
  simp_all
  try omega
 refine .gF g1_4<|.gF g1_4<|.gF g1_4<|.gF g1_4<|.gfU rfl<|.gfU rfl<|.gfU rfl<|.gfU rfl<|.gF g1_4<|.q (.pickFh g1_4)<|.az rfl<|.ret (rq1 rfl ?_)
 ·refine ⟨congrArg _ ?_, rfl⟩
  unfold SRow.there
  simp_all
  try omega
theorem snew_spec (R : Rds) : Spec prog 48 [] R [] λ v H' => ∃ T, H' = [T] /\ ∃ g, v = pT g /\ SI g ⟨[], 0, 0⟩ T := by
 refine Spec.body Tryz.func48 rfl Tryz.results48 Tryz.ntmps48 rfl<|.sr<|.ag rfl<|.z ?_
 refine .makeMap (λ b1 => ?_)
 refine .makeMap (λ b2 => ?_)
 refine .q .bld ?_
 refine .boxA rfl (λ b4 => ?_)
 refine .az rfl<|.ret (retQ_r _ (.one (.tmp rfl)) ((pkH [0, 1, 0]).trans (HLe.ofPerm (H' := [(b4, .cells [.bool true, .int .u64 0, .int .u64 0, .int .i64 0, .map (some b1), .map (some b2)].toArray 89 (0, 0)) :: ([(b1, .map #[] 0)] ++ ([] ++ ([(b2, .map #[] 0)] ++ ([] ++ rowSeg []))))]) (by simp [take, dropAt, setL, rowSeg]))) ?_)
 ·exact ⟨_, rfl, b4, rfl, [], _, _, [], [], _, _, _, _, rfl, MFx.nil, MFx.nil, rfl⟩
def Fnd (ps : List RB) (S : Sto) (t : Tpl) (u : Value) : Prop := (∃ b x, (b, x) ∈ ps /\ x.openOf t = true /\ u = pT b) \/ (sthere S.rows t = false /\ u = .pointer none)
theorem Fnd.ptr {ps : List RB} {S : Sto} {t : Tpl} {u : Value} (h : Fnd ps S t u) (he : ps.map (·.2) = S.rows) : ∃ o, u = .pointer o /\ sthere S.rows t = !o.isNone := by
 rcases h with ⟨b, x, h1, h2, rfl⟩ | ⟨h1, rfl⟩
 ·exact ⟨_, rfl, by rw [sthere, List.any_eq_true.2 ⟨x, he ▸ List.mem_map.2 ⟨_, h1, rfl⟩, h2⟩]; rfl⟩
 ·exact ⟨_, rfl, by rw [h1]; rfl⟩
theorem SI.cells {g : Nat} {S : Sto} {T : Seg} (h : SI g S T) : ∃ n vf vr Rest, One vf /\ One vr /\ T = (g, .cells [.bool true, .int .u64 S.head, .int .u64 S.hor, .int .i64 n, vf, vr].toArray 89 (0, 0)) :: Rest /\ ∀ head hor, SI g ⟨S.rows, head, hor⟩ ((g, .cells [.bool true, .int .u64 head, .int .u64 hor, .int .i64 n, vf, vr].toArray 89 (0, 0)) :: Rest) := by
 obtain ⟨ps, vf, vr, Mf, Mr, Tf, Tr, Sf, Sr, rfl, h1, h2, h3⟩ := h
 exact ⟨_, vf, vr, _, h1.ms.one, h2.ms.one, rfl, λ head hor => ⟨ps, vf, vr, Mf, Mr, Tf, Tr, Sf, Sr, rfl, h1, h2, h3⟩⟩
structure SCall where
 kind : Int
 wm : Value
 wn : Value
 wc : Value
 f : Tpl
 rev : Int
 must : List Tpl
 no : List Tpl
 cs : List Chg
def SCall.few (c : SCall) : Prop := c.must.length <= 34 /\ c.no.length <= 34 /\ c.cs.length <= 34
section
variable {c : Cf} {num : List Nat} {sub : Obr -> List Sub} {k : Obr}
def backs (ps : List Plc) (j : Nat) : List Nat := (List.range ps.length).filter λ i => ((ps[i]?).map λ p => decide (j ∈ p.leads.flatten)).getD false
end
structure Means (W : ByteArray -> Bool) (F : ByteArray -> ByteArray -> Bool) (c : Cf) (num : List Nat) : Prop where
 right : c.right W F = true
 uniq : c.uniq
 ex : ∃ E, c.edgesD = some E /\ FixE E num
 len : num.length = c.all.length
 lt : ∀ i, num.getD i 0 <= c.all.length
theorem numbers_means {W : ByteArray -> Bool} {F : ByteArray -> ByteArray -> Bool} {c : Cf} (h : (c.numbers W F).1 = 0) : ∃ num, (c.numbers W F).2 = rows c.spaces num /\ Means W F c num := by
 unfold Cf.numbers at h ⊢
 by_cases h1 : c.right W F = false
 ·rw [if_pos h1] at h; cases h
 ·rw [if_neg h1] at h ⊢
  by_cases h2 : ¬ c.uniq
  ·rw [if_pos h2] at h; cases h
  ·rw [if_neg h2] at h ⊢
   cases he : c.edgesD with
   | none => rw [he] at h; cases h
   | some E =>
    rw [he] at h
    simp only at h ⊢
    by_cases hd : docOK E c.all.length = true
    ·rw [if_pos hd] at h ⊢
     have hE : ∀ e ∈ E, e.f < c.all.length := λ e h9 => (edgesD_lt he e h9).1
     have hT : ∀ e ∈ E, e.t < c.all.length := λ e h9 => (edgesD_lt he e h9).2
     refine ⟨_, rfl, ⟨by simpa using h1, Decidable.not_not.1 h2, ⟨E, he, ?_⟩, level_len _, λ i => ?_⟩⟩
     ·rcases Nat.eq_zero_or_pos c.all.length with h0 | hn
      ·intro e h9
       exact absurd (hE e h9) (by omega)
      ·obtain ⟨v, hv⟩ := (docOK_iff hE hT hn).1 hd
       obtain ⟨g1, g2, _⟩ := level_limit hE hT hv hn
       rw [g2 (c.all.length + 1) (by omega)]
       exact g1
     ·rcases Nat.eq_zero_or_pos c.all.length with h0 | hn
      ·have : (level E c.all.length (c.all.length + 1)).length = 0 := by rw [level_len, h0]
       rw [List.length_eq_zero_iff.1 this]
       simp
      ·obtain ⟨v, hv⟩ := (docOK_iff hE hT hn).1 hd
       obtain ⟨_, g2, g3⟩ := level_limit hE hT hv hn
       rw [g2 (c.all.length + 1) (by omega)]
       exact Nat.le_of_lt (g3 i)
    ·rw [if_neg hd] at h; cases h
abbrev QS := List Bool × List Bool
def pnum (ps : List Plc) (i : Nat) : Nat := ((ps[i]?).map (·.number)).getD 0
def isNext (ps : List Plc) (q : List Bool) (i : Nat) : Prop := q.getD i false = true /\ ∀ j, q.getD j false = true -> pnum ps i < pnum ps j \/ (pnum ps i = pnum ps j /\ i <= j)
def wput (v q : List Bool) (k : Nat) : List Bool := if v.getD k false then q else q.set k true
def qafter (ps : List Plc) (user : ByteArray) (s : QS) (i : Nat) : QS :=
 if s.1.getD i false || !(netOf ps user).ex i (λ j => s.1.getD j false) then (s.1, s.2.set i false)
 else (s.1.set i true, (backs ps i).foldl (wput (s.1.set i true)) (s.2.set i false))
inductive QRun (ps : List Plc) (user : ByteArray) : Nat -> QS -> Prop
 | start : QRun ps user 0 (List.replicate ps.length false, ps.map (·.found))
 | step {k : Nat} {s : QS} {i : Nat} : QRun ps user k s -> isNext ps s.2 i -> QRun ps user (k + 1) (qafter ps user s i)
section
variable {ps : List Plc} {user : ByteArray}
theorem isNext.uniq {q : List Bool} {i j : Nat} (h : isNext ps q i) (h' : isNext ps q j) : i = j := by
 have h1 := h.2 j h'.1
 have h2 := h'.2 i h.1
 omega
theorem QRun.uniq : ∀ {k : Nat} {s t : QS}, QRun ps user k s -> QRun ps user k t -> s = t
 | 0, _, _, .start, .start => rfl
 | k + 1, _, _, .step h1 n1, .step h2 n2 => by
  have e := QRun.uniq h1 h2
  subst e
  rw [n1.uniq n2]
theorem QRun.upto {m : Nat} : ∀ {k : Nat} {s : QS}, QRun ps user k s -> m < k -> ∃ t i, QRun ps user m t /\ isNext ps t.2 i
 | 0, _, _, hm => absurd hm (by omega)
 | k + 1, _, .step (i := i) (s := s) h n, hm => by
  by_cases e : m = k
  ·subst e; exact ⟨s, i, h, n⟩
  ·exact QRun.upto h (by omega)
def qnone (q : List Bool) : Prop := ∀ i, q.getD i false = false
theorem QRun.last {k m : Nat} {s t : QS} (h : QRun ps user k s) (hs : qnone s.2) (h' : QRun ps user m t) (ht : qnone t.2) : k = m /\ s = t := by
 have key : ∀ {k m : Nat} {s t : QS}, QRun ps user k s -> qnone s.2 -> QRun ps user m t -> ¬ k < m := by
  intro k m s t h hs h' hlt
  obtain ⟨u, i, hu, hi⟩ := h'.upto hlt
  have e := h.uniq hu
  subst e
  have := hi.1
  rw [hs i] at this
  cases this
 have e : k = m := by
  have h1 := key h hs h'
  have h2 := key h' ht h
  omega
 subst e
 exact ⟨rfl, h.uniq h'⟩
structure PsOK (ps : List Plc) (user : ByteArray) : Prop where
 ok : (netOf ps user).OK
 lt : ∀ p ∈ ps, ∀ x ∈ p.leads.flatten, x < ps.length
 nf : ∀ p ∈ ps, p.found = false -> p.leads = []
 ln : ∀ p ∈ ps, p.leads.length = p.nodes.length
theorem mem_backs {i j : Nat} : i ∈ backs ps j ↔ ∃ p, ps[i]? = some p /\ j ∈ p.leads.flatten := by
 unfold backs
 rw [List.mem_filter, List.mem_range]
 constructor
 ·rintro ⟨h1, h2⟩
  rw [gge h1, Option.map_some, Option.getD_some] at h2
  exact ⟨_, gge h1, odt h2⟩
 ·rintro ⟨p, h1, h2⟩
  refine ⟨(List.getElem?_eq_some_iff.1 h1).1, ?_⟩
  rw [h1]
  simpa using h2
theorem PsOK.back (h : PsOK ps user) {i j : Nat} : i ∈ backs ps j ↔ (netOf ps user).to i j := by
 rw [mem_backs]
 constructor
 ·rintro ⟨p, h1, h2⟩
  obtain ⟨l, hl, hj⟩ := List.mem_flatten.1 h2
  obtain ⟨e, he, hle⟩ := List.mem_iff_getElem.1 hl
  have he' : e < p.nodes.length := by rw [<- h.ln p (mog h1)]; exact he
  refine ⟨p, h1, e, p.nodes[e], gge he', ?_⟩
  rw [List.getD_eq_getElem?_getD, gge he, hle]
  exact hj
 ·rintro ⟨p, h1, e, n, h2, h3⟩
  refine ⟨p, h1, List.mem_flatten.2 ?_⟩
  rw [List.getD_eq_getElem?_getD] at h3
  cases hl : p.leads[e]? with
  | none => rw [hl] at h3; cases h3
  | some l => rw [hl] at h3; exact ⟨l, mog hl, h3⟩
def nedges (ps : List Plc) : Nat := lsum (ps.map λ p => ndiff p.leads.flatten)
end
section
variable {W : ByteArray -> Bool} {F : ByteArray -> ByteArray -> Bool} {c : Cf} {num : List Nat} {sub : Obr -> List Sub} {k : Obr} {N : Nat}
theorem AtEnd.gr (hN : AtEnd c num sub k N) : GrI c num sub (opened c num sub k N).1 (opened c num sub k N).1.length := by
 have h := opened_GrI N hN.2
 exact ⟨h.one, λ j p hj hp => h.op j p (Nat.lt_of_lt_of_le hj hN.1) hp⟩
theorem one_nf {x : Obr} (h : (one c num x).found = false) : (one c num x).nodes = [] := by
 unfold one at h ⊢
 split at h
 ·rfl
 ·cases h
end
namespace LTY
theorem clone_spec (v : Value) (xs : List Ty) (R : Rds) (h : RS R 2 Ty.enc v xs) (hl : xs.length <= 1000000) :
  Spec prog 160 [v] R [] λ v' H' => ∃ T, H' = [T] /\ OS 252 2 Ty.enc v' xs T := by
 obtain ⟨pr, cap, rfl⟩ := h.val
 have hx : ∀ H, RS (Rx R H) 2 Ty.enc (.slice pr xs.length cap) xs := λ H => h.rx
 refine Spec.segs (H' := [[]]) (by simp)<|Spec.body Tryz.func160 rfl Tryz.results160 Tryz.ntmps160 rfl<|.sr<|.ag rfl<|.zs<|.sr<|.mo rfl<|.q (.eqNilS rfl rfl)<|.zn<|.cond rfl (λ h1 => ?_) λ h1 => ?_
 refine .sr<|.az rfl<|.ret (seqQ_r (retQ_r _ (.one (.tmp rfl)) (.one [0] _) ?_))
 ·obtain rfl : pr = none := by simpa using h1
  have := h.none_nil
  subst this
  exact ⟨[], rfl, OS.nil⟩
 refine .kn<|.sr ?_
 refine .buildSlice0 (λ b5 => ?_)
 refine .mo rfl ?_
 refine .append (OS.empty (enc := Ty.enc) (sz := 2)) (hx _) (by simp; omega) (λ v' T' h3 => ?_)
 refine .az rfl<|.ret (retQ_r _ (.one (.tmp rfl)) (.one [0] _) ?_)
 ·exact ⟨T', by simp [take], by simpa using h3⟩
theorem indexF_spec (f : FuncId) (caps : List Value) [e : Ent prog f] (p : Ty -> Bool) (v : Value) (l : List Ty) (R : Rds) (h : RS R 2 Ty.enc v l) (hf : ∀ s ∈ l, ∀ R', (∀ b o, R b o -> R' b o) -> Spec prog f ((λ t : Ty => Value.agg t.enc.toArray) s :: caps) R' [] λ u H' => u = .bool (p s) /\ H' = []) :
  Spec prog 248 [v, .func (.func f) #[] caps.toArray] R [] λ u H' => (∃ k : Int, u = .int .i64 k /\ ((∃ (i : Nat) (x : Ty), l[i]? = some x /\ p x = true /\ (∀ j y, j < i -> l[j]? = some y -> p y = false) /\ k = i) \/ ((∀ y ∈ l, p y = false) /\ k = -1))) /\ H' = [] := by
 have hle := h.le
 refine Spec.body Tryz.func248 rfl Tryz.results248 Tryz.ntmps248 rfl<|.sr<|.ag rfl<|.zs<|.sr<|.mo rfl<|.q (.lenR h)<|.mo rfl<|.zn<|.block<|.loop (X := Nat) (λ i => i <= l.length /\ ∀ j z, j < i -> l[j]? = some z -> p z = false) (λ i => [(0, v), (1, .func (.func f) #[] caps.toArray), (7, .int .i64 l.length), (8, iN i)]) (λ _ => []) (λ i => l.length - i) 0 ⟨by omega, by omega⟩ kE.c.c.c.c rH ?_
 rintro i ⟨hi, hn⟩
 refine .sr<|.q .lss<|.zs<|.cond rfl (λ h1 => ?_) λ h1 => ?_
 have hlt : i < l.length := by simp at h1; omega
 obtain ⟨z, hz⟩ := exg hlt
 have hzm := mog hz
 have hzo := (⟨h.one z hzm⟩ : Ones (Ty.enc z))
 refine .kn<|.seq<|.block<|.sr<|.mo rfl<|.ag rfl<|.z<|.mo rfl<|.mo rfl<|.mo rfl ?_
 refine .indexR i h hz (λ pz => ?_)
 refine .q (.loadA rfl)<|.callRV (first := []) (captured := caps) (vs := [(λ t : Ty => Value.agg t.enc.toArray) z]) (hf z hzm _ λ b o hb => .inl hb) (λ u hu => ?_)
 subst hu
 refine .zn<|.cond rfl (λ h2 => ?_) λ h2 => ?_
 refine .sr<|.mo rfl<|.az rfl<|.ret (blkQ_r (seqQ_r (loopQ_r (blkQ_r (seqQ_r (rq1 rfl ?_))))))
 ·exact ⟨⟨_, rfl, .inl ⟨i, z, hz, h2, hn, rfl⟩⟩, rfl⟩
 refine .skip<|blkQ_n<|seqQ_n<|.region<|.q (.inc (n := i) (by omega))<|.mo rfl<|.nil ?_
 ·exact loopQ_i (i + 1) ⟨by omega, λ j y hj hy => by
   rcases Nat.lt_or_ge j i with hh | hh
   ·exact hn j y hh hy
   ·obtain rfl : j = i := by omega
    rw [hz] at hy; cases hy; exact h2⟩ (by omega) kE.c.c.c.c rH
 refine .exit<|seqQ_x<|loopQ_x<|blkQ_x<|seqQ_n<|.sr<|.az rfl<|.ret (rq1 rfl ?_)
 ·have he : i = l.length := by simp at h1; omega
  subst he
  refine ⟨⟨_, rfl, .inr ⟨λ y hy => ?_, rfl⟩⟩, rfl⟩
  obtain ⟨j, hj, rfl⟩ := List.mem_iff_getElem.1 hy
  exact hn j _ hj (gge hj)
theorem containsF_spec (f : FuncId) (caps : List Value) [e : Ent prog f] (p : Ty -> Bool) (v : Value) (l : List Ty) (R : Rds) (h : RS R 2 Ty.enc v l) (hf : ∀ s ∈ l, ∀ R', (∀ b o, R b o -> R' b o) -> Spec prog f ((λ t : Ty => Value.agg t.enc.toArray) s :: caps) R' [] λ u H' => u = .bool (p s) /\ H' = []) :
  Spec prog 194 [v, .func (.func f) #[] caps.toArray] R [] λ u H' => u = .bool (l.any p) /\ H' = [] := by
 refine Spec.body Tryz.func194 rfl Tryz.results194 Tryz.ntmps194 rfl<|.sr<|.ag rfl<|.z<|.mo rfl<|.mo rfl<|.callR (indexF_spec f caps p v l _ h.rx λ s hs R' hR => hf s hs R' λ b o hb => hR b o (.inl hb)) (λ u hu => ?_)
 obtain ⟨k, rfl, hk⟩ := hu
 have hkk : decide (0 <= k) = l.any p := by
  rcases hk with ⟨i, x, h1, h2, _, rfl⟩ | ⟨h1, rfl⟩
  ·rw [List.any_eq_true.2 ⟨x, mog h1, h2⟩]; simp
  ·rw [List.any_eq_false.2 λ y hy => by rw [h1 y hy]; simp]; rfl
 refine .q .geq<|.az rfl<|.ret (rq1 rfl ?_)
 ·exact ⟨by simp only [hkk], rfl⟩
end LTY
namespace LSC
theorem clone_spec (v : Value) (xs : List Sc) (R : Rds) (h : RS R 4 Sc.enc v xs) (hl : xs.length <= 1000000) :
  Spec prog 162 [v] R [] λ v' H' => ∃ T, H' = [T] /\ OS 209 4 Sc.enc v' xs T := by
 obtain ⟨pr, cap, rfl⟩ := h.val
 have hx : ∀ H, RS (Rx R H) 4 Sc.enc (.slice pr xs.length cap) xs := λ H => h.rx
 refine Spec.segs (H' := [[]]) (by simp)<|Spec.body Tryz.func162 rfl Tryz.results162 Tryz.ntmps162 rfl<|.sr<|.ag rfl<|.zs<|.sr<|.mo rfl<|.q (.eqNilS rfl rfl)<|.zn<|.cond rfl (λ h1 => ?_) λ h1 => ?_
 refine .sr<|.az rfl<|.ret (seqQ_r (retQ_r _ (.one (.tmp rfl)) (.one [0] _) ?_))
 ·obtain rfl : pr = none := by simpa using h1
  have := h.none_nil
  subst this
  exact ⟨[], rfl, OS.nil⟩
 refine .kn<|.sr ?_
 refine .buildSlice0 (λ b5 => ?_)
 refine .mo rfl ?_
 refine .append (OS.empty (enc := Sc.enc) (sz := 4)) (hx _) (by simp; omega) (λ v' T' h3 => ?_)
 refine .az rfl<|.ret (retQ_r _ (.one (.tmp rfl)) (.one [0] _) ?_)
 ·exact ⟨T', by simp [take], by simpa using h3⟩
theorem indexF_spec (f : FuncId) (caps : List Value) [e : Ent prog f] (p : Sc -> Bool) (v : Value) (l : List Sc) (R : Rds) (h : RS R 4 Sc.enc v l) (hf : ∀ s ∈ l, ∀ R', (∀ b o, R b o -> R' b o) -> Spec prog f ((λ t : Sc => Value.agg t.enc.toArray) s :: caps) R' [] λ u H' => u = .bool (p s) /\ H' = []) :
  Spec prog 249 [v, .func (.func f) #[] caps.toArray] R [] λ u H' => (∃ k : Int, u = .int .i64 k /\ ((∃ (i : Nat) (x : Sc), l[i]? = some x /\ p x = true /\ (∀ j y, j < i -> l[j]? = some y -> p y = false) /\ k = i) \/ ((∀ y ∈ l, p y = false) /\ k = -1))) /\ H' = [] := by
 have hle := h.le
 refine Spec.body Tryz.func249 rfl Tryz.results249 Tryz.ntmps249 rfl<|.sr<|.ag rfl<|.zs<|.sr<|.mo rfl<|.q (.lenR h)<|.mo rfl<|.zn<|.block<|.loop (X := Nat) (λ i => i <= l.length /\ ∀ j z, j < i -> l[j]? = some z -> p z = false) (λ i => [(0, v), (1, .func (.func f) #[] caps.toArray), (7, .int .i64 l.length), (8, iN i)]) (λ _ => []) (λ i => l.length - i) 0 ⟨by omega, by omega⟩ kE.c.c.c.c rH ?_
 rintro i ⟨hi, hn⟩
 refine .sr<|.q .lss<|.zs<|.cond rfl (λ h1 => ?_) λ h1 => ?_
 have hlt : i < l.length := by simp at h1; omega
 obtain ⟨z, hz⟩ := exg hlt
 have hzm := mog hz
 have hzo := (⟨h.one z hzm⟩ : Ones (Sc.enc z))
 refine .kn<|.seq<|.block<|.sr<|.mo rfl<|.ag rfl<|.z<|.mo rfl<|.mo rfl<|.mo rfl ?_
 refine .indexR i h hz (λ pz => ?_)
 refine .q (.loadA rfl)<|.callRV (first := []) (captured := caps) (vs := [(λ t : Sc => Value.agg t.enc.toArray) z]) (hf z hzm _ λ b o hb => .inl hb) (λ u hu => ?_)
 subst hu
 refine .zn<|.cond rfl (λ h2 => ?_) λ h2 => ?_
 refine .sr<|.mo rfl<|.az rfl<|.ret (blkQ_r (seqQ_r (loopQ_r (blkQ_r (seqQ_r (rq1 rfl ?_))))))
 ·exact ⟨⟨_, rfl, .inl ⟨i, z, hz, h2, hn, rfl⟩⟩, rfl⟩
 refine .skip<|blkQ_n<|seqQ_n<|.region<|.q (.inc (n := i) (by omega))<|.mo rfl<|.nil ?_
 ·exact loopQ_i (i + 1) ⟨by omega, λ j y hj hy => by
   rcases Nat.lt_or_ge j i with hh | hh
   ·exact hn j y hh hy
   ·obtain rfl : j = i := by omega
    rw [hz] at hy; cases hy; exact h2⟩ (by omega) kE.c.c.c.c rH
 refine .exit<|seqQ_x<|loopQ_x<|blkQ_x<|seqQ_n<|.sr<|.az rfl<|.ret (rq1 rfl ?_)
 ·have he : i = l.length := by simp at h1; omega
  subst he
  refine ⟨⟨_, rfl, .inr ⟨λ y hy => ?_, rfl⟩⟩, rfl⟩
  obtain ⟨j, hj, rfl⟩ := List.mem_iff_getElem.1 hy
  exact hn j _ hj (gge hj)
theorem containsF_spec (f : FuncId) (caps : List Value) [e : Ent prog f] (p : Sc -> Bool) (v : Value) (l : List Sc) (R : Rds) (h : RS R 4 Sc.enc v l) (hf : ∀ s ∈ l, ∀ R', (∀ b o, R b o -> R' b o) -> Spec prog f ((λ t : Sc => Value.agg t.enc.toArray) s :: caps) R' [] λ u H' => u = .bool (p s) /\ H' = []) :
  Spec prog 197 [v, .func (.func f) #[] caps.toArray] R [] λ u H' => u = .bool (l.any p) /\ H' = [] := by
 refine Spec.body Tryz.func197 rfl Tryz.results197 Tryz.ntmps197 rfl<|.sr<|.ag rfl<|.z<|.mo rfl<|.mo rfl<|.callR (indexF_spec f caps p v l _ h.rx λ s hs R' hR => hf s hs R' λ b o hb => hR b o (.inl hb)) (λ u hu => ?_)
 obtain ⟨k, rfl, hk⟩ := hu
 have hkk : decide (0 <= k) = l.any p := by
  rcases hk with ⟨i, x, h1, h2, _, rfl⟩ | ⟨h1, rfl⟩
  ·rw [List.any_eq_true.2 ⟨x, mog h1, h2⟩]; simp
  ·rw [List.any_eq_false.2 λ y hy => by rw [h1 y hy]; simp]; rfl
 refine .q .geq<|.az rfl<|.ret (rq1 rfl ?_)
 ·exact ⟨by simp only [hkk], rfl⟩
end LSC
namespace LRE
theorem indexF_spec (f : FuncId) (caps : List Value) [e : Ent prog f] (p : RlM -> Bool) (v : Value) (l : List RlM) (R : Rds) (h : RS R 3 RlM.enc v l) (hf : ∀ s ∈ l, ∀ R', (∀ b o, R b o -> R' b o) -> Spec prog f ((λ t : RlM => Value.agg t.enc.toArray) s :: caps) R' [] λ u H' => u = .bool (p s) /\ H' = []) :
  Spec prog 232 [v, .func (.func f) #[] caps.toArray] R [] λ u H' => (∃ k : Int, u = .int .i64 k /\ ((∃ (i : Nat) (x : RlM), l[i]? = some x /\ p x = true /\ (∀ j y, j < i -> l[j]? = some y -> p y = false) /\ k = i) \/ ((∀ y ∈ l, p y = false) /\ k = -1))) /\ H' = [] := by
 have hle := h.le
 refine Spec.body Tryz.func232 rfl Tryz.results232 Tryz.ntmps232 rfl<|.sr<|.ag rfl<|.zs<|.sr<|.mo rfl<|.q (.lenR h)<|.mo rfl<|.zn<|.block<|.loop (X := Nat) (λ i => i <= l.length /\ ∀ j z, j < i -> l[j]? = some z -> p z = false) (λ i => [(0, v), (1, .func (.func f) #[] caps.toArray), (7, .int .i64 l.length), (8, iN i)]) (λ _ => []) (λ i => l.length - i) 0 ⟨by omega, by omega⟩ kE.c.c.c.c rH ?_
 rintro i ⟨hi, hn⟩
 refine .sr<|.q .lss<|.zs<|.cond rfl (λ h1 => ?_) λ h1 => ?_
 have hlt : i < l.length := by simp at h1; omega
 obtain ⟨z, hz⟩ := exg hlt
 have hzm := mog hz
 have hzo := (⟨h.one z hzm⟩ : Ones (RlM.enc z))
 refine .kn<|.seq<|.block<|.sr<|.mo rfl<|.ag rfl<|.z<|.mo rfl<|.mo rfl<|.mo rfl ?_
 refine .indexR i h hz (λ pz => ?_)
 refine .q (.loadA rfl)<|.callRV (first := []) (captured := caps) (vs := [(λ t : RlM => Value.agg t.enc.toArray) z]) (hf z hzm _ λ b o hb => .inl hb) (λ u hu => ?_)
 subst hu
 refine .zn<|.cond rfl (λ h2 => ?_) λ h2 => ?_
 refine .sr<|.mo rfl<|.az rfl<|.ret (blkQ_r (seqQ_r (loopQ_r (blkQ_r (seqQ_r (rq1 rfl ?_))))))
 ·exact ⟨⟨_, rfl, .inl ⟨i, z, hz, h2, hn, rfl⟩⟩, rfl⟩
 refine .skip<|blkQ_n<|seqQ_n<|.region<|.q (.inc (n := i) (by omega))<|.mo rfl<|.nil ?_
 ·exact loopQ_i (i + 1) ⟨by omega, λ j y hj hy => by
   rcases Nat.lt_or_ge j i with hh | hh
   ·exact hn j y hh hy
   ·obtain rfl : j = i := by omega
    rw [hz] at hy; cases hy; exact h2⟩ (by omega) kE.c.c.c.c rH
 refine .exit<|seqQ_x<|loopQ_x<|blkQ_x<|seqQ_n<|.sr<|.az rfl<|.ret (rq1 rfl ?_)
 ·have he : i = l.length := by simp at h1; omega
  subst he
  refine ⟨⟨_, rfl, .inr ⟨λ y hy => ?_, rfl⟩⟩, rfl⟩
  obtain ⟨j, hj, rfl⟩ := List.mem_iff_getElem.1 hy
  exact hn j _ hj (gge hj)
theorem containsF_spec (f : FuncId) (caps : List Value) [e : Ent prog f] (p : RlM -> Bool) (v : Value) (l : List RlM) (R : Rds) (h : RS R 3 RlM.enc v l) (hf : ∀ s ∈ l, ∀ R', (∀ b o, R b o -> R' b o) -> Spec prog f ((λ t : RlM => Value.agg t.enc.toArray) s :: caps) R' [] λ u H' => u = .bool (p s) /\ H' = []) :
  Spec prog 180 [v, .func (.func f) #[] caps.toArray] R [] λ u H' => u = .bool (l.any p) /\ H' = [] := by
 refine Spec.body Tryz.func180 rfl Tryz.results180 Tryz.ntmps180 rfl<|.sr<|.ag rfl<|.z<|.mo rfl<|.mo rfl<|.callR (indexF_spec f caps p v l _ h.rx λ s hs R' hR => hf s hs R' λ b o hb => hR b o (.inl hb)) (λ u hu => ?_)
 obtain ⟨k, rfl, hk⟩ := hu
 have hkk : decide (0 <= k) = l.any p := by
  rcases hk with ⟨i, x, h1, h2, _, rfl⟩ | ⟨h1, rfl⟩
  ·rw [List.any_eq_true.2 ⟨x, mog h1, h2⟩]; simp
  ·rw [List.any_eq_false.2 λ y hy => by rw [h1 y hy]; simp]; rfl
 refine .q .geq<|.az rfl<|.ret (rq1 rfl ?_)
 ·exact ⟨by simp only [hkk], rfl⟩
end LRE
namespace LND
theorem clone_spec (v : Value) (xs : List Nd) (R : Rds) (h : RS R 5 Nd.enc v xs) (hl : xs.length <= 1000000) :
  Spec prog 161 [v] R [] λ v' H' => ∃ T, H' = [T] /\ OS 168 5 Nd.enc v' xs T := by
 obtain ⟨pr, cap, rfl⟩ := h.val
 have hx : ∀ H, RS (Rx R H) 5 Nd.enc (.slice pr xs.length cap) xs := λ H => h.rx
 refine Spec.segs (H' := [[]]) (by simp)<|Spec.body Tryz.func161 rfl Tryz.results161 Tryz.ntmps161 rfl<|.sr<|.ag rfl<|.zs<|.sr<|.mo rfl<|.q (.eqNilS rfl rfl)<|.zn<|.cond rfl (λ h1 => ?_) λ h1 => ?_
 refine .sr<|.az rfl<|.ret (seqQ_r (retQ_r _ (.one (.tmp rfl)) (.one [0] _) ?_))
 ·obtain rfl : pr = none := by simpa using h1
  have := h.none_nil
  subst this
  exact ⟨[], rfl, OS.nil⟩
 refine .kn<|.sr ?_
 refine .buildSlice0 (λ b5 => ?_)
 refine .mo rfl ?_
 refine .append (OS.empty (enc := Nd.enc) (sz := 5)) (hx _) (by simp; omega) (λ v' T' h3 => ?_)
 refine .az rfl<|.ret (retQ_r _ (.one (.tmp rfl)) (.one [0] _) ?_)
 ·exact ⟨T', by simp [take], by simpa using h3⟩
end LND
section
variable {c : Cf} {num : List Nat} {sub : Obr -> List Sub} {k : Obr}
theorem AtEnd.ex {B : Nat} (h : ∀ i, (opened c num sub k i).1.length <= B) : ∃ N, AtEnd c num sub k N := by
 have key : ∀ m, (∃ N, N <= m /\ AtEnd c num sub k N) \/ ∀ j, j <= m -> j < (opened c num sub k j).1.length := by
  intro m
  induction m with
  | zero =>
   refine .inr λ j hj => ?_
   obtain rfl : j = 0 := by omega
   simp [opened]
  | succ m ih =>
   rcases ih with ⟨N, h1, h2⟩ | ih
   ·exact .inl ⟨N, by omega, h2⟩
   ·by_cases h1 : m + 1 < (opened c num sub k (m + 1)).1.length
    ·exact .inr λ j hj => by
      rcases Nat.lt_or_ge j (m + 1) with h2 | h2
      ·exact ih j (by omega)
      ·obtain rfl : j = m + 1 := by omega
       exact h1
    ·exact .inl ⟨m + 1, Nat.le_refl _, by omega, λ j hj => ih j (by omega)⟩
 rcases key (B + 1) with ⟨N, _, h1⟩ | h1
 ·exact ⟨N, h1⟩
 ·have := h1 (B + 1) (Nat.le_refl _)
  have := h (B + 1)
  omega
def disc (c : Cf) (num : List Nat) (sub : Obr -> List Sub) (k : Obr) (b : Int) (can : Bool) (N : Nat) : List Plc × Nat × Int :=
 if b < 1 then ([], 0, 2) else if can = false then ([], 0, 12)
 else if (((opened c num sub k N).1.length + (opened c num sub k N).2 : Nat) : Int) <= b then ((opened c num sub k N).1, (opened c num sub k N).2, 0) else ([], 0, 16)
theorem fresh_grown {P : Obr -> Prop} {a b : List Plc} (h : Grown c num P a b) {i : Nat} (ha : ∀ j p, i <= j -> a[j]? = some p -> p = one c num p.k) : ∀ j p, i <= j -> b[j]? = some p -> p = one c num p.k := by
 obtain ⟨⟨l, rfl, hl⟩, _⟩ := h
 intro j p hj hp
 rcases Nat.lt_or_ge j a.length with h1 | h1
 ·rw [List.getElem?_append_left h1] at hp
  exact ha j p hj hp
 ·rw [List.getElem?_append_right h1] at hp
  exact (hl p (mog hp)).2
theorem opened_fresh : ∀ (i : Nat) (j : Nat) (p : Plc), i <= j -> (opened c num sub k i).1[j]? = some p -> p = one c num p.k
 | 0, j, p, _, hp => by
  have := mog hp
  simp only [opened, List.mem_singleton] at this
  subst this
  rw [one_k]
 | i + 1, j, p, hj, hp => by
  have ih := λ j p hj hp => opened_fresh i j p hj hp
  change (openP c num sub (opened c num sub k i).1 i).1[j]? = some p at hp
  unfold openP at hp
  split at hp
  ·exact ih j p (by omega) hp
  ·rw [List.getElem?_set_ne (by omega)] at hp
   exact fresh_grown (addNs_grown _ _ _) ih j p (by omega) hp
theorem openP_nf {ps : List Plc} {i : Nat} {p : Plc} (hp : ps[i]? = some p) (h1 : p = one c num p.k) (hf : p.found = false) : openP c num sub ps i = (ps, 0) := by
 have hn : p.nodes = [] := by rw [h1]; exact one_nf (by rw [<- h1]; exact hf)
 have hu : p.users = [] /\ p.leads = [] := by
  rw [h1]
  unfold one
  split <;> exact ⟨rfl, rfl⟩
 obtain ⟨u1, u2⟩ := hu
 obtain ⟨k, f, n, m, u, l⟩ := p
 simp only at u1 u2 hn hf
 subst u1 u2 hn hf
 unfold openP
 rw [hp]
 simp only [addNs, Bool.false_eq_true, if_false]
 refine Prod.ext ?_ rfl
 refine List.ext_getElem? λ j => ?_
 rw [List.getElem?_set]
 split
 ·rename_i e; subst e
  have := (List.getElem?_eq_some_iff.1 hp).1
  rw [if_pos this, hp]
 ·rfl
theorem addKs_snoc : ∀ (ks : List Obr) (ps : List Plc) (x : Obr), addKs c num ps (ks ++ [x]) = ((addK c num (addKs c num ps ks).1 x).1, (addKs c num ps ks).2 ++ [(addK c num (addKs c num ps ks).1 x).2])
 | [], ps, x => rfl
 | y :: ks, ps, x => by
  rw [List.cons_append, addKs, addKs_snoc ks _ x]
  rfl
theorem addNs_snoc (y : Obr) : ∀ (ns : List Nd) (ps : List Plc) (n : Nd), addNs c num sub y ps (ns ++ [n]) = ((addKs c num (addNs c num sub y ps ns).1 (aheadK c sub y n)).1, (addNs c num sub y ps ns).2 ++ [(addKs c num (addNs c num sub y ps ns).1 (aheadK c sub y n)).2])
 | [], ps, n => rfl
 | m :: ns, ps, n => by
  rw [List.cons_append, addNs, addNs_snoc y ns _ n]
  rfl
theorem addKs_take {ks : List Obr} {i : Nat} {x : Obr} (h : ks[i]? = some x) (ps : List Plc) : addKs c num ps (ks.take (i + 1)) = ((addK c num (addKs c num ps (ks.take i)).1 x).1, (addKs c num ps (ks.take i)).2 ++ [(addK c num (addKs c num ps (ks.take i)).1 x).2]) := by
 rw [show ks.take (i + 1) = ks.take i ++ [x] by rw [List.take_add_one, h]; rfl, addKs_snoc]
theorem addNs_take {ns : List Nd} {i : Nat} {n : Nd} (h : ns[i]? = some n) (y : Obr) (ps : List Plc) : addNs c num sub y ps (ns.take (i + 1)) = ((addKs c num (addNs c num sub y ps (ns.take i)).1 (aheadK c sub y n)).1, (addNs c num sub y ps (ns.take i)).2 ++ [(addKs c num (addNs c num sub y ps (ns.take i)).1 (aheadK c sub y n)).2]) := by
 rw [show ns.take (i + 1) = ns.take i ++ [n] by rw [List.take_add_one, h]; rfl, addNs_snoc]
theorem addKs_app : ∀ (a b : List Obr) (ps : List Plc), (addKs c num ps (a ++ b)).1 = (addKs c num (addKs c num ps a).1 b).1
 | [], b, ps => rfl
 | x :: a, b, ps => by rw [List.cons_append, addKs, addKs]; exact addKs_app a b _
theorem addNs_app (y : Obr) : ∀ (a b : List Nd) (ps : List Plc), (addNs c num sub y ps (a ++ b)).1 = (addNs c num sub y (addNs c num sub y ps a).1 b).1
 | [], b, ps => rfl
 | x :: a, b, ps => by rw [List.cons_append, addNs, addNs]; exact addNs_app y a b _
theorem addKs_le (ks : List Obr) (i : Nat) (ps : List Plc) : (addKs c num ps (ks.take i)).1.length <= (addKs c num ps ks).1.length := by
 have h := addKs_app (c := c) (num := num) (ks.take i) (ks.drop i) ps
 rw [List.take_append_drop] at h
 rw [h]
 exact (addKs_grown _ _).len
theorem addNs_le (y : Obr) (ns : List Nd) (i : Nat) (ps : List Plc) : (addNs c num sub y ps (ns.take i)).1.length <= (addNs c num sub y ps ns).1.length := by
 have h := addNs_app (c := c) (num := num) (sub := sub) y (ns.take i) (ns.drop i) ps
 rw [List.take_append_drop] at h
 rw [h]
 exact (addNs_grown _ _ _).len
theorem addKs_ge (ks : List Obr) (ps : List Plc) : ps.length <= (addKs c num ps ks).1.length := (addKs_grown _ _).len
theorem addNs_ge (y : Obr) (ns : List Nd) (ps : List Plc) : ps.length <= (addNs c num sub y ps ns).1.length := (addNs_grown _ _ _).len
def seenL (a : List Nat) (l : List Nat) : List Nat := l.foldl (λ a x => if x ∈ a then a else a ++ [x]) a
theorem seenL_app (a l m : List Nat) : seenL a (l ++ m) = seenL (seenL a l) m := List.foldl_append
theorem seenL_one (a : List Nat) (x : Nat) : seenL a [x] = if x ∈ a then a else a ++ [x] := rfl
theorem seenL_take {l : List Nat} {i x : Nat} (h : l[i]? = some x) (a : List Nat) : seenL a (l.take (i + 1)) = if x ∈ seenL a (l.take i) then seenL a (l.take i) else seenL a (l.take i) ++ [x] := by
 rw [show l.take (i + 1) = l.take i ++ [x] by rw [List.take_add_one, h]; rfl, seenL_app, seenL_one]
theorem openP_eq {ps : List Plc} {i : Nat} {p : Plc} (hp : ps[i]? = some p) : openP c num sub ps i = ((addNs c num sub p.k ps p.nodes).1.set i { p with users := if p.found then usersOf c sub p.k else [], leads := (addNs c num sub p.k ps p.nodes).2 }, ndiff (addNs c num sub p.k ps p.nodes).2.flatten) := by unfold openP; rw [hp]
theorem opened_succ (i : Nat) : opened c num sub k (i + 1) = ((openP c num sub (opened c num sub k i).1 i).1, (opened c num sub k i).2 + (openP c num sub (opened c num sub k i).1 i).2) := rfl
end
def DeadS (R : Rds) (p : Value) : Prop := p = .pointer none \/ ∃ q, p = pT q /\ R q (.cells [.bool false, .int .u64 0, .int .u64 0, .int .i64 0, .map none, .map none].toArray 89 (0, 0))
theorem DeadS.rx {R : Rds} {H : Segs} {p : Value} (h : DeadS R p) : DeadS (Rx R H) p := h.imp id λ ⟨q, h1, h2⟩ => ⟨q, h1, .inl h2⟩
theorem DeadS.mono {R R' : Rds} {p : Value} (h : DeadS R p) (hR : ∀ b o, R b o -> R' b o) : DeadS R' p := h.imp id λ ⟨q, h1, h2⟩ => ⟨q, h1, hR _ _ h2⟩
theorem DeadS.one {R : Rds} {p : Value} (h : DeadS R p) : One p := ⟨by rcases h with rfl | ⟨q, rfl, _⟩ <;> rfl⟩
theorem sdok_nil (R : Rds) : Spec prog 94 [.pointer none] R [] λ v H' => v = .bool false /\ H' = [] := by
 refine Spec.body Tryz.func94 rfl Tryz.results94 Tryz.ntmps94 rfl<|.sr<|.ag rfl<|.z<|.mo rfl<|.q (.neNilA rfl rfl)<|.mo rfl<|.gX<|.gX<|.gX<|.gX<|.q .pickF<|.az rfl<|.ret (rq1 rfl ?_)
 ·exact ⟨rfl, rfl⟩
theorem sdok_zero (q : Nat) (R : Rds) [pc : PC R (pT q) [.bool false, .int .u64 0, .int .u64 0, .int .i64 0, .map none, .map none]] : Spec prog 94 [pT q] R [] λ v H' => v = .bool false /\ H' = [] := by
 refine Spec.body Tryz.func94 rfl Tryz.results94 Tryz.ntmps94 rfl<|.sr<|.ag rfl<|.z<|.mo rfl<|.q (.neNilP rfl rfl)<|.mo rfl<|.gt rfl<|.mo rfl<|.gt rfl<|.nc rfl<|.gt rfl<|.fa rfl<|.gt rfl<|.lo rfl<|.q .pickT<|.az rfl<|.ret (rq1 rfl ?_)
 ·exact ⟨rfl, rfl⟩
theorem sdok_spec (p : Value) (R : Rds) (h : DeadS R p) : Spec prog 94 [p] R [] λ v H' => v = .bool false /\ H' = [] := by
 rcases h with rfl | ⟨q, rfl, hq⟩
 ·exact sdok_nil R
 ·have pc := PC.of hq
  exact sdok_zero q R
theorem sdRead_spec (p : Value) (f : Tpl) (r : Int) (R : Rds) (h : DeadS R p) : Spec prog 92 [p, .agg f.enc.toArray, .int .u64 r] R [] λ v H' => v = .tuple [sZ, .int .i64 1].toArray /\ H' = [] := by
 refine Spec.body Tryz.func92 rfl Tryz.results92 Tryz.ntmps92 rfl<|.sr ?_
 refine .boxA rfl (λ b4 => ?_)
 refine .ag rfl<|.ag rfl<|.zs<|.block<|.sr<|.mo rfl<|.callR (sdok_spec p _ h.rx) (λ v hv => ?_)
 subst hv
 refine .q .not<|.az rfl<|.condT<|.sr<|.ag rfl<|.az rfl<|.ret (blkQ_r (seqQ_r (retQ_r _ (.two (.tmp rfl) (.tmp rfl)) (.none _) ?_)))
 ·exact ⟨rfl, rfl⟩
theorem SOK.new0 : SOK ⟨[], 0, 0⟩ := ⟨by simp, by simp, by simp, by simp, by simp, by simp⟩
end Go.Proofs.YtenilfmlfldogaaGreat
