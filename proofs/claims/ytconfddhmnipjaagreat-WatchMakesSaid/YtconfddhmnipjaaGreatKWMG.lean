/- What the law 'WM' uses of this prover's engine, facts and walks. No condition. -/
import Derived.Test.YtconfddhmnipjaaGreatKWMB
import Derived.Test.YtconfddhmnipjaaGreatKWME
import Derived.Test.YtconfddhmnipjaaGreatKWMF
set_option linter.unusedVariables false
namespace Go.Proofs.YtconfddhmnipjaaGreat
theorem Spec.ofCalls {P : Program} {f : FuncId} {args : List Value} {v : Value} (h : ∀ w, Calls P f args.toArray w fun e w' => e = .returned v ∧ w' = w) (R : Rds) : Spec P f args R [] fun u H' => u = v ∧ H' = [] :=
  fun w _ _ => (h w).mono fun e w' ⟨h1, h2⟩ => ⟨v, [], h1, ⟨rfl, rfl⟩, by subst h2; exact ⟨by simp, by simp⟩, by subst h2; exact .refl _ _⟩
def scmp (a b : ByteArray) : Int := Lib.compareBytes a.data.toList b.data.toList
theorem cb_lt : ∀ (a b : List UInt8), Lib.compareBytes a b < 0 ↔ Op.bytesLess a b = true
  | [], [] => by simp [Lib.compareBytes, Op.bytesLess]
  | [], _ :: _ => by simp [Lib.compareBytes, Op.bytesLess]
  | _ :: _, [] => by simp [Lib.compareBytes, Op.bytesLess]
  | x :: a, y :: b => by
    have ih := cb_lt a b
    simp only [Lib.compareBytes, Op.bytesLess, Bool.or_eq_true, Bool.and_eq_true, decide_eq_true_eq, beq_iff_eq]
    by_cases h1 : x < y
    · simp [h1]
    · by_cases h2 : y < x
      · have : x ≠ y := fun e => by subst e; exact UInt8.lt_irrefl _ h2
        simp [h1, h2, this]
      · have : x = y := UInt8.le_antisymm (UInt8.not_lt.1 h2) (UInt8.not_lt.1 h1)
        subst this
        simp [h1, ih]
theorem cb_gt : ∀ (a b : List UInt8), 0 < Lib.compareBytes a b ↔ Op.bytesLess b a = true
  | [], [] => by simp [Lib.compareBytes, Op.bytesLess]
  | [], _ :: _ => by simp [Lib.compareBytes, Op.bytesLess]
  | _ :: _, [] => by simp [Lib.compareBytes, Op.bytesLess]
  | x :: a, y :: b => by
    have ih := cb_gt a b
    simp only [Lib.compareBytes, Op.bytesLess, Bool.or_eq_true, Bool.and_eq_true, decide_eq_true_eq, beq_iff_eq]
    by_cases h1 : x < y
    · have h2 : ¬ y < x := fun h => UInt8.lt_irrefl _ (UInt8.lt_trans h1 h)
      have : ¬ y = x := fun e => by subst e; exact UInt8.lt_irrefl _ h1
      simp [h1, h2, this]
    · by_cases h2 : y < x
      · simp [h1, h2]
      · have : x = y := UInt8.le_antisymm (UInt8.not_lt.1 h2) (UInt8.not_lt.1 h1)
        subst this
        simp [h1, ih]
theorem cb_eq : ∀ (a b : List UInt8), Lib.compareBytes a b = 0 ↔ a = b
  | [], [] => by simp [Lib.compareBytes]
  | [], _ :: _ => by simp [Lib.compareBytes]
  | _ :: _, [] => by simp [Lib.compareBytes]
  | x :: a, y :: b => by
    have ih := cb_eq a b
    simp only [Lib.compareBytes, List.cons.injEq]
    by_cases h1 : x < y
    · have : ¬ x = y := fun e => by subst e; exact UInt8.lt_irrefl _ h1
      simp [h1, this]
    · by_cases h2 : y < x
      · have : ¬ x = y := fun e => by subst e; exact UInt8.lt_irrefl _ h2
        simp [h1, h2, this]
      · have : x = y := UInt8.le_antisymm (UInt8.not_lt.1 h2) (UInt8.not_lt.1 h1)
        subst this
        simp [h1, ih]
theorem bl_trans : ∀ (a b c : List UInt8), Op.bytesLess a b = true → Op.bytesLess b c = true → Op.bytesLess a c = true
  | _, [], _, h, _ => by simp [Op.bytesLess] at h
  | _, _ :: _, [], _, h => by simp [Op.bytesLess] at h
  | [], _ :: _, _ :: _, _, _ => by simp [Op.bytesLess]
  | x :: a, y :: b, z :: c, h1, h2 => by
    simp only [Op.bytesLess, Bool.or_eq_true, Bool.and_eq_true, decide_eq_true_eq, beq_iff_eq] at h1 h2 ⊢
    rcases h1 with h1 | ⟨rfl, h1⟩
    · rcases h2 with h2 | ⟨rfl, h2⟩
      · exact .inl (UInt8.lt_trans h1 h2)
      · exact .inl h1
    · rcases h2 with h2 | ⟨rfl, h2⟩
      · exact .inl h2
      · exact .inr ⟨rfl, bl_trans a b c h1 h2⟩
theorem sLt_iff {a b : ByteArray} : sLt a b = true ↔ scmp a b < 0 := by
  unfold sLt scmp; rw [ByteArray.toList_eq, ByteArray.toList_eq, cb_lt]
theorem sLt_iff' {a b : ByteArray} : sLt b a = true ↔ 0 < scmp a b := by
  unfold sLt scmp; rw [ByteArray.toList_eq, ByteArray.toList_eq, cb_gt]
theorem scmp_eq {a b : ByteArray} : scmp a b = 0 ↔ a = b := by
  unfold scmp
  rw [cb_eq]
  exact ⟨fun h => ByteArray.ext (Array.toList_inj.1 h), fun h => by rw [h]⟩
theorem sLt_irr (a : ByteArray) : sLt a a = false := by
  cases h : sLt a a with
  | false => rfl
  | true => have := sLt_iff.1 h; rw [scmp_eq.2 rfl] at this; omega
theorem sLt_trans {a b c : ByteArray} (h1 : sLt a b = true) (h2 : sLt b c = true) : sLt a c = true := by
  unfold sLt at *; exact bl_trans _ _ _ h1 h2
theorem sLt_conn {a b : ByteArray} (h1 : sLt a b = false) (h2 : sLt b a = false) : a = b := by
  refine scmp_eq.1 ?_
  rcases Int.lt_trichotomy (scmp a b) 0 with h | h | h
  · rw [sLt_iff.2 h] at h1; cases h1
  · exact h
  · rw [sLt_iff'.2 h] at h2; cases h2
theorem sLt_so : SO sLt := ⟨sLt_irr, fun _ _ _ => sLt_trans, fun x y z h1 h2 => by
  cases h : sLt x z with
  | false => rfl
  | true =>
    cases h3 : sLt y x with
    | true => rw [sLt_trans h3 h] at h2; cases h2
    | false => have := sLt_conn h1 h3; subst this; rw [h] at h2; cases h2⟩
theorem compare_spec (a b : ByteArray) (R : Rds) : Spec Tryz.prog 102 [.string a, .string b] R [] fun v H' => v = .int .i64 (scmp a b) ∧ H' = [] :=
  Spec.ofCalls (Tryz.strings_Compare a b) R
def icmp (a b : Int) : Int := if a < b then -1 else if b < a then 1 else 0
def orI : List Int → Int
  | [] => 0
  | x :: l => if x = 0 then orI l else x
def encI (x : Int) : List Value := [.int .i64 x]
def encS (s : ByteArray) : List Value := [.string s]
theorem orI_skip {l : List Int} {i : Nat} (h : ∀ j x, j < i → l[j]? = some x → x = 0) : orI l = orI (l.drop i) := by
  induction i generalizing l with
  | zero => simp
  | succ i ih =>
    cases l with
    | nil => simp
    | cons x l =>
      have : x = 0 := h 0 x (by omega) rfl
      subst this
      simp only [orI, if_true, List.drop_succ_cons]
      exact ih fun j x hj hx => h (j + 1) x (by omega) (by simpa using hx)
theorem or_spec (v : Value) (l : List Int) (R : Rds) (h : RS R 1 encI v l) : Spec Tryz.prog 50 [v] R [] fun u H' => u = .int .i64 (orI l) ∧ H' = [] := by
  have hle := h.le
  refine Spec.body Tryz.func50 rfl Tryz.results50 Tryz.ntmps50 rfl ?_
  refine .seq (.region ?_)
  refine .q .assign ?_
  refine .nil (seqQ_n ?_)
  refine .seq (.region ?_)
  refine .q .assign ?_
  refine .nil (seqQ_n ?_)
  refine .seq ?_
  refine .seq (.region ?_)
  refine .q .move ?_
  refine .q (.lenR h) ?_
  refine .q .move ?_
  refine .nil (seqQ_n ?_)
  refine .block ?_
  refine .loop (X := Nat) (fun i => i ≤ l.length ∧ ∀ j x, j < i → l[j]? = some x → x = 0) (fun i => [(3, .int .i64 0), (6, v), (7, .int .i64 l.length), (8, .int .i64 (i : Nat))]) (fun _ => []) (fun i => l.length - i) 0 ⟨by omega, by omega⟩ (((((EnvLe.nil _).cons rfl).cons rfl).cons rfl).cons rfl) (HLe.refl _) ?_
  rintro i ⟨hi, hz⟩
  refine .seq (.region ?_)
  refine .q .lss ?_
  refine .nil (seqQ_n ?_)
  refine .seq ?_
  refine .cond rfl (fun h1 => ?_) (fun h1 => ?_)
  have hlt : i < l.length := by simp at h1; omega
  obtain ⟨z, hzz⟩ : ∃ z, l[i]? = some z := ⟨_, List.getElem?_eq_getElem hlt⟩
  refine .skip ?_
  refine seqQ_n ?_
  refine .seq ?_
  refine .block ?_
  refine .seq (.region ?_)
  refine TriOps.indexR i h hzz (fun pz => ?_)
  refine .q (.load1 rfl) ?_
  refine .q .assign ?_
  refine .nil (seqQ_n ?_)
  refine .seq (.region ?_)
  refine .q .move ?_
  refine .q .move ?_
  refine .q .neI ?_
  refine .nil (seqQ_n ?_)
  refine .cond rfl (fun h2 => ?_) (fun h2 => ?_)
  refine .seq (.region ?_)
  refine .q .move ?_
  refine .q .assign ?_
  refine .nil (seqQ_n ?_)
  refine .ret (blkQ_r (seqQ_r (loopQ_r (blkQ_r (seqQ_r (retQ_r _ (.one (.tmp rfl)) (.none _) ?_))))))
  · refine ⟨?_, rfl⟩
    have h2' : z ≠ 0 := by simpa using h2
    rw [orI_skip hz, List.drop_eq_getElem_cons hlt]
    rw [List.getElem?_eq_getElem hlt] at hzz
    cases hzz
    simp [orI, h2']
  refine .skip ?_
  refine blkQ_n (seqQ_n ?_)
  refine .region ?_
  refine .q (.inc (n := i) (by omega)) ?_
  refine .q .move ?_
  refine .nil ?_
  · exact loopQ_i (i + 1) ⟨by omega, fun j x hj hx => by
      rcases Nat.lt_or_ge j i with hh | hh
      · exact hz j x hh hx
      · obtain rfl : j = i := by omega
        rw [hzz] at hx; cases hx; simpa using h2⟩ (by omega) (((((EnvLe.nil _).cons rfl).cons rfl).cons rfl).cons rfl) (HLe.refl _)
  refine .exit (seqQ_x (loopQ_x (blkQ_x ?_)))
  refine seqQ_n ?_
  refine .seq (.region ?_)
  refine .q .move ?_
  refine .q .assign ?_
  refine .nil (seqQ_n ?_)
  refine .ret (retQ_r _ (.one (.tmp rfl)) (.none _) ?_)
  · refine ⟨?_, rfl⟩
    have : i = l.length := by simp at h1; omega
    rw [orI_skip hz, this]; simp [orI]
end Go.Proofs.YtconfddhmnipjaaGreat
set_option linter.unusedVariables false
namespace Go.Proofs.YtconfddhmnipjaaGreat
structure CmpOK {α : Type} (c : α → α → Int) : Prop where
  sw : ∀ x y, c x y < 0 ↔ 0 < c y x
  tr : ∀ x y z, c x y ≤ 0 → c y z ≤ 0 → c x z ≤ 0
  tl : ∀ x y z, c x y < 0 → c y z ≤ 0 → c x z < 0
section
variable {α β : Type} {c d : α → α → Int}
theorem CmpOK.refl (h : CmpOK c) (x : α) : c x x = 0 := by have := h.sw x x; omega
theorem CmpOK.zero_sw (h : CmpOK c) {x y : α} (h0 : c x y = 0) : c y x = 0 := by have h1 := h.sw x y; have h2 := h.sw y x; omega
theorem CmpOK.t2 (h : CmpOK c) (x y z : α) (h1 : c x y ≤ 0) (h2 : c y z < 0) : c x z < 0 := by
  have h3 := h.tr x y z h1 (by omega)
  rcases Int.lt_or_eq_of_le h3 with h4 | h4
  · exact h4
  · have h5 := h.zero_sw h4
    have h6 := h.tl y z x h2 (by omega)
    have h7 := (h.sw y x).1 h6
    omega
theorem CmpOK.map (h : CmpOK c) (f : β → α) : CmpOK (fun x y => c (f x) (f y)) := ⟨fun x y => h.sw _ _, fun x y z => h.tr _ _ _, fun x y z => h.tl _ _ _⟩
theorem CmpOK.so (h : CmpOK c) : SO (ltc c) where
  irr x := by unfold ltc; rw [h.refl]; rfl
  tr x y z h1 h2 := by
    unfold ltc at *
    have h1 := of_decide_eq_true h1
    have h2 := of_decide_eq_true h2
    exact decide_eq_true (h.tl x y z h1 (by omega))
  ntr x y z h1 h2 := by
    unfold ltc at *
    have h1 := of_decide_eq_false h1
    have h2 := of_decide_eq_false h2
    refine decide_eq_false fun h3 => ?_
    have e1 : c y x ≤ 0 := by have := h.sw y x; have := h.sw x y; omega
    have e2 : c z y ≤ 0 := by have := h.sw y z; have := h.sw z y; omega
    have e3 := h.tr z y x e2 e1
    have e4 := (h.sw x z).1 h3
    omega
theorem orI_cons (a : Int) (l : List Int) : orI (a :: l) = if a = 0 then orI l else a := rfl
theorem CmpOK.nil : CmpOK (fun _ _ : α => orI []) := ⟨fun x y => by simp [orI], fun x y z _ _ => by simp [orI], fun x y z h _ => by simp [orI] at h⟩
theorem CmpOK.cons {L : α → α → List Int} (hc : CmpOK c) (hL : CmpOK fun a b => orI (L a b)) : CmpOK (fun a b => orI (c a b :: L a b)) where
  sw x y := by
    simp only [orI_cons]
    have h1 := hc.sw x y
    have h2 := hc.sw y x
    have h3 := hL.sw x y
    split <;> split <;> omega
  tr x y z h1 h2 := by
    simp only [orI_cons] at *
    have a1 := hc.tr x y z
    have a2 := hc.tl x y z
    have a3 := hc.t2 x y z
    have a4 := hL.tr x y z
    have b1 := hc.tr z y x
    have b2 := hc.sw x y
    have b3 := hc.sw y x
    have b4 := hc.sw z y
    have b5 := hc.sw y z
    have b6 := hc.sw x z
    have b7 := hc.sw z x
    split <;> (try split at h1) <;> (try split at h2) <;> omega
  tl x y z h1 h2 := by
    simp only [orI_cons] at *
    have a1 := hc.tr x y z
    have a2 := hc.tl x y z
    have a3 := hc.t2 x y z
    have a4 := hL.tl x y z
    have b1 := hc.tr z y x
    have b2 := hc.sw x y
    have b3 := hc.sw y x
    have b4 := hc.sw z y
    have b5 := hc.sw y z
    have b6 := hc.sw x z
    have b7 := hc.sw z x
    split <;> (try split at h1) <;> (try split at h2) <;> omega
theorem orI_zero {a : Int} {l : List Int} (h : orI (a :: l) = 0) : a = 0 ∧ orI l = 0 := by
  rw [orI_cons] at h
  split at h
  · rename_i h0; exact ⟨h0, h⟩
  · omega
end
theorem scmp_ok : CmpOK scmp where
  sw x y := by rw [← sLt_iff, ← sLt_iff']
  tr x y z h1 h2 := by
    have e1 : sLt y x = false := Bool.eq_false_iff.2 fun h => by have := sLt_iff'.1 h; omega
    have e2 : sLt z y = false := Bool.eq_false_iff.2 fun h => by have := sLt_iff'.1 h; omega
    have e3 := sLt_so.ntr z y x e2 e1
    rcases Int.lt_or_le 0 (scmp x z) with h | h
    · rw [sLt_iff'.2 h] at e3; cases e3
    · exact h
  tl x y z h1 h2 := by
    have e1 := sLt_iff.2 h1
    rcases Int.lt_or_eq_of_le h2 with h | h
    · exact sLt_iff.1 (sLt_trans e1 (sLt_iff.2 h))
    · rw [scmp_eq] at h; subst h; exact h1
theorem icmp_ok : CmpOK icmp where
  sw x y := by unfold icmp; split <;> split <;> (try split) <;> (try split) <;> omega
  tr x y z h1 h2 := by unfold icmp at *; split at h1 <;> split at h2 <;> (try split at h1) <;> (try split at h2) <;> split <;> (try split) <;> omega
  tl x y z h1 h2 := by unfold icmp at *; split at h1 <;> split at h2 <;> (try split at h1) <;> (try split at h2) <;> split <;> (try split) <;> omega
theorem icmp_eq {a b : Int} : icmp a b = 0 ↔ a = b := by unfold icmp; split <;> (try split) <;> omega
end Go.Proofs.YtconfddhmnipjaaGreat
set_option linter.unusedVariables false
set_option maxRecDepth 4000
namespace Go.Proofs.YtconfddhmnipjaaGreat
def bAll (s : ByteArray) (p : Int → Bool) : Bool := s.data.toList.all fun c => p (c.toNat : Int)
theorem bAll_true {s : ByteArray} {p : Int → Bool} (h : ∀ j (hj : j < s.size), p (s[j]'hj).toNat = true) : bAll s p = true := by
  unfold bAll
  rw [List.all_eq_true]
  intro c hc
  obtain ⟨j, hj, rfl⟩ := List.mem_iff_getElem.1 hc
  exact h j (by simpa using hj)
theorem bAll_false {s : ByteArray} {p : Int → Bool} {j : Nat} (hj : j < s.size) (h : p (s[j]'hj).toNat = false) : bAll s p = false := by
  unfold bAll
  rw [List.all_eq_false]
  refine ⟨s[j], ?_, by rw [h]; simp⟩
  have : s[j] = s.data.toList[j]'(by simpa using hj) := by simp [ByteArray.getElem_eq_getElem_data]
  rw [this]
  exact List.getElem_mem _
def zSmall (z : Int) : Bool := decide (97 ≤ z) && decide (z ≤ 122)
def zFig (z : Int) : Bool := (decide (48 ≤ z) && decide (z ≤ 57)) || z == 95
def zId (z : Int) : Bool := zSmall z || zFig z || (decide (65 ≤ z) && decide (z ≤ 90)) || z == 46 || z == 45
def zWord (z : Int) : Bool := zSmall z || zFig z
def isID (s : ByteArray) : Bool := bAll s zId && decide (1 ≤ s.size) && decide (s.size ≤ 32)
def reserved (s : ByteArray) : Bool := decide (s = ⟨#[117, 115, 101, 114]⟩) || decide (s = ⟨#[116, 104, 105, 115]⟩) || decide (s = ⟨#[110, 97, 109, 101, 115, 112, 97, 99, 101]⟩) || decide (s = ⟨#[114, 101, 108, 97, 116, 105, 111, 110]⟩) || decide (s = ⟨#[115, 99, 111, 112, 101]⟩)
def isWord (s : ByteArray) : Bool := !reserved s && (bAll s zWord && decide (1 ≤ s.size) && decide (s.size ≤ 32)) && (if h : 0 < s.size then zSmall (s[0]'h).toNat else false)
theorem small_spec (z : Int) (R : Rds) : Spec Tryz.prog 133 [.int .u8 z] R [] fun v H' => v = .bool (zSmall z) ∧ H' = [] := by
  refine Spec.body Tryz.func133 rfl Tryz.results133 Tryz.ntmps133 rfl ?_
  refine .seq (.region ?_)
  refine .q .assign ?_
  refine .nil (seqQ_n ?_)
  refine .seq (.region ?_)
  refine .q .move ?_
  refine .q .geq ?_
  refine .q .move ?_
  refine TriOps.split (t := 5) rfl (fun g1_2 => ?_) (fun g1_2 => ?_)
  refine TriOps.gT g1_2 ?_
  refine .q .move ?_
  refine TriOps.gT g1_2 ?_
  refine .q .leq ?_
  refine .q (.pickTh g1_2) ?_
  refine .q .assign ?_
  refine .nil (seqQ_n ?_)
  refine .ret (retQ_r _ (.one (.tmp rfl)) (.none _) ?_)
  · exact ⟨by simp_all [zSmall] <;> omega, rfl⟩
  refine TriOps.gF g1_2 ?_
  refine TriOps.gF g1_2 ?_
  refine .q (.pickFh g1_2) ?_
  refine .q .assign ?_
  refine .nil (seqQ_n ?_)
  refine .ret (retQ_r _ (.one (.tmp rfl)) (.none _) ?_)
  · exact ⟨by simp_all [zSmall] <;> omega, rfl⟩
theorem figure_spec (z : Int) (R : Rds) : Spec Tryz.prog 134 [.int .u8 z] R [] fun v H' => v = .bool (zFig z) ∧ H' = [] := by
  refine Spec.body Tryz.func134 rfl Tryz.results134 Tryz.ntmps134 rfl ?_
  refine .seq (.region ?_)
  refine .q .assign ?_
  refine .nil (seqQ_n ?_)
  refine .seq (.region ?_)
  refine .q .move ?_
  refine .q .geq ?_
  refine .q .move ?_
  refine TriOps.split (t := 5) rfl (fun g1_2 => ?_) (fun g1_2 => ?_)
  refine TriOps.gT g1_2 ?_
  refine .q .move ?_
  refine TriOps.gT g1_2 ?_
  refine .q .leq ?_
  refine .q (.pickTh g1_2) ?_
  refine .q .move ?_
  refine TriOps.split (t := 9) rfl (fun g1_6 => ?_) (fun g1_6 => ?_)
  refine TriOps.gF g1_6 ?_
  refine TriOps.gF g1_6 ?_
  refine .q (.pickTh g1_6) ?_
  refine .q .assign ?_
  refine .nil (seqQ_n ?_)
  refine .ret (retQ_r _ (.one (.tmp rfl)) (.none _) ?_)
  · exact ⟨by simp_all [zFig] <;> omega, rfl⟩
  refine TriOps.gT g1_6 ?_
  refine .q .move ?_
  refine TriOps.gT g1_6 ?_
  refine .q .eqI ?_
  refine .q (.pickFh g1_6) ?_
  refine .q .assign ?_
  refine .nil (seqQ_n ?_)
  refine .ret (retQ_r _ (.one (.tmp rfl)) (.none _) ?_)
  · exact ⟨by simp_all [zFig] <;> omega, rfl⟩
  refine TriOps.gF g1_2 ?_
  refine TriOps.gF g1_2 ?_
  refine .q (.pickFh g1_2) ?_
  refine .q .move ?_
  refine TriOps.gt rfl ?_
  refine .q .move ?_
  refine TriOps.gt rfl ?_
  refine .q .eqI ?_
  refine .q .pickF ?_
  refine .q .assign ?_
  refine .nil (seqQ_n ?_)
  refine .ret (retQ_r _ (.one (.tmp rfl)) (.none _) ?_)
  · exact ⟨by simp_all [zFig] <;> omega, rfl⟩
theorem id1_spec (z : Int) (R : Rds) : Spec Tryz.prog 137 [.int .u8 z] R [] fun v H' => v = .bool (zId z) ∧ H' = [] := by
  refine Spec.body Tryz.func137 rfl Tryz.results137 Tryz.ntmps137 rfl ?_
  refine .seq (.region ?_)
  refine .q .assign ?_
  refine .nil (seqQ_n ?_)
  refine .seq (.region ?_)
  refine .q .move ?_
  refine TriOps.callR (small_spec z _) (fun v hv => ?_)
  subst hv
  refine .q .move ?_
  refine TriOps.split (t := 5) rfl (fun g1_2 => ?_) (fun g1_2 => ?_)
  refine TriOps.gF g1_2 ?_
  refine TriOps.gF g1_2 ?_
  refine .q (.pickTh g1_2) ?_
  refine .q .move ?_
  refine TriOps.gf rfl rfl ?_
  refine TriOps.gf rfl rfl ?_
  refine TriOps.gf rfl rfl ?_
  refine TriOps.gfU rfl ?_
  refine TriOps.gfU rfl ?_
  refine TriOps.gf rfl rfl ?_
  refine .q .pickT ?_
  refine .q .move ?_
  refine TriOps.gf rfl rfl ?_
  refine TriOps.gf rfl rfl ?_
  refine .q .pickT ?_
  refine .q .move ?_
  refine TriOps.gf rfl rfl ?_
  refine TriOps.gf rfl rfl ?_
  refine .q .pickT ?_
  refine .q .assign ?_
  refine .nil (seqQ_n ?_)
  refine .ret (retQ_r _ (.one (.tmp rfl)) (.none _) ?_)
  · exact ⟨by simp_all [zId] <;> omega, rfl⟩
  refine TriOps.gT g1_2 ?_
  refine .q .move ?_
  refine TriOps.gT g1_2 ?_
  refine TriOps.callR (figure_spec z _) (fun v hv => ?_)
  subst hv
  refine .q (.pickFh g1_2) ?_
  refine .q .move ?_
  refine TriOps.split (t := 9) rfl (fun g1_6 => ?_) (fun g1_6 => ?_)
  refine TriOps.gF g1_6 ?_
  refine TriOps.gF g1_6 ?_
  refine TriOps.gF g1_6 ?_
  refine TriOps.gfU rfl ?_
  refine TriOps.gfU rfl ?_
  refine TriOps.gF g1_6 ?_
  refine .q (.pickTh g1_6) ?_
  refine .q .move ?_
  refine TriOps.gf rfl rfl ?_
  refine TriOps.gf rfl rfl ?_
  refine .q .pickT ?_
  refine .q .move ?_
  refine TriOps.gf rfl rfl ?_
  refine TriOps.gf rfl rfl ?_
  refine .q .pickT ?_
  refine .q .assign ?_
  refine .nil (seqQ_n ?_)
  refine .ret (retQ_r _ (.one (.tmp rfl)) (.none _) ?_)
  · exact ⟨by simp_all [zId] <;> omega, rfl⟩
  refine TriOps.gT g1_6 ?_
  refine .q .move ?_
  refine TriOps.gT g1_6 ?_
  refine .q .geq ?_
  refine TriOps.gT g1_6 ?_
  refine .q .move ?_
  refine TriOps.split (t := 12) rfl (fun g1_9 => ?_) (fun g1_9 => ?_)
  refine TriOps.gT g1_9 ?_
  refine .q .move ?_
  refine TriOps.gT g1_9 ?_
  refine .q .leq ?_
  refine TriOps.gT g1_6 ?_
  refine .q (.pickTh g1_9) ?_
  refine .q (.pickFh g1_6) ?_
  refine .q .move ?_
  refine TriOps.split (t := 17) rfl (fun g1_14 => ?_) (fun g1_14 => ?_)
  refine TriOps.gF g1_14 ?_
  refine TriOps.gF g1_14 ?_
  refine .q (.pickTh g1_14) ?_
  refine .q .move ?_
  refine TriOps.gf rfl rfl ?_
  refine TriOps.gf rfl rfl ?_
  refine .q .pickT ?_
  refine .q .assign ?_
  refine .nil (seqQ_n ?_)
  refine .ret (retQ_r _ (.one (.tmp rfl)) (.none _) ?_)
  · exact ⟨by simp_all [zId] <;> omega, rfl⟩
  refine TriOps.gT g1_14 ?_
  refine .q .move ?_
  refine TriOps.gT g1_14 ?_
  refine .q .eqI ?_
  refine .q (.pickFh g1_14) ?_
  refine .q .move ?_
  refine TriOps.split (t := 21) rfl (fun g1_18 => ?_) (fun g1_18 => ?_)
  refine TriOps.gF g1_18 ?_
  refine TriOps.gF g1_18 ?_
  refine .q (.pickTh g1_18) ?_
  refine .q .assign ?_
  refine .nil (seqQ_n ?_)
  refine .ret (retQ_r _ (.one (.tmp rfl)) (.none _) ?_)
  · exact ⟨by simp_all [zId] <;> omega, rfl⟩
  refine TriOps.gT g1_18 ?_
  refine .q .move ?_
  refine TriOps.gT g1_18 ?_
  refine .q .eqI ?_
  refine .q (.pickFh g1_18) ?_
  refine .q .assign ?_
  refine .nil (seqQ_n ?_)
  refine .ret (retQ_r _ (.one (.tmp rfl)) (.none _) ?_)
  · exact ⟨by simp_all [zId] <;> omega, rfl⟩
  refine TriOps.gF g1_9 ?_
  refine TriOps.gF g1_9 ?_
  refine TriOps.gT g1_6 ?_
  refine .q (.pickFh g1_9) ?_
  refine .q (.pickFh g1_6) ?_
  refine .q .move ?_
  refine TriOps.gt rfl ?_
  refine .q .move ?_
  refine TriOps.gt rfl ?_
  refine .q .eqI ?_
  refine .q .pickF ?_
  refine .q .move ?_
  refine TriOps.split (t := 21) rfl (fun g1_18 => ?_) (fun g1_18 => ?_)
  refine TriOps.gF g1_18 ?_
  refine TriOps.gF g1_18 ?_
  refine .q (.pickTh g1_18) ?_
  refine .q .assign ?_
  refine .nil (seqQ_n ?_)
  refine .ret (retQ_r _ (.one (.tmp rfl)) (.none _) ?_)
  · exact ⟨by simp_all [zId] <;> omega, rfl⟩
  refine TriOps.gT g1_18 ?_
  refine .q .move ?_
  refine TriOps.gT g1_18 ?_
  refine .q .eqI ?_
  refine .q (.pickFh g1_18) ?_
  refine .q .assign ?_
  refine .nil (seqQ_n ?_)
  refine .ret (retQ_r _ (.one (.tmp rfl)) (.none _) ?_)
  · exact ⟨by simp_all [zId] <;> omega, rfl⟩
theorem word1_spec (z : Int) (R : Rds) : Spec Tryz.prog 132 [.int .u8 z] R [] fun v H' => v = .bool (zWord z) ∧ H' = [] := by
  refine Spec.body Tryz.func132 rfl Tryz.results132 Tryz.ntmps132 rfl ?_
  refine .seq (.region ?_)
  refine .q .assign ?_
  refine .nil (seqQ_n ?_)
  refine .seq (.region ?_)
  refine .q .move ?_
  refine TriOps.callR (small_spec z _) (fun v hv => ?_)
  subst hv
  refine .q .move ?_
  refine TriOps.split (t := 5) rfl (fun g1_2 => ?_) (fun g1_2 => ?_)
  refine TriOps.gF g1_2 ?_
  refine TriOps.gF g1_2 ?_
  refine .q (.pickTh g1_2) ?_
  refine .q .assign ?_
  refine .nil (seqQ_n ?_)
  refine .ret (retQ_r _ (.one (.tmp rfl)) (.none _) ?_)
  · exact ⟨by simp_all [zWord] <;> omega, rfl⟩
  refine TriOps.gT g1_2 ?_
  refine .q .move ?_
  refine TriOps.gT g1_2 ?_
  refine TriOps.callR (figure_spec z _) (fun v hv => ?_)
  subst hv
  refine .q (.pickFh g1_2) ?_
  refine .q .assign ?_
  refine .nil (seqQ_n ?_)
  refine .ret (retQ_r _ (.one (.tmp rfl)) (.none _) ?_)
  · exact ⟨by simp_all [zWord] <;> omega, rfl⟩
theorem all_spec (s : ByteArray) (f : FuncId) [e : Ent Tryz.prog f] (p : Int → Bool) (hf : ∀ z R, Spec Tryz.prog f [.int .u8 z] R [] fun v H' => v = .bool (p z) ∧ H' = []) (hs : s.size ≤ 9223372036854775807) (R : Rds) :
    Spec Tryz.prog 131 [.string s, .func (.func f) #[] #[]] R [] fun v H' => v = .bool (bAll s p && decide (1 ≤ s.size) && decide (s.size ≤ 32)) ∧ H' = [] := by
  refine Spec.body Tryz.func131 rfl Tryz.results131 Tryz.ntmps131 rfl ?_
  refine .seq (.region ?_)
  refine .q .assign ?_
  refine .nil (seqQ_n ?_)
  refine .seq ?_
  refine .seq (.region ?_)
  refine .q .move ?_
  refine .q .lenS ?_
  refine .q .move ?_
  refine .nil (seqQ_n ?_)
  refine .block ?_
  refine .loop (X := Nat) (fun i => i ≤ s.size ∧ ∀ j (hj : j < s.size), j < i → p (s[j]'hj).toNat = true) (fun i => [(0, .string s), (1, .func (.func f) #[] #[]), (7, .int .i64 (s.size : Nat)), (8, .int .i64 (i : Nat))]) (fun _ => []) (fun i => s.size - i) 0 ⟨by omega, by omega⟩ (((((EnvLe.nil _).cons rfl).cons rfl).cons rfl).cons rfl) (HLe.refl _) ?_
  rintro i ⟨hi, hp⟩
  refine .seq (.region ?_)
  refine .q .lss ?_
  refine .nil (seqQ_n ?_)
  refine .seq ?_
  refine .cond rfl (fun h1 => ?_) (fun h1 => ?_)
  have hlt : i < s.size := by simp at h1; omega
  refine .skip ?_
  refine seqQ_n ?_
  refine .seq ?_
  refine .block ?_
  refine .seq (.region ?_)
  refine .q .move ?_
  refine .q .assign ?_
  refine .nil (seqQ_n ?_)
  refine .seq (.region ?_)
  refine .q .move ?_
  refine .q .move ?_
  refine .q .move ?_
  refine .q (.indexS i hlt) ?_
  refine TriOps.callRV (first := []) (captured := []) (vs := [.int .u8 (s[i]'hlt).toNat]) (hf _ _) (fun v hv => ?_)
  subst hv
  refine .q .not ?_
  refine .nil (seqQ_n ?_)
  refine .cond rfl (fun h2 => ?_) (fun h2 => ?_)
  refine .seq (.region ?_)
  refine .q .assign ?_
  refine .nil (seqQ_n ?_)
  refine .ret (blkQ_r (seqQ_r (loopQ_r (blkQ_r (seqQ_r (retQ_r _ (.one (.tmp rfl)) (.none _) ?_))))))
  · have := bAll_false hlt (p := p) (by simpa using h2)
    exact ⟨by simp [this], rfl⟩
  refine .skip ?_
  refine blkQ_n (seqQ_n ?_)
  refine .region ?_
  refine .q (.inc (n := i) (by omega)) ?_
  refine .q .move ?_
  refine .nil ?_
  · exact loopQ_i (i + 1) ⟨by omega, fun j hj hji => by
      rcases Nat.lt_or_ge j i with hh | hh
      · exact hp j hj hh
      · obtain rfl : j = i := by omega
        simpa using h2⟩ (by omega) (((((EnvLe.nil _).cons rfl).cons rfl).cons rfl).cons rfl) (HLe.refl _)
  have hb : bAll s p = true := bAll_true fun j hj => hp j hj (by simp at h1; omega)
  refine .exit (seqQ_x (loopQ_x (blkQ_x ?_)))
  refine seqQ_n ?_
  refine .seq (.region ?_)
  refine .q .move ?_
  refine .q .lenS ?_
  refine .q .geq ?_
  refine .q .move ?_
  refine TriOps.split (t := 21) rfl (fun g7_3 => ?_) (fun g7_3 => ?_)
  refine TriOps.gT g7_3 ?_
  refine .q .move ?_
  refine TriOps.gT g7_3 ?_
  refine .q .lenS ?_
  refine TriOps.gT g7_3 ?_
  refine .q .leq ?_
  refine .q (.pickTh g7_3) ?_
  refine .q .assign ?_
  refine .nil (seqQ_n ?_)
  refine .ret (retQ_r _ (.one (.tmp rfl)) (.none _) ?_)
  · exact ⟨by rw [Value.bool.injEq, Bool.eq_iff_iff]; simp [hb] at *; omega, rfl⟩
  refine TriOps.gF g7_3 ?_
  refine TriOps.gF g7_3 ?_
  refine TriOps.gF g7_3 ?_
  refine .q (.pickFh g7_3) ?_
  refine .q .assign ?_
  refine .nil (seqQ_n ?_)
  refine .ret (retQ_r _ (.one (.tmp rfl)) (.none _) ?_)
  · exact ⟨by rw [Value.bool.injEq, Bool.eq_iff_iff]; simp [hb] at *; omega, rfl⟩
theorem id_spec (s : ByteArray) (hs : s.size ≤ 9223372036854775807) (R : Rds) : Spec Tryz.prog 130 [.string s] R [] fun v H' => v = .bool (isID s) ∧ H' = [] := by
  refine Spec.body Tryz.func130 rfl Tryz.results130 Tryz.ntmps130 rfl ?_
  refine .seq (.region ?_)
  refine .q .assign ?_
  refine .nil (seqQ_n ?_)
  refine .seq (.region ?_)
  refine .q .move ?_
  refine TriOps.callR (all_spec s 137 zId id1_spec hs _) (fun v hv => ?_)
  subst hv
  refine .q .assign ?_
  refine .nil (seqQ_n ?_)
  refine .ret (retQ_r _ (.one (.tmp rfl)) (.none _) ?_)
  · exact ⟨rfl, rfl⟩
theorem word_spec (s : ByteArray) (hs : s.size ≤ 9223372036854775807) (R : Rds) : Spec Tryz.prog 119 [.string s] R [] fun v H' => v = .bool (isWord s) ∧ H' = [] := by
  refine Spec.body Tryz.func119 rfl Tryz.results119 Tryz.ntmps119 rfl ?_
  refine .seq (.region ?_)
  refine .q .assign ?_
  refine .nil (seqQ_n ?_)
  refine .seq ?_
  refine .seq (.region ?_)
  refine .q .move ?_
  refine .nil (seqQ_n ?_)
  refine .block ?_
  refine .seq ?_
  refine .seq (.region ?_)
  refine .q .eqS ?_
  refine .q .assign ?_
  refine .nil (seqQ_n ?_)
  refine Tri.cut (X := Unit) (fun _ => True) (fun _ => [(0, .string s), (4, .bool (reserved s))]) (fun _ => []) ?_ ?_
  refine .cond rfl (fun h1 => ?_) (fun h1 => ?_)
  refine .skip ?_
  · refine joinQ_n () trivial ?_ (HLe.refl _)
    first
      | (simp only [reserved, h1, h2, h3, h4, Bool.false_or]; exact (((EnvLe.nil _).cons rfl).cons rfl))
      | (simp only [reserved, h1, h2, h3, h4, Bool.false_or, Bool.true_or]; exact (((EnvLe.nil _).cons rfl).cons rfl))
      | (simp only [reserved, h1, h2, h3, Bool.false_or, Bool.true_or]; exact (((EnvLe.nil _).cons rfl).cons rfl))
      | (simp only [reserved, h1, h2, Bool.false_or, Bool.true_or]; exact (((EnvLe.nil _).cons rfl).cons rfl))
      | (simp only [reserved, h1, Bool.true_or]; exact (((EnvLe.nil _).cons rfl).cons rfl))
  refine .seq (.region ?_)
  refine .q .eqS ?_
  refine .q .assign ?_
  refine .nil (seqQ_n ?_)
  refine .cond rfl (fun h2 => ?_) (fun h2 => ?_)
  refine .skip ?_
  · refine joinQ_n () trivial ?_ (HLe.refl _)
    first
      | (simp only [reserved, h1, h2, h3, h4, Bool.false_or]; exact (((EnvLe.nil _).cons rfl).cons rfl))
      | (simp only [reserved, h1, h2, h3, h4, Bool.false_or, Bool.true_or]; exact (((EnvLe.nil _).cons rfl).cons rfl))
      | (simp only [reserved, h1, h2, h3, Bool.false_or, Bool.true_or]; exact (((EnvLe.nil _).cons rfl).cons rfl))
      | (simp only [reserved, h1, h2, Bool.false_or, Bool.true_or]; exact (((EnvLe.nil _).cons rfl).cons rfl))
      | (simp only [reserved, h1, Bool.true_or]; exact (((EnvLe.nil _).cons rfl).cons rfl))
  refine .seq (.region ?_)
  refine .q .eqS ?_
  refine .q .assign ?_
  refine .nil (seqQ_n ?_)
  refine .cond rfl (fun h3 => ?_) (fun h3 => ?_)
  refine .skip ?_
  · refine joinQ_n () trivial ?_ (HLe.refl _)
    first
      | (simp only [reserved, h1, h2, h3, h4, Bool.false_or]; exact (((EnvLe.nil _).cons rfl).cons rfl))
      | (simp only [reserved, h1, h2, h3, h4, Bool.false_or, Bool.true_or]; exact (((EnvLe.nil _).cons rfl).cons rfl))
      | (simp only [reserved, h1, h2, h3, Bool.false_or, Bool.true_or]; exact (((EnvLe.nil _).cons rfl).cons rfl))
      | (simp only [reserved, h1, h2, Bool.false_or, Bool.true_or]; exact (((EnvLe.nil _).cons rfl).cons rfl))
      | (simp only [reserved, h1, Bool.true_or]; exact (((EnvLe.nil _).cons rfl).cons rfl))
  refine .seq (.region ?_)
  refine .q .eqS ?_
  refine .q .assign ?_
  refine .nil (seqQ_n ?_)
  refine .cond rfl (fun h4 => ?_) (fun h4 => ?_)
  refine .skip ?_
  · refine joinQ_n () trivial ?_ (HLe.refl _)
    first
      | (simp only [reserved, h1, h2, h3, h4, Bool.false_or]; exact (((EnvLe.nil _).cons rfl).cons rfl))
      | (simp only [reserved, h1, h2, h3, h4, Bool.false_or, Bool.true_or]; exact (((EnvLe.nil _).cons rfl).cons rfl))
      | (simp only [reserved, h1, h2, h3, Bool.false_or, Bool.true_or]; exact (((EnvLe.nil _).cons rfl).cons rfl))
      | (simp only [reserved, h1, h2, Bool.false_or, Bool.true_or]; exact (((EnvLe.nil _).cons rfl).cons rfl))
      | (simp only [reserved, h1, Bool.true_or]; exact (((EnvLe.nil _).cons rfl).cons rfl))
  refine .region ?_
  refine .q .eqS ?_
  refine .q .assign ?_
  refine .nil ?_
  · refine joinQ_n () trivial ?_ (HLe.refl _)
    first
      | (simp only [reserved, h1, h2, h3, h4, Bool.false_or]; exact (((EnvLe.nil _).cons rfl).cons rfl))
      | (simp only [reserved, h1, h2, h3, h4, Bool.false_or, Bool.true_or]; exact (((EnvLe.nil _).cons rfl).cons rfl))
      | (simp only [reserved, h1, h2, h3, Bool.false_or, Bool.true_or]; exact (((EnvLe.nil _).cons rfl).cons rfl))
      | (simp only [reserved, h1, h2, Bool.false_or, Bool.true_or]; exact (((EnvLe.nil _).cons rfl).cons rfl))
      | (simp only [reserved, h1, Bool.true_or]; exact (((EnvLe.nil _).cons rfl).cons rfl))
  intro x hx
  refine seqQ_n ?_
  refine .cond rfl (fun h5 => ?_) (fun h5 => ?_)
  refine .seq (.region ?_)
  refine .q .assign ?_
  refine .nil (seqQ_n ?_)
  refine .ret (blkQ_r (seqQ_r (retQ_r _ (.one (.tmp rfl)) (.none _) ?_)))
  · refine ⟨?_, rfl⟩
    first
      | (simp [isWord, h5]; done)
      | (rw [isWord, h5, g8_2, dif_pos hpos, Bool.not_false, Bool.true_and, Bool.true_and])
      | (rw [isWord, g8_2, Bool.and_false, Bool.false_and])
  refine .skip ?_
  refine blkQ_n (seqQ_n ?_)
  refine .seq (.region ?_)
  refine .q .move ?_
  refine TriOps.callR (all_spec s 132 zWord word1_spec hs _) (fun v hv => ?_)
  subst hv
  refine .q .move ?_
  refine TriOps.split (t := 12) rfl (fun g8_2 => ?_) (fun g8_2 => ?_)
  refine TriOps.gT g8_2 ?_
  refine .q .move ?_
  refine TriOps.gT g8_2 ?_
  have hpos : 0 < s.size := by simp at g8_2; omega
  refine .q (.indexS 0 hpos) ?_
  refine TriOps.gT g8_2 ?_
  refine TriOps.callR (small_spec _ _) (fun v hv => ?_)
  subst hv
  refine .q (.pickTh g8_2) ?_
  refine .q .assign ?_
  refine .nil (seqQ_n ?_)
  refine .ret (retQ_r _ (.one (.tmp rfl)) (.none _) ?_)
  · refine ⟨?_, rfl⟩
    first
      | (simp [isWord, h5]; done)
      | (rw [isWord, h5, g8_2, dif_pos hpos, Bool.not_false, Bool.true_and, Bool.true_and])
      | (rw [isWord, g8_2, Bool.and_false, Bool.false_and])
  refine TriOps.gF g8_2 ?_
  refine TriOps.gF g8_2 ?_
  refine TriOps.gF g8_2 ?_
  refine .q (.pickFh g8_2) ?_
  refine .q .assign ?_
  refine .nil (seqQ_n ?_)
  refine .ret (retQ_r _ (.one (.tmp rfl)) (.none _) ?_)
  · refine ⟨?_, rfl⟩
    first
      | (simp [isWord, h5]; done)
      | (rw [isWord, h5, g8_2, dif_pos hpos, Bool.not_false, Bool.true_and, Bool.true_and])
      | (rw [isWord, g8_2, Bool.and_false, Bool.false_and])
theorem isWord_short {s : ByteArray} (h : s.size < 1 ∨ 32 < s.size) : isWord s = false := by
  unfold isWord
  rcases h with h | h
  · have : decide (1 ≤ s.size) = false := decide_eq_false (by omega)
    simp [this]
  · have : decide (s.size ≤ 32) = false := decide_eq_false (by omega)
    simp [this]
theorem isWord_first {s : ByteArray} (hp : 0 < s.size) (h : zSmall (s[0]'hp).toNat = false) : isWord s = false := by
  unfold isWord
  rw [dif_pos hp, h, Bool.and_false]
theorem isWord_all {s : ByteArray} (h : bAll s zWord = false) : isWord s = false := by
  unfold isWord
  simp [h]
theorem isWord_of {s : ByteArray} (hp : 0 < s.size) (h1 : s.size ≤ 32) (h2 : zSmall (s[0]'hp).toNat = true) (h3 : bAll s zWord = true) : isWord s = !reserved s := by
  unfold isWord
  have e1 : decide (1 ≤ s.size) = true := decide_eq_true (by omega)
  have e2 : decide (s.size ≤ 32) = true := decide_eq_true h1
  rw [dif_pos hp, h2, h3, e1, e2]
  simp
theorem rid_spec (s : ByteArray) (hs : s.size ≤ 9223372036854775807) (R : Rds) : Spec Tryz.prog 121 [.string s] R [] fun v H' => v = .bool (isID s) ∧ H' = [] := by
  refine Spec.body Tryz.func121 rfl Tryz.results121 Tryz.ntmps121 rfl ?_
  refine .seq (.region ?_)
  refine .q .assign ?_
  refine .nil (seqQ_n ?_)
  refine .seq ?_
  refine .seq (.region ?_)
  refine .q .assign ?_
  refine .nil (seqQ_n ?_)
  refine .block ?_
  refine .loop (X := Nat) (fun i => i ≤ s.size ∧ ∀ j (hj : j < s.size), j < i → zId (s[j]'hj).toNat = true) (fun i => [(0, .string s), (3, .int .i64 (i : Nat))]) (fun _ => []) (fun i => s.size - i) 0 ⟨by omega, by omega⟩ (((EnvLe.nil _).cons rfl).cons rfl) (HLe.refl _) ?_
  rintro i ⟨hi, hp⟩
  refine .seq ?_
  refine .seq (.region ?_)
  refine .q .move ?_
  refine .q .move ?_
  refine .q .lenS ?_
  refine .q .lss ?_
  refine .nil (seqQ_n ?_)
  refine .cond rfl (fun h1 => ?_) (fun h1 => ?_)
  have hlt : i < s.size := by simp at h1; omega
  refine .skip ?_
  refine seqQ_n ?_
  refine .seq ?_
  refine .block ?_
  refine .seq (.region ?_)
  refine .q .move ?_
  refine .q .move ?_
  refine .q (.indexS i hlt) ?_
  refine .q .assign ?_
  refine .nil (seqQ_n ?_)
  refine Tri.cut (X := Unit) (fun _ => zId (s[i]'hlt).toNat = true) (fun _ => [(0, .string s), (3, .int .i64 (i : Nat))]) (fun _ => []) ?_ ?_
  refine .seq (.region ?_)
  refine .q .move ?_
  refine .q .geq ?_
  refine .q .move ?_
  refine TriOps.split (t := 16) rfl (fun g5_2 => ?_) (fun g5_2 => ?_)
  refine TriOps.gT g5_2 ?_
  refine .q .move ?_
  refine TriOps.gT g5_2 ?_
  refine .q .leq ?_
  refine .q (.pickTh g5_2) ?_
  refine .q .move ?_
  refine TriOps.split (t := 20) rfl (fun g5_6 => ?_) (fun g5_6 => ?_)
  refine TriOps.gF g5_6 ?_
  refine TriOps.gF g5_6 ?_
  refine TriOps.gF g5_6 ?_
  refine TriOps.gfU rfl ?_
  refine TriOps.gfU rfl ?_
  refine TriOps.gF g5_6 ?_
  refine .q (.pickTh g5_6) ?_
  refine .q .move ?_
  refine TriOps.gf rfl rfl ?_
  refine TriOps.gf rfl rfl ?_
  refine TriOps.gf rfl rfl ?_
  refine TriOps.gfU rfl ?_
  refine TriOps.gfU rfl ?_
  refine TriOps.gf rfl rfl ?_
  refine .q .pickT ?_
  refine .q .move ?_
  refine TriOps.gf rfl rfl ?_
  refine TriOps.gf rfl rfl ?_
  refine .q .pickT ?_
  refine .q .move ?_
  refine TriOps.gf rfl rfl ?_
  refine TriOps.gf rfl rfl ?_
  refine .q .pickT ?_
  refine .q .move ?_
  refine TriOps.gf rfl rfl ?_
  refine TriOps.gf rfl rfl ?_
  refine .q .pickT ?_
  refine .q .not ?_
  refine .nil (seqQ_n ?_)
  refine .condF ?_
  refine .skip ?_
  · exact joinQ_n () (by clear hp; simp_all [zId, zSmall, zFig] <;> omega) (((EnvLe.nil _).cons rfl).cons rfl) (HLe.refl _)
  refine TriOps.gT g5_6 ?_
  refine .q .move ?_
  refine TriOps.gT g5_6 ?_
  refine .q .geq ?_
  refine TriOps.gT g5_6 ?_
  refine .q .move ?_
  refine TriOps.split (t := 23) rfl (fun g5_9 => ?_) (fun g5_9 => ?_)
  refine TriOps.gT g5_9 ?_
  refine .q .move ?_
  refine TriOps.gT g5_9 ?_
  refine .q .leq ?_
  refine TriOps.gT g5_6 ?_
  refine .q (.pickTh g5_9) ?_
  refine .q (.pickFh g5_6) ?_
  refine .q .move ?_
  refine TriOps.split (t := 28) rfl (fun g5_14 => ?_) (fun g5_14 => ?_)
  refine TriOps.gF g5_14 ?_
  refine TriOps.gF g5_14 ?_
  refine TriOps.gF g5_14 ?_
  refine TriOps.gfU rfl ?_
  refine TriOps.gfU rfl ?_
  refine TriOps.gF g5_14 ?_
  refine .q (.pickTh g5_14) ?_
  refine .q .move ?_
  refine TriOps.gf rfl rfl ?_
  refine TriOps.gf rfl rfl ?_
  refine .q .pickT ?_
  refine .q .move ?_
  refine TriOps.gf rfl rfl ?_
  refine TriOps.gf rfl rfl ?_
  refine .q .pickT ?_
  refine .q .move ?_
  refine TriOps.gf rfl rfl ?_
  refine TriOps.gf rfl rfl ?_
  refine .q .pickT ?_
  refine .q .not ?_
  refine .nil (seqQ_n ?_)
  refine .condF ?_
  refine .skip ?_
  · exact joinQ_n () (by clear hp; simp_all [zId, zSmall, zFig] <;> omega) (((EnvLe.nil _).cons rfl).cons rfl) (HLe.refl _)
  refine TriOps.gT g5_14 ?_
  refine .q .move ?_
  refine TriOps.gT g5_14 ?_
  refine .q .geq ?_
  refine TriOps.gT g5_14 ?_
  refine .q .move ?_
  refine TriOps.split (t := 31) rfl (fun g5_17 => ?_) (fun g5_17 => ?_)
  refine TriOps.gT g5_17 ?_
  refine .q .move ?_
  refine TriOps.gT g5_17 ?_
  refine .q .leq ?_
  refine TriOps.gT g5_14 ?_
  refine .q (.pickTh g5_17) ?_
  refine .q (.pickFh g5_14) ?_
  refine .q .move ?_
  refine TriOps.split (t := 36) rfl (fun g5_22 => ?_) (fun g5_22 => ?_)
  refine TriOps.gF g5_22 ?_
  refine TriOps.gF g5_22 ?_
  refine .q (.pickTh g5_22) ?_
  refine .q .move ?_
  refine TriOps.gf rfl rfl ?_
  refine TriOps.gf rfl rfl ?_
  refine .q .pickT ?_
  refine .q .move ?_
  refine TriOps.gf rfl rfl ?_
  refine TriOps.gf rfl rfl ?_
  refine .q .pickT ?_
  refine .q .not ?_
  refine .nil (seqQ_n ?_)
  refine .condF ?_
  refine .skip ?_
  · exact joinQ_n () (by clear hp; simp_all [zId, zSmall, zFig] <;> omega) (((EnvLe.nil _).cons rfl).cons rfl) (HLe.refl _)
  refine TriOps.gT g5_22 ?_
  refine .q .move ?_
  refine TriOps.gT g5_22 ?_
  refine .q .eqI ?_
  refine .q (.pickFh g5_22) ?_
  refine .q .move ?_
  refine TriOps.split (t := 40) rfl (fun g5_26 => ?_) (fun g5_26 => ?_)
  refine TriOps.gF g5_26 ?_
  refine TriOps.gF g5_26 ?_
  refine .q (.pickTh g5_26) ?_
  refine .q .move ?_
  refine TriOps.gf rfl rfl ?_
  refine TriOps.gf rfl rfl ?_
  refine .q .pickT ?_
  refine .q .not ?_
  refine .nil (seqQ_n ?_)
  refine .condF ?_
  refine .skip ?_
  · exact joinQ_n () (by clear hp; simp_all [zId, zSmall, zFig] <;> omega) (((EnvLe.nil _).cons rfl).cons rfl) (HLe.refl _)
  refine TriOps.gT g5_26 ?_
  refine .q .move ?_
  refine TriOps.gT g5_26 ?_
  refine .q .eqI ?_
  refine .q (.pickFh g5_26) ?_
  refine .q .move ?_
  refine TriOps.split (t := 44) rfl (fun g5_30 => ?_) (fun g5_30 => ?_)
  refine TriOps.gF g5_30 ?_
  refine TriOps.gF g5_30 ?_
  refine .q (.pickTh g5_30) ?_
  refine .q .not ?_
  refine .nil (seqQ_n ?_)
  refine .condF ?_
  refine .skip ?_
  · exact joinQ_n () (by clear hp; simp_all [zId, zSmall, zFig] <;> omega) (((EnvLe.nil _).cons rfl).cons rfl) (HLe.refl _)
  refine TriOps.gT g5_30 ?_
  refine .q .move ?_
  refine TriOps.gT g5_30 ?_
  refine .q .eqI ?_
  refine .q (.pickFh g5_30) ?_
  refine .q .not ?_
  refine .nil (seqQ_n ?_)
  refine .cond rfl (fun h2 => ?_) (fun h2 => ?_)
  refine .seq (.region ?_)
  refine .q .assign ?_
  refine .nil (seqQ_n ?_)
  refine .ret (joinQ_r (blkQ_r (seqQ_r (loopQ_r (blkQ_r (seqQ_r (retQ_r _ (.one (.tmp rfl)) (.none _) ?_)))))))
  · refine ⟨?_, rfl⟩
    first
      | (rw [isID, hb, Value.bool.injEq, Bool.eq_iff_iff]; simp at g7_3 ⊢; omega)
      | (rw [isID, bAll_false hlt (by clear hp; simp_all [zId, zSmall, zFig] <;> omega)]; rfl)
  refine .skip ?_
  · exact joinQ_n () (by clear hp; simp_all [zId, zSmall, zFig] <;> omega) (((EnvLe.nil _).cons rfl).cons rfl) (HLe.refl _)
  refine TriOps.gF g5_17 ?_
  refine TriOps.gF g5_17 ?_
  refine TriOps.gT g5_14 ?_
  refine .q (.pickFh g5_17) ?_
  refine .q (.pickFh g5_14) ?_
  refine .q .move ?_
  refine TriOps.gt rfl ?_
  refine .q .move ?_
  refine TriOps.gt rfl ?_
  refine .q .eqI ?_
  refine .q .pickF ?_
  refine .q .move ?_
  refine TriOps.split (t := 40) rfl (fun g5_26 => ?_) (fun g5_26 => ?_)
  refine TriOps.gF g5_26 ?_
  refine TriOps.gF g5_26 ?_
  refine .q (.pickTh g5_26) ?_
  refine .q .move ?_
  refine TriOps.gf rfl rfl ?_
  refine TriOps.gf rfl rfl ?_
  refine .q .pickT ?_
  refine .q .not ?_
  refine .nil (seqQ_n ?_)
  refine .condF ?_
  refine .skip ?_
  · exact joinQ_n () (by clear hp; simp_all [zId, zSmall, zFig] <;> omega) (((EnvLe.nil _).cons rfl).cons rfl) (HLe.refl _)
  refine TriOps.gT g5_26 ?_
  refine .q .move ?_
  refine TriOps.gT g5_26 ?_
  refine .q .eqI ?_
  refine .q (.pickFh g5_26) ?_
  refine .q .move ?_
  refine TriOps.split (t := 44) rfl (fun g5_30 => ?_) (fun g5_30 => ?_)
  refine TriOps.gF g5_30 ?_
  refine TriOps.gF g5_30 ?_
  refine .q (.pickTh g5_30) ?_
  refine .q .not ?_
  refine .nil (seqQ_n ?_)
  refine .condF ?_
  refine .skip ?_
  · exact joinQ_n () (by clear hp; simp_all [zId, zSmall, zFig] <;> omega) (((EnvLe.nil _).cons rfl).cons rfl) (HLe.refl _)
  refine TriOps.gT g5_30 ?_
  refine .q .move ?_
  refine TriOps.gT g5_30 ?_
  refine .q .eqI ?_
  refine .q (.pickFh g5_30) ?_
  refine .q .not ?_
  refine .nil (seqQ_n ?_)
  refine .cond rfl (fun h2 => ?_) (fun h2 => ?_)
  refine .seq (.region ?_)
  refine .q .assign ?_
  refine .nil (seqQ_n ?_)
  refine .ret (joinQ_r (blkQ_r (seqQ_r (loopQ_r (blkQ_r (seqQ_r (retQ_r _ (.one (.tmp rfl)) (.none _) ?_)))))))
  · refine ⟨?_, rfl⟩
    first
      | (rw [isID, hb, Value.bool.injEq, Bool.eq_iff_iff]; simp at g7_3 ⊢; omega)
      | (rw [isID, bAll_false hlt (by clear hp; simp_all [zId, zSmall, zFig] <;> omega)]; rfl)
  refine .skip ?_
  · exact joinQ_n () (by clear hp; simp_all [zId, zSmall, zFig] <;> omega) (((EnvLe.nil _).cons rfl).cons rfl) (HLe.refl _)
  refine TriOps.gF g5_9 ?_
  refine TriOps.gF g5_9 ?_
  refine TriOps.gT g5_6 ?_
  refine .q (.pickFh g5_9) ?_
  refine .q (.pickFh g5_6) ?_
  refine .q .move ?_
  refine TriOps.gt rfl ?_
  refine .q .move ?_
  refine TriOps.gt rfl ?_
  refine .q .geq ?_
  refine TriOps.gt rfl ?_
  refine .q .move ?_
  refine TriOps.split (t := 31) rfl (fun g5_17 => ?_) (fun g5_17 => ?_)
  refine TriOps.gT g5_17 ?_
  refine .q .move ?_
  refine TriOps.gT g5_17 ?_
  refine .q .leq ?_
  refine TriOps.gt rfl ?_
  refine .q (.pickTh g5_17) ?_
  refine .q .pickF ?_
  refine .q .move ?_
  refine TriOps.split (t := 36) rfl (fun g5_22 => ?_) (fun g5_22 => ?_)
  refine TriOps.gF g5_22 ?_
  refine TriOps.gF g5_22 ?_
  refine .q (.pickTh g5_22) ?_
  refine .q .move ?_
  refine TriOps.gf rfl rfl ?_
  refine TriOps.gf rfl rfl ?_
  refine .q .pickT ?_
  refine .q .move ?_
  refine TriOps.gf rfl rfl ?_
  refine TriOps.gf rfl rfl ?_
  refine .q .pickT ?_
  refine .q .not ?_
  refine .nil (seqQ_n ?_)
  refine .condF ?_
  refine .skip ?_
  · exact joinQ_n () (by clear hp; simp_all [zId, zSmall, zFig] <;> omega) (((EnvLe.nil _).cons rfl).cons rfl) (HLe.refl _)
  refine TriOps.gT g5_22 ?_
  refine .q .move ?_
  refine TriOps.gT g5_22 ?_
  refine .q .eqI ?_
  refine .q (.pickFh g5_22) ?_
  refine .q .move ?_
  refine TriOps.split (t := 40) rfl (fun g5_26 => ?_) (fun g5_26 => ?_)
  refine TriOps.gF g5_26 ?_
  refine TriOps.gF g5_26 ?_
  refine .q (.pickTh g5_26) ?_
  refine .q .move ?_
  refine TriOps.gf rfl rfl ?_
  refine TriOps.gf rfl rfl ?_
  refine .q .pickT ?_
  refine .q .not ?_
  refine .nil (seqQ_n ?_)
  refine .condF ?_
  refine .skip ?_
  · exact joinQ_n () (by clear hp; simp_all [zId, zSmall, zFig] <;> omega) (((EnvLe.nil _).cons rfl).cons rfl) (HLe.refl _)
  refine TriOps.gT g5_26 ?_
  refine .q .move ?_
  refine TriOps.gT g5_26 ?_
  refine .q .eqI ?_
  refine .q (.pickFh g5_26) ?_
  refine .q .move ?_
  refine TriOps.split (t := 44) rfl (fun g5_30 => ?_) (fun g5_30 => ?_)
  refine TriOps.gF g5_30 ?_
  refine TriOps.gF g5_30 ?_
  refine .q (.pickTh g5_30) ?_
  refine .q .not ?_
  refine .nil (seqQ_n ?_)
  refine .condF ?_
  refine .skip ?_
  · exact joinQ_n () (by clear hp; simp_all [zId, zSmall, zFig] <;> omega) (((EnvLe.nil _).cons rfl).cons rfl) (HLe.refl _)
  refine TriOps.gT g5_30 ?_
  refine .q .move ?_
  refine TriOps.gT g5_30 ?_
  refine .q .eqI ?_
  refine .q (.pickFh g5_30) ?_
  refine .q .not ?_
  refine .nil (seqQ_n ?_)
  refine .cond rfl (fun h2 => ?_) (fun h2 => ?_)
  refine .seq (.region ?_)
  refine .q .assign ?_
  refine .nil (seqQ_n ?_)
  refine .ret (joinQ_r (blkQ_r (seqQ_r (loopQ_r (blkQ_r (seqQ_r (retQ_r _ (.one (.tmp rfl)) (.none _) ?_)))))))
  · refine ⟨?_, rfl⟩
    first
      | (rw [isID, hb, Value.bool.injEq, Bool.eq_iff_iff]; simp at g7_3 ⊢; omega)
      | (rw [isID, bAll_false hlt (by clear hp; simp_all [zId, zSmall, zFig] <;> omega)]; rfl)
  refine .skip ?_
  · exact joinQ_n () (by clear hp; simp_all [zId, zSmall, zFig] <;> omega) (((EnvLe.nil _).cons rfl).cons rfl) (HLe.refl _)
  refine TriOps.gF g5_17 ?_
  refine TriOps.gF g5_17 ?_
  refine TriOps.gt rfl ?_
  refine .q (.pickFh g5_17) ?_
  refine .q .pickF ?_
  refine .q .move ?_
  refine TriOps.gt rfl ?_
  refine .q .move ?_
  refine TriOps.gt rfl ?_
  refine .q .eqI ?_
  refine .q .pickF ?_
  refine .q .move ?_
  refine TriOps.split (t := 40) rfl (fun g5_26 => ?_) (fun g5_26 => ?_)
  refine TriOps.gF g5_26 ?_
  refine TriOps.gF g5_26 ?_
  refine .q (.pickTh g5_26) ?_
  refine .q .move ?_
  refine TriOps.gf rfl rfl ?_
  refine TriOps.gf rfl rfl ?_
  refine .q .pickT ?_
  refine .q .not ?_
  refine .nil (seqQ_n ?_)
  refine .condF ?_
  refine .skip ?_
  · exact joinQ_n () (by clear hp; simp_all [zId, zSmall, zFig] <;> omega) (((EnvLe.nil _).cons rfl).cons rfl) (HLe.refl _)
  refine TriOps.gT g5_26 ?_
  refine .q .move ?_
  refine TriOps.gT g5_26 ?_
  refine .q .eqI ?_
  refine .q (.pickFh g5_26) ?_
  refine .q .move ?_
  refine TriOps.split (t := 44) rfl (fun g5_30 => ?_) (fun g5_30 => ?_)
  refine TriOps.gF g5_30 ?_
  refine TriOps.gF g5_30 ?_
  refine .q (.pickTh g5_30) ?_
  refine .q .not ?_
  refine .nil (seqQ_n ?_)
  refine .condF ?_
  refine .skip ?_
  · exact joinQ_n () (by clear hp; simp_all [zId, zSmall, zFig] <;> omega) (((EnvLe.nil _).cons rfl).cons rfl) (HLe.refl _)
  refine TriOps.gT g5_30 ?_
  refine .q .move ?_
  refine TriOps.gT g5_30 ?_
  refine .q .eqI ?_
  refine .q (.pickFh g5_30) ?_
  refine .q .not ?_
  refine .nil (seqQ_n ?_)
  refine .cond rfl (fun h2 => ?_) (fun h2 => ?_)
  refine .seq (.region ?_)
  refine .q .assign ?_
  refine .nil (seqQ_n ?_)
  refine .ret (joinQ_r (blkQ_r (seqQ_r (loopQ_r (blkQ_r (seqQ_r (retQ_r _ (.one (.tmp rfl)) (.none _) ?_)))))))
  · refine ⟨?_, rfl⟩
    first
      | (rw [isID, hb, Value.bool.injEq, Bool.eq_iff_iff]; simp at g7_3 ⊢; omega)
      | (rw [isID, bAll_false hlt (by clear hp; simp_all [zId, zSmall, zFig] <;> omega)]; rfl)
  refine .skip ?_
  · exact joinQ_n () (by clear hp; simp_all [zId, zSmall, zFig] <;> omega) (((EnvLe.nil _).cons rfl).cons rfl) (HLe.refl _)
  refine TriOps.gF g5_2 ?_
  refine TriOps.gF g5_2 ?_
  refine .q (.pickFh g5_2) ?_
  refine .q .move ?_
  refine TriOps.gt rfl ?_
  refine .q .move ?_
  refine TriOps.gt rfl ?_
  refine .q .geq ?_
  refine TriOps.gt rfl ?_
  refine .q .move ?_
  refine TriOps.split (t := 23) rfl (fun g5_9 => ?_) (fun g5_9 => ?_)
  refine TriOps.gT g5_9 ?_
  refine .q .move ?_
  refine TriOps.gT g5_9 ?_
  refine .q .leq ?_
  refine TriOps.gt rfl ?_
  refine .q (.pickTh g5_9) ?_
  refine .q .pickF ?_
  refine .q .move ?_
  refine TriOps.split (t := 28) rfl (fun g5_14 => ?_) (fun g5_14 => ?_)
  refine TriOps.gF g5_14 ?_
  refine TriOps.gF g5_14 ?_
  refine TriOps.gF g5_14 ?_
  refine TriOps.gfU rfl ?_
  refine TriOps.gfU rfl ?_
  refine TriOps.gF g5_14 ?_
  refine .q (.pickTh g5_14) ?_
  refine .q .move ?_
  refine TriOps.gf rfl rfl ?_
  refine TriOps.gf rfl rfl ?_
  refine .q .pickT ?_
  refine .q .move ?_
  refine TriOps.gf rfl rfl ?_
  refine TriOps.gf rfl rfl ?_
  refine .q .pickT ?_
  refine .q .move ?_
  refine TriOps.gf rfl rfl ?_
  refine TriOps.gf rfl rfl ?_
  refine .q .pickT ?_
  refine .q .not ?_
  refine .nil (seqQ_n ?_)
  refine .condF ?_
  refine .skip ?_
  · exact joinQ_n () (by clear hp; simp_all [zId, zSmall, zFig] <;> omega) (((EnvLe.nil _).cons rfl).cons rfl) (HLe.refl _)
  refine TriOps.gT g5_14 ?_
  refine .q .move ?_
  refine TriOps.gT g5_14 ?_
  refine .q .geq ?_
  refine TriOps.gT g5_14 ?_
  refine .q .move ?_
  refine TriOps.split (t := 31) rfl (fun g5_17 => ?_) (fun g5_17 => ?_)
  refine TriOps.gT g5_17 ?_
  refine .q .move ?_
  refine TriOps.gT g5_17 ?_
  refine .q .leq ?_
  refine TriOps.gT g5_14 ?_
  refine .q (.pickTh g5_17) ?_
  refine .q (.pickFh g5_14) ?_
  refine .q .move ?_
  refine TriOps.split (t := 36) rfl (fun g5_22 => ?_) (fun g5_22 => ?_)
  refine TriOps.gF g5_22 ?_
  refine TriOps.gF g5_22 ?_
  refine .q (.pickTh g5_22) ?_
  refine .q .move ?_
  refine TriOps.gf rfl rfl ?_
  refine TriOps.gf rfl rfl ?_
  refine .q .pickT ?_
  refine .q .move ?_
  refine TriOps.gf rfl rfl ?_
  refine TriOps.gf rfl rfl ?_
  refine .q .pickT ?_
  refine .q .not ?_
  refine .nil (seqQ_n ?_)
  refine .condF ?_
  refine .skip ?_
  · exact joinQ_n () (by clear hp; simp_all [zId, zSmall, zFig] <;> omega) (((EnvLe.nil _).cons rfl).cons rfl) (HLe.refl _)
  refine TriOps.gT g5_22 ?_
  refine .q .move ?_
  refine TriOps.gT g5_22 ?_
  refine .q .eqI ?_
  refine .q (.pickFh g5_22) ?_
  refine .q .move ?_
  refine TriOps.split (t := 40) rfl (fun g5_26 => ?_) (fun g5_26 => ?_)
  refine TriOps.gF g5_26 ?_
  refine TriOps.gF g5_26 ?_
  refine .q (.pickTh g5_26) ?_
  refine .q .move ?_
  refine TriOps.gf rfl rfl ?_
  refine TriOps.gf rfl rfl ?_
  refine .q .pickT ?_
  refine .q .not ?_
  refine .nil (seqQ_n ?_)
  refine .condF ?_
  refine .skip ?_
  · exact joinQ_n () (by clear hp; simp_all [zId, zSmall, zFig] <;> omega) (((EnvLe.nil _).cons rfl).cons rfl) (HLe.refl _)
  refine TriOps.gT g5_26 ?_
  refine .q .move ?_
  refine TriOps.gT g5_26 ?_
  refine .q .eqI ?_
  refine .q (.pickFh g5_26) ?_
  refine .q .move ?_
  refine TriOps.split (t := 44) rfl (fun g5_30 => ?_) (fun g5_30 => ?_)
  refine TriOps.gF g5_30 ?_
  refine TriOps.gF g5_30 ?_
  refine .q (.pickTh g5_30) ?_
  refine .q .not ?_
  refine .nil (seqQ_n ?_)
  refine .condF ?_
  refine .skip ?_
  · exact joinQ_n () (by clear hp; simp_all [zId, zSmall, zFig] <;> omega) (((EnvLe.nil _).cons rfl).cons rfl) (HLe.refl _)
  refine TriOps.gT g5_30 ?_
  refine .q .move ?_
  refine TriOps.gT g5_30 ?_
  refine .q .eqI ?_
  refine .q (.pickFh g5_30) ?_
  refine .q .not ?_
  refine .nil (seqQ_n ?_)
  refine .cond rfl (fun h2 => ?_) (fun h2 => ?_)
  refine .seq (.region ?_)
  refine .q .assign ?_
  refine .nil (seqQ_n ?_)
  refine .ret (joinQ_r (blkQ_r (seqQ_r (loopQ_r (blkQ_r (seqQ_r (retQ_r _ (.one (.tmp rfl)) (.none _) ?_)))))))
  · refine ⟨?_, rfl⟩
    first
      | (rw [isID, hb, Value.bool.injEq, Bool.eq_iff_iff]; simp at g7_3 ⊢; omega)
      | (rw [isID, bAll_false hlt (by clear hp; simp_all [zId, zSmall, zFig] <;> omega)]; rfl)
  refine .skip ?_
  · exact joinQ_n () (by clear hp; simp_all [zId, zSmall, zFig] <;> omega) (((EnvLe.nil _).cons rfl).cons rfl) (HLe.refl _)
  refine TriOps.gF g5_17 ?_
  refine TriOps.gF g5_17 ?_
  refine TriOps.gT g5_14 ?_
  refine .q (.pickFh g5_17) ?_
  refine .q (.pickFh g5_14) ?_
  refine .q .move ?_
  refine TriOps.gt rfl ?_
  refine .q .move ?_
  refine TriOps.gt rfl ?_
  refine .q .eqI ?_
  refine .q .pickF ?_
  refine .q .move ?_
  refine TriOps.split (t := 40) rfl (fun g5_26 => ?_) (fun g5_26 => ?_)
  refine TriOps.gF g5_26 ?_
  refine TriOps.gF g5_26 ?_
  refine .q (.pickTh g5_26) ?_
  refine .q .move ?_
  refine TriOps.gf rfl rfl ?_
  refine TriOps.gf rfl rfl ?_
  refine .q .pickT ?_
  refine .q .not ?_
  refine .nil (seqQ_n ?_)
  refine .condF ?_
  refine .skip ?_
  · exact joinQ_n () (by clear hp; simp_all [zId, zSmall, zFig] <;> omega) (((EnvLe.nil _).cons rfl).cons rfl) (HLe.refl _)
  refine TriOps.gT g5_26 ?_
  refine .q .move ?_
  refine TriOps.gT g5_26 ?_
  refine .q .eqI ?_
  refine .q (.pickFh g5_26) ?_
  refine .q .move ?_
  refine TriOps.split (t := 44) rfl (fun g5_30 => ?_) (fun g5_30 => ?_)
  refine TriOps.gF g5_30 ?_
  refine TriOps.gF g5_30 ?_
  refine .q (.pickTh g5_30) ?_
  refine .q .not ?_
  refine .nil (seqQ_n ?_)
  refine .condF ?_
  refine .skip ?_
  · exact joinQ_n () (by clear hp; simp_all [zId, zSmall, zFig] <;> omega) (((EnvLe.nil _).cons rfl).cons rfl) (HLe.refl _)
  refine TriOps.gT g5_30 ?_
  refine .q .move ?_
  refine TriOps.gT g5_30 ?_
  refine .q .eqI ?_
  refine .q (.pickFh g5_30) ?_
  refine .q .not ?_
  refine .nil (seqQ_n ?_)
  refine .cond rfl (fun h2 => ?_) (fun h2 => ?_)
  refine .seq (.region ?_)
  refine .q .assign ?_
  refine .nil (seqQ_n ?_)
  refine .ret (joinQ_r (blkQ_r (seqQ_r (loopQ_r (blkQ_r (seqQ_r (retQ_r _ (.one (.tmp rfl)) (.none _) ?_)))))))
  · refine ⟨?_, rfl⟩
    first
      | (rw [isID, hb, Value.bool.injEq, Bool.eq_iff_iff]; simp at g7_3 ⊢; omega)
      | (rw [isID, bAll_false hlt (by clear hp; simp_all [zId, zSmall, zFig] <;> omega)]; rfl)
  refine .skip ?_
  · exact joinQ_n () (by clear hp; simp_all [zId, zSmall, zFig] <;> omega) (((EnvLe.nil _).cons rfl).cons rfl) (HLe.refl _)
  refine TriOps.gF g5_9 ?_
  refine TriOps.gF g5_9 ?_
  refine TriOps.gt rfl ?_
  refine .q (.pickFh g5_9) ?_
  refine .q .pickF ?_
  refine .q .move ?_
  refine TriOps.gt rfl ?_
  refine .q .move ?_
  refine TriOps.gt rfl ?_
  refine .q .geq ?_
  refine TriOps.gt rfl ?_
  refine .q .move ?_
  refine TriOps.split (t := 31) rfl (fun g5_17 => ?_) (fun g5_17 => ?_)
  refine TriOps.gT g5_17 ?_
  refine .q .move ?_
  refine TriOps.gT g5_17 ?_
  refine .q .leq ?_
  refine TriOps.gt rfl ?_
  refine .q (.pickTh g5_17) ?_
  refine .q .pickF ?_
  refine .q .move ?_
  refine TriOps.split (t := 36) rfl (fun g5_22 => ?_) (fun g5_22 => ?_)
  refine TriOps.gF g5_22 ?_
  refine TriOps.gF g5_22 ?_
  refine .q (.pickTh g5_22) ?_
  refine .q .move ?_
  refine TriOps.gf rfl rfl ?_
  refine TriOps.gf rfl rfl ?_
  refine .q .pickT ?_
  refine .q .move ?_
  refine TriOps.gf rfl rfl ?_
  refine TriOps.gf rfl rfl ?_
  refine .q .pickT ?_
  refine .q .not ?_
  refine .nil (seqQ_n ?_)
  refine .condF ?_
  refine .skip ?_
  · exact joinQ_n () (by clear hp; simp_all [zId, zSmall, zFig] <;> omega) (((EnvLe.nil _).cons rfl).cons rfl) (HLe.refl _)
  refine TriOps.gT g5_22 ?_
  refine .q .move ?_
  refine TriOps.gT g5_22 ?_
  refine .q .eqI ?_
  refine .q (.pickFh g5_22) ?_
  refine .q .move ?_
  refine TriOps.split (t := 40) rfl (fun g5_26 => ?_) (fun g5_26 => ?_)
  refine TriOps.gF g5_26 ?_
  refine TriOps.gF g5_26 ?_
  refine .q (.pickTh g5_26) ?_
  refine .q .move ?_
  refine TriOps.gf rfl rfl ?_
  refine TriOps.gf rfl rfl ?_
  refine .q .pickT ?_
  refine .q .not ?_
  refine .nil (seqQ_n ?_)
  refine .condF ?_
  refine .skip ?_
  · exact joinQ_n () (by clear hp; simp_all [zId, zSmall, zFig] <;> omega) (((EnvLe.nil _).cons rfl).cons rfl) (HLe.refl _)
  refine TriOps.gT g5_26 ?_
  refine .q .move ?_
  refine TriOps.gT g5_26 ?_
  refine .q .eqI ?_
  refine .q (.pickFh g5_26) ?_
  refine .q .move ?_
  refine TriOps.split (t := 44) rfl (fun g5_30 => ?_) (fun g5_30 => ?_)
  refine TriOps.gF g5_30 ?_
  refine TriOps.gF g5_30 ?_
  refine .q (.pickTh g5_30) ?_
  refine .q .not ?_
  refine .nil (seqQ_n ?_)
  refine .condF ?_
  refine .skip ?_
  · exact joinQ_n () (by clear hp; simp_all [zId, zSmall, zFig] <;> omega) (((EnvLe.nil _).cons rfl).cons rfl) (HLe.refl _)
  refine TriOps.gT g5_30 ?_
  refine .q .move ?_
  refine TriOps.gT g5_30 ?_
  refine .q .eqI ?_
  refine .q (.pickFh g5_30) ?_
  refine .q .not ?_
  refine .nil (seqQ_n ?_)
  refine .cond rfl (fun h2 => ?_) (fun h2 => ?_)
  refine .seq (.region ?_)
  refine .q .assign ?_
  refine .nil (seqQ_n ?_)
  refine .ret (joinQ_r (blkQ_r (seqQ_r (loopQ_r (blkQ_r (seqQ_r (retQ_r _ (.one (.tmp rfl)) (.none _) ?_)))))))
  · refine ⟨?_, rfl⟩
    first
      | (rw [isID, hb, Value.bool.injEq, Bool.eq_iff_iff]; simp at g7_3 ⊢; omega)
      | (rw [isID, bAll_false hlt (by clear hp; simp_all [zId, zSmall, zFig] <;> omega)]; rfl)
  refine .skip ?_
  · exact joinQ_n () (by clear hp; simp_all [zId, zSmall, zFig] <;> omega) (((EnvLe.nil _).cons rfl).cons rfl) (HLe.refl _)
  refine TriOps.gF g5_17 ?_
  refine TriOps.gF g5_17 ?_
  refine TriOps.gt rfl ?_
  refine .q (.pickFh g5_17) ?_
  refine .q .pickF ?_
  refine .q .move ?_
  refine TriOps.gt rfl ?_
  refine .q .move ?_
  refine TriOps.gt rfl ?_
  refine .q .eqI ?_
  refine .q .pickF ?_
  refine .q .move ?_
  refine TriOps.split (t := 40) rfl (fun g5_26 => ?_) (fun g5_26 => ?_)
  refine TriOps.gF g5_26 ?_
  refine TriOps.gF g5_26 ?_
  refine .q (.pickTh g5_26) ?_
  refine .q .move ?_
  refine TriOps.gf rfl rfl ?_
  refine TriOps.gf rfl rfl ?_
  refine .q .pickT ?_
  refine .q .not ?_
  refine .nil (seqQ_n ?_)
  refine .condF ?_
  refine .skip ?_
  · exact joinQ_n () (by clear hp; simp_all [zId, zSmall, zFig] <;> omega) (((EnvLe.nil _).cons rfl).cons rfl) (HLe.refl _)
  refine TriOps.gT g5_26 ?_
  refine .q .move ?_
  refine TriOps.gT g5_26 ?_
  refine .q .eqI ?_
  refine .q (.pickFh g5_26) ?_
  refine .q .move ?_
  refine TriOps.split (t := 44) rfl (fun g5_30 => ?_) (fun g5_30 => ?_)
  refine TriOps.gF g5_30 ?_
  refine TriOps.gF g5_30 ?_
  refine .q (.pickTh g5_30) ?_
  refine .q .not ?_
  refine .nil (seqQ_n ?_)
  refine .condF ?_
  refine .skip ?_
  · exact joinQ_n () (by clear hp; simp_all [zId, zSmall, zFig] <;> omega) (((EnvLe.nil _).cons rfl).cons rfl) (HLe.refl _)
  refine TriOps.gT g5_30 ?_
  refine .q .move ?_
  refine TriOps.gT g5_30 ?_
  refine .q .eqI ?_
  refine .q (.pickFh g5_30) ?_
  refine .q .not ?_
  refine .nil (seqQ_n ?_)
  refine .cond rfl (fun h2 => ?_) (fun h2 => ?_)
  refine .seq (.region ?_)
  refine .q .assign ?_
  refine .nil (seqQ_n ?_)
  refine .ret (joinQ_r (blkQ_r (seqQ_r (loopQ_r (blkQ_r (seqQ_r (retQ_r _ (.one (.tmp rfl)) (.none _) ?_)))))))
  · refine ⟨?_, rfl⟩
    first
      | (rw [isID, hb, Value.bool.injEq, Bool.eq_iff_iff]; simp at g7_3 ⊢; omega)
      | (rw [isID, bAll_false hlt (by clear hp; simp_all [zId, zSmall, zFig] <;> omega)]; rfl)
  refine .skip ?_
  · exact joinQ_n () (by clear hp; simp_all [zId, zSmall, zFig] <;> omega) (((EnvLe.nil _).cons rfl).cons rfl) (HLe.refl _)
  intro y hy
  refine blkQ_n (seqQ_n ?_)
  refine .region ?_
  refine .q .move ?_
  refine .q (.inc (n := i) (by omega)) ?_
  refine .q .assign ?_
  refine .nil ?_
  · exact loopQ_i (i + 1) ⟨by omega, fun j hj hji => by
      rcases Nat.lt_or_ge j i with hh | hh
      · exact hp j hj hh
      · obtain rfl : j = i := by omega
        exact hy⟩ (by omega) (((EnvLe.nil _).cons rfl).cons rfl) (HLe.refl _)
  have hb : bAll s zId = true := bAll_true fun j hj => hp j hj (by simp at h1; omega)
  refine .exit (seqQ_x (loopQ_x (blkQ_x ?_)))
  refine seqQ_n ?_
  refine .seq (.region ?_)
  refine .q .move ?_
  refine .q .lenS ?_
  refine .q .geq ?_
  refine .q .move ?_
  refine TriOps.split (t := 52) rfl (fun g7_3 => ?_) (fun g7_3 => ?_)
  refine TriOps.gT g7_3 ?_
  refine .q .move ?_
  refine TriOps.gT g7_3 ?_
  refine .q .lenS ?_
  refine TriOps.gT g7_3 ?_
  refine .q .leq ?_
  refine .q (.pickTh g7_3) ?_
  refine .q .assign ?_
  refine .nil (seqQ_n ?_)
  refine .ret (retQ_r _ (.one (.tmp rfl)) (.none _) ?_)
  · refine ⟨?_, rfl⟩
    first
      | (rw [isID, hb, Value.bool.injEq, Bool.eq_iff_iff]; simp at g7_3 ⊢; omega)
      | (rw [isID, bAll_false hlt (by clear hp; simp_all [zId, zSmall, zFig] <;> omega)]; rfl)
  refine TriOps.gF g7_3 ?_
  refine TriOps.gF g7_3 ?_
  refine TriOps.gF g7_3 ?_
  refine .q (.pickFh g7_3) ?_
  refine .q .assign ?_
  refine .nil (seqQ_n ?_)
  refine .ret (retQ_r _ (.one (.tmp rfl)) (.none _) ?_)
  · refine ⟨?_, rfl⟩
    first
      | (rw [isID, hb, Value.bool.injEq, Bool.eq_iff_iff]; simp at g7_3 ⊢; omega)
      | (rw [isID, bAll_false hlt (by clear hp; simp_all [zId, zSmall, zFig] <;> omega)]; rfl)
theorem rword_spec (s : ByteArray) (hs : s.size ≤ 9223372036854775807) (R : Rds) : Spec Tryz.prog 93 [.string s] R [] fun v H' => v = .bool (isWord s) ∧ H' = [] := by
  refine Spec.body Tryz.func93 rfl Tryz.results93 Tryz.ntmps93 rfl ?_
  refine .seq (.region ?_)
  refine .q .assign ?_
  refine .nil (seqQ_n ?_)
  refine .seq ?_
  refine .seq (.region ?_)
  refine .q .move ?_
  refine .q .lenS ?_
  refine .q .lss ?_
  refine .q .move ?_
  refine TriOps.split (t := 8) rfl (fun g1_3 => ?_) (fun g1_3 => ?_)
  refine TriOps.gF g1_3 ?_
  refine TriOps.gF g1_3 ?_
  refine TriOps.gF g1_3 ?_
  refine .q (.pickTh g1_3) ?_
  refine .q .move ?_
  refine TriOps.gf rfl rfl ?_
  refine TriOps.gf rfl rfl ?_
  refine TriOps.gf rfl rfl ?_
  refine .q .pickT ?_
  refine .q .move ?_
  refine TriOps.gf rfl rfl ?_
  refine TriOps.gf rfl rfl ?_
  refine TriOps.gf rfl rfl ?_
  refine .q .pickT ?_
  refine .nil (seqQ_n ?_)
  refine .condT ?_
  refine .seq (.region ?_)
  refine .q .assign ?_
  refine .nil (seqQ_n ?_)
  refine .ret (seqQ_r (retQ_r _ (.one (.tmp rfl)) (.none _) ?_))
  · refine ⟨?_, rfl⟩
    first
      | (rw [hw]; simp_all [reserved])
      | (rw [isWord_all (bAll_false hlt (by clear hp; simp_all [zWord, zSmall, zFig] <;> omega))])
      | (rw [isWord_short (by simp at g1_3; omega)])
      | (rw [isWord_short (by simp at g1_8; omega)])
      | (rw [isWord_first hp0 (by simp_all [zSmall] <;> omega)])
  refine TriOps.gT g1_3 ?_
  refine .q .move ?_
  refine TriOps.gT g1_3 ?_
  refine .q .lenS ?_
  refine TriOps.gT g1_3 ?_
  refine .q .gtr ?_
  refine .q (.pickFh g1_3) ?_
  refine .q .move ?_
  refine TriOps.split (t := 13) rfl (fun g1_8 => ?_) (fun g1_8 => ?_)
  refine TriOps.gF g1_8 ?_
  refine TriOps.gF g1_8 ?_
  refine TriOps.gF g1_8 ?_
  refine .q (.pickTh g1_8) ?_
  refine .q .move ?_
  refine TriOps.gf rfl rfl ?_
  refine TriOps.gf rfl rfl ?_
  refine TriOps.gf rfl rfl ?_
  refine .q .pickT ?_
  refine .nil (seqQ_n ?_)
  refine .condT ?_
  refine .seq (.region ?_)
  refine .q .assign ?_
  refine .nil (seqQ_n ?_)
  refine .ret (seqQ_r (retQ_r _ (.one (.tmp rfl)) (.none _) ?_))
  · refine ⟨?_, rfl⟩
    first
      | (rw [hw]; simp_all [reserved])
      | (rw [isWord_all (bAll_false hlt (by clear hp; simp_all [zWord, zSmall, zFig] <;> omega))])
      | (rw [isWord_short (by simp at g1_3; omega)])
      | (rw [isWord_short (by simp at g1_8; omega)])
      | (rw [isWord_first hp0 (by simp_all [zSmall] <;> omega)])
  have hp0 : 0 < s.size := by simp at g1_3; omega
  refine TriOps.gT g1_8 ?_
  refine .q .move ?_
  refine TriOps.gT g1_8 ?_
  refine .q (.indexS 0 hp0) ?_
  refine TriOps.gT g1_8 ?_
  refine .q .lss ?_
  refine .q (.pickFh g1_8) ?_
  refine .q .move ?_
  refine TriOps.split (t := 18) rfl (fun g1_13 => ?_) (fun g1_13 => ?_)
  refine TriOps.gF g1_13 ?_
  refine TriOps.gF g1_13 ?_
  refine TriOps.gF g1_13 ?_
  refine .q (.pickTh g1_13) ?_
  refine .nil (seqQ_n ?_)
  refine .condT ?_
  refine .seq (.region ?_)
  refine .q .assign ?_
  refine .nil (seqQ_n ?_)
  refine .ret (seqQ_r (retQ_r _ (.one (.tmp rfl)) (.none _) ?_))
  · refine ⟨?_, rfl⟩
    first
      | (rw [hw]; simp_all [reserved])
      | (rw [isWord_all (bAll_false hlt (by clear hp; simp_all [zWord, zSmall, zFig] <;> omega))])
      | (rw [isWord_short (by simp at g1_3; omega)])
      | (rw [isWord_short (by simp at g1_8; omega)])
      | (rw [isWord_first hp0 (by simp_all [zSmall] <;> omega)])
  refine TriOps.gT g1_13 ?_
  refine .q .move ?_
  refine TriOps.gT g1_13 ?_
  refine .q (.indexS 0 hp0) ?_
  refine TriOps.gT g1_13 ?_
  refine .q .gtr ?_
  refine .q (.pickFh g1_13) ?_
  refine .nil (seqQ_n ?_)
  refine .cond rfl (fun h1 => ?_) (fun h1 => ?_)
  refine .seq (.region ?_)
  refine .q .assign ?_
  refine .nil (seqQ_n ?_)
  refine .ret (seqQ_r (retQ_r _ (.one (.tmp rfl)) (.none _) ?_))
  · refine ⟨?_, rfl⟩
    first
      | (rw [hw]; simp_all [reserved])
      | (rw [isWord_all (bAll_false hlt (by clear hp; simp_all [zWord, zSmall, zFig] <;> omega))])
      | (rw [isWord_short (by simp at g1_3; omega)])
      | (rw [isWord_short (by simp at g1_8; omega)])
      | (rw [isWord_first hp0 (by simp_all [zSmall] <;> omega)])
  have hp1 : 0 < s.size ∧ s.size ≤ 32 := by simp at g1_3 g1_8; omega
  have hz0 : zSmall (s[0]'hp0).toNat = true := by simp at g1_13 h1; simp [zSmall]; omega
  refine .skip ?_
  refine seqQ_n ?_
  refine .seq ?_
  refine .seq (.region ?_)
  refine .q .assign ?_
  refine .nil (seqQ_n ?_)
  refine .block ?_
  refine .loop (X := Nat) (fun i => i ≤ s.size ∧ ∀ j (hj : j < s.size), j < i → zWord (s[j]'hj).toNat = true) (fun i => [(0, .string s), (3, .int .i64 (i : Nat))]) (fun _ => []) (fun i => s.size - i) 0 ⟨by omega, by omega⟩ (((EnvLe.nil _).cons rfl).cons rfl) (HLe.refl _) ?_
  rintro i ⟨hi, hp⟩
  refine .seq ?_
  refine .seq (.region ?_)
  refine .q .move ?_
  refine .q .move ?_
  refine .q .lenS ?_
  refine .q .lss ?_
  refine .nil (seqQ_n ?_)
  refine .cond rfl (fun h2 => ?_) (fun h2 => ?_)
  have hlt : i < s.size := by simp at h2; omega
  refine .skip ?_
  refine seqQ_n ?_
  refine .seq ?_
  refine .block ?_
  refine .seq (.region ?_)
  refine .q .move ?_
  refine .q .move ?_
  refine .q (.indexS i hlt) ?_
  refine .q .assign ?_
  refine .nil (seqQ_n ?_)
  refine Tri.cut (X := Unit) (fun _ => zWord (s[i]'hlt).toNat = true) (fun _ => [(0, .string s), (3, .int .i64 (i : Nat))]) (fun _ => []) ?_ ?_
  refine .seq (.region ?_)
  refine .q .move ?_
  refine .q .geq ?_
  refine .q .move ?_
  refine TriOps.split (t := 34) rfl (fun g7_2 => ?_) (fun g7_2 => ?_)
  refine TriOps.gT g7_2 ?_
  refine .q .move ?_
  refine TriOps.gT g7_2 ?_
  refine .q .leq ?_
  refine .q (.pickTh g7_2) ?_
  refine .q .move ?_
  refine TriOps.split (t := 38) rfl (fun g7_6 => ?_) (fun g7_6 => ?_)
  refine TriOps.gF g7_6 ?_
  refine TriOps.gF g7_6 ?_
  refine TriOps.gF g7_6 ?_
  refine TriOps.gfU rfl ?_
  refine TriOps.gfU rfl ?_
  refine TriOps.gF g7_6 ?_
  refine .q (.pickTh g7_6) ?_
  refine .q .move ?_
  refine TriOps.gf rfl rfl ?_
  refine TriOps.gf rfl rfl ?_
  refine .q .pickT ?_
  refine .q .not ?_
  refine .nil (seqQ_n ?_)
  refine .condF ?_
  refine .skip ?_
  · exact joinQ_n () (by clear hp; simp_all [zWord, zSmall, zFig] <;> omega) (((EnvLe.nil _).cons rfl).cons rfl) (HLe.refl _)
  refine TriOps.gT g7_6 ?_
  refine .q .move ?_
  refine TriOps.gT g7_6 ?_
  refine .q .geq ?_
  refine TriOps.gT g7_6 ?_
  refine .q .move ?_
  refine TriOps.split (t := 41) rfl (fun g7_9 => ?_) (fun g7_9 => ?_)
  refine TriOps.gT g7_9 ?_
  refine .q .move ?_
  refine TriOps.gT g7_9 ?_
  refine .q .leq ?_
  refine TriOps.gT g7_6 ?_
  refine .q (.pickTh g7_9) ?_
  refine .q (.pickFh g7_6) ?_
  refine .q .move ?_
  refine TriOps.split (t := 46) rfl (fun g7_14 => ?_) (fun g7_14 => ?_)
  refine TriOps.gF g7_14 ?_
  refine TriOps.gF g7_14 ?_
  refine .q (.pickTh g7_14) ?_
  refine .q .not ?_
  refine .nil (seqQ_n ?_)
  refine .condF ?_
  refine .skip ?_
  · exact joinQ_n () (by clear hp; simp_all [zWord, zSmall, zFig] <;> omega) (((EnvLe.nil _).cons rfl).cons rfl) (HLe.refl _)
  refine TriOps.gT g7_14 ?_
  refine .q .move ?_
  refine TriOps.gT g7_14 ?_
  refine .q .eqI ?_
  refine .q (.pickFh g7_14) ?_
  refine .q .not ?_
  refine .nil (seqQ_n ?_)
  refine .cond rfl (fun h3 => ?_) (fun h3 => ?_)
  refine .seq (.region ?_)
  refine .q .assign ?_
  refine .nil (seqQ_n ?_)
  refine .ret (joinQ_r (blkQ_r (seqQ_r (loopQ_r (blkQ_r (seqQ_r (retQ_r _ (.one (.tmp rfl)) (.none _) ?_)))))))
  · refine ⟨?_, rfl⟩
    first
      | (rw [hw]; simp_all [reserved])
      | (rw [isWord_all (bAll_false hlt (by clear hp; simp_all [zWord, zSmall, zFig] <;> omega))])
      | (rw [isWord_short (by simp at g1_3; omega)])
      | (rw [isWord_short (by simp at g1_8; omega)])
      | (rw [isWord_first hp0 (by simp_all [zSmall] <;> omega)])
  refine .skip ?_
  · exact joinQ_n () (by clear hp; simp_all [zWord, zSmall, zFig] <;> omega) (((EnvLe.nil _).cons rfl).cons rfl) (HLe.refl _)
  refine TriOps.gF g7_9 ?_
  refine TriOps.gF g7_9 ?_
  refine TriOps.gT g7_6 ?_
  refine .q (.pickFh g7_9) ?_
  refine .q (.pickFh g7_6) ?_
  refine .q .move ?_
  refine TriOps.gt rfl ?_
  refine .q .move ?_
  refine TriOps.gt rfl ?_
  refine .q .eqI ?_
  refine .q .pickF ?_
  refine .q .not ?_
  refine .nil (seqQ_n ?_)
  refine .cond rfl (fun h3 => ?_) (fun h3 => ?_)
  refine .seq (.region ?_)
  refine .q .assign ?_
  refine .nil (seqQ_n ?_)
  refine .ret (joinQ_r (blkQ_r (seqQ_r (loopQ_r (blkQ_r (seqQ_r (retQ_r _ (.one (.tmp rfl)) (.none _) ?_)))))))
  · refine ⟨?_, rfl⟩
    first
      | (rw [hw]; simp_all [reserved])
      | (rw [isWord_all (bAll_false hlt (by clear hp; simp_all [zWord, zSmall, zFig] <;> omega))])
      | (rw [isWord_short (by simp at g1_3; omega)])
      | (rw [isWord_short (by simp at g1_8; omega)])
      | (rw [isWord_first hp0 (by simp_all [zSmall] <;> omega)])
  refine .skip ?_
  · exact joinQ_n () (by clear hp; simp_all [zWord, zSmall, zFig] <;> omega) (((EnvLe.nil _).cons rfl).cons rfl) (HLe.refl _)
  refine TriOps.gF g7_2 ?_
  refine TriOps.gF g7_2 ?_
  refine .q (.pickFh g7_2) ?_
  refine .q .move ?_
  refine TriOps.gt rfl ?_
  refine .q .move ?_
  refine TriOps.gt rfl ?_
  refine .q .geq ?_
  refine TriOps.gt rfl ?_
  refine .q .move ?_
  refine TriOps.split (t := 41) rfl (fun g7_9 => ?_) (fun g7_9 => ?_)
  refine TriOps.gT g7_9 ?_
  refine .q .move ?_
  refine TriOps.gT g7_9 ?_
  refine .q .leq ?_
  refine TriOps.gt rfl ?_
  refine .q (.pickTh g7_9) ?_
  refine .q .pickF ?_
  refine .q .move ?_
  refine TriOps.split (t := 46) rfl (fun g7_14 => ?_) (fun g7_14 => ?_)
  refine TriOps.gF g7_14 ?_
  refine TriOps.gF g7_14 ?_
  refine .q (.pickTh g7_14) ?_
  refine .q .not ?_
  refine .nil (seqQ_n ?_)
  refine .condF ?_
  refine .skip ?_
  · exact joinQ_n () (by clear hp; simp_all [zWord, zSmall, zFig] <;> omega) (((EnvLe.nil _).cons rfl).cons rfl) (HLe.refl _)
  refine TriOps.gT g7_14 ?_
  refine .q .move ?_
  refine TriOps.gT g7_14 ?_
  refine .q .eqI ?_
  refine .q (.pickFh g7_14) ?_
  refine .q .not ?_
  refine .nil (seqQ_n ?_)
  refine .cond rfl (fun h3 => ?_) (fun h3 => ?_)
  refine .seq (.region ?_)
  refine .q .assign ?_
  refine .nil (seqQ_n ?_)
  refine .ret (joinQ_r (blkQ_r (seqQ_r (loopQ_r (blkQ_r (seqQ_r (retQ_r _ (.one (.tmp rfl)) (.none _) ?_)))))))
  · refine ⟨?_, rfl⟩
    first
      | (rw [hw]; simp_all [reserved])
      | (rw [isWord_all (bAll_false hlt (by clear hp; simp_all [zWord, zSmall, zFig] <;> omega))])
      | (rw [isWord_short (by simp at g1_3; omega)])
      | (rw [isWord_short (by simp at g1_8; omega)])
      | (rw [isWord_first hp0 (by simp_all [zSmall] <;> omega)])
  refine .skip ?_
  · exact joinQ_n () (by clear hp; simp_all [zWord, zSmall, zFig] <;> omega) (((EnvLe.nil _).cons rfl).cons rfl) (HLe.refl _)
  refine TriOps.gF g7_9 ?_
  refine TriOps.gF g7_9 ?_
  refine TriOps.gt rfl ?_
  refine .q (.pickFh g7_9) ?_
  refine .q .pickF ?_
  refine .q .move ?_
  refine TriOps.gt rfl ?_
  refine .q .move ?_
  refine TriOps.gt rfl ?_
  refine .q .eqI ?_
  refine .q .pickF ?_
  refine .q .not ?_
  refine .nil (seqQ_n ?_)
  refine .cond rfl (fun h3 => ?_) (fun h3 => ?_)
  refine .seq (.region ?_)
  refine .q .assign ?_
  refine .nil (seqQ_n ?_)
  refine .ret (joinQ_r (blkQ_r (seqQ_r (loopQ_r (blkQ_r (seqQ_r (retQ_r _ (.one (.tmp rfl)) (.none _) ?_)))))))
  · refine ⟨?_, rfl⟩
    first
      | (rw [hw]; simp_all [reserved])
      | (rw [isWord_all (bAll_false hlt (by clear hp; simp_all [zWord, zSmall, zFig] <;> omega))])
      | (rw [isWord_short (by simp at g1_3; omega)])
      | (rw [isWord_short (by simp at g1_8; omega)])
      | (rw [isWord_first hp0 (by simp_all [zSmall] <;> omega)])
  refine .skip ?_
  · exact joinQ_n () (by clear hp; simp_all [zWord, zSmall, zFig] <;> omega) (((EnvLe.nil _).cons rfl).cons rfl) (HLe.refl _)
  intro y hy
  refine blkQ_n (seqQ_n ?_)
  refine .region ?_
  refine .q .move ?_
  refine .q (.inc (n := i) (by omega)) ?_
  refine .q .assign ?_
  refine .nil ?_
  · exact loopQ_i (i + 1) ⟨by omega, fun j hj hji => by
      rcases Nat.lt_or_ge j i with hh | hh
      · exact hp j hj hh
      · obtain rfl : j = i := by omega
        exact hy⟩ (by omega) (((EnvLe.nil _).cons rfl).cons rfl) (HLe.refl _)
  have hb : bAll s zWord = true := bAll_true fun j hj => hp j hj (by simp at h2; omega)
  have hw := isWord_of hp0 hp1.2 hz0 hb
  refine .exit (seqQ_x (loopQ_x (blkQ_x ?_)))
  refine seqQ_n ?_
  refine .seq (.region ?_)
  refine .q .move ?_
  refine .q .neS ?_
  refine .q .move ?_
  refine TriOps.split (t := 53) rfl (fun g9_2 => ?_) (fun g9_2 => ?_)
  refine TriOps.gT g9_2 ?_
  refine .q .move ?_
  refine TriOps.gT g9_2 ?_
  refine .q .neS ?_
  refine .q (.pickTh g9_2) ?_
  refine .q .move ?_
  refine TriOps.split (t := 57) rfl (fun g9_6 => ?_) (fun g9_6 => ?_)
  refine TriOps.gT g9_6 ?_
  refine .q .move ?_
  refine TriOps.gT g9_6 ?_
  refine .q .neS ?_
  refine .q (.pickTh g9_6) ?_
  refine .q .move ?_
  refine TriOps.split (t := 61) rfl (fun g9_10 => ?_) (fun g9_10 => ?_)
  refine TriOps.gT g9_10 ?_
  refine .q .move ?_
  refine TriOps.gT g9_10 ?_
  refine .q .neS ?_
  refine .q (.pickTh g9_10) ?_
  refine .q .move ?_
  refine TriOps.split (t := 65) rfl (fun g9_14 => ?_) (fun g9_14 => ?_)
  refine TriOps.gT g9_14 ?_
  refine .q .move ?_
  refine TriOps.gT g9_14 ?_
  refine .q .neS ?_
  refine .q (.pickTh g9_14) ?_
  refine .q .assign ?_
  refine .nil (seqQ_n ?_)
  refine .ret (retQ_r _ (.one (.tmp rfl)) (.none _) ?_)
  · refine ⟨?_, rfl⟩
    first
      | (rw [hw]; simp_all [reserved])
      | (rw [isWord_all (bAll_false hlt (by clear hp; simp_all [zWord, zSmall, zFig] <;> omega))])
      | (rw [isWord_short (by simp at g1_3; omega)])
      | (rw [isWord_short (by simp at g1_8; omega)])
      | (rw [isWord_first hp0 (by simp_all [zSmall] <;> omega)])
  refine TriOps.gF g9_14 ?_
  refine TriOps.gF g9_14 ?_
  refine .q (.pickFh g9_14) ?_
  refine .q .assign ?_
  refine .nil (seqQ_n ?_)
  refine .ret (retQ_r _ (.one (.tmp rfl)) (.none _) ?_)
  · refine ⟨?_, rfl⟩
    first
      | (rw [hw]; simp_all [reserved])
      | (rw [isWord_all (bAll_false hlt (by clear hp; simp_all [zWord, zSmall, zFig] <;> omega))])
      | (rw [isWord_short (by simp at g1_3; omega)])
      | (rw [isWord_short (by simp at g1_8; omega)])
      | (rw [isWord_first hp0 (by simp_all [zSmall] <;> omega)])
  refine TriOps.gF g9_10 ?_
  refine TriOps.gF g9_10 ?_
  refine .q (.pickFh g9_10) ?_
  refine .q .move ?_
  refine TriOps.gf rfl rfl ?_
  refine TriOps.gf rfl rfl ?_
  refine .q .pickF ?_
  refine .q .assign ?_
  refine .nil (seqQ_n ?_)
  refine .ret (retQ_r _ (.one (.tmp rfl)) (.none _) ?_)
  · refine ⟨?_, rfl⟩
    first
      | (rw [hw]; simp_all [reserved])
      | (rw [isWord_all (bAll_false hlt (by clear hp; simp_all [zWord, zSmall, zFig] <;> omega))])
      | (rw [isWord_short (by simp at g1_3; omega)])
      | (rw [isWord_short (by simp at g1_8; omega)])
      | (rw [isWord_first hp0 (by simp_all [zSmall] <;> omega)])
  refine TriOps.gF g9_6 ?_
  refine TriOps.gF g9_6 ?_
  refine .q (.pickFh g9_6) ?_
  refine .q .move ?_
  refine TriOps.gf rfl rfl ?_
  refine TriOps.gf rfl rfl ?_
  refine .q .pickF ?_
  refine .q .move ?_
  refine TriOps.gf rfl rfl ?_
  refine TriOps.gf rfl rfl ?_
  refine .q .pickF ?_
  refine .q .assign ?_
  refine .nil (seqQ_n ?_)
  refine .ret (retQ_r _ (.one (.tmp rfl)) (.none _) ?_)
  · refine ⟨?_, rfl⟩
    first
      | (rw [hw]; simp_all [reserved])
      | (rw [isWord_all (bAll_false hlt (by clear hp; simp_all [zWord, zSmall, zFig] <;> omega))])
      | (rw [isWord_short (by simp at g1_3; omega)])
      | (rw [isWord_short (by simp at g1_8; omega)])
      | (rw [isWord_first hp0 (by simp_all [zSmall] <;> omega)])
  refine TriOps.gF g9_2 ?_
  refine TriOps.gF g9_2 ?_
  refine .q (.pickFh g9_2) ?_
  refine .q .move ?_
  refine TriOps.gf rfl rfl ?_
  refine TriOps.gf rfl rfl ?_
  refine .q .pickF ?_
  refine .q .move ?_
  refine TriOps.gf rfl rfl ?_
  refine TriOps.gf rfl rfl ?_
  refine .q .pickF ?_
  refine .q .move ?_
  refine TriOps.gf rfl rfl ?_
  refine TriOps.gf rfl rfl ?_
  refine .q .pickF ?_
  refine .q .assign ?_
  refine .nil (seqQ_n ?_)
  refine .ret (retQ_r _ (.one (.tmp rfl)) (.none _) ?_)
  · refine ⟨?_, rfl⟩
    first
      | (rw [hw]; simp_all [reserved])
      | (rw [isWord_all (bAll_false hlt (by clear hp; simp_all [zWord, zSmall, zFig] <;> omega))])
      | (rw [isWord_short (by simp at g1_3; omega)])
      | (rw [isWord_short (by simp at g1_8; omega)])
      | (rw [isWord_first hp0 (by simp_all [zSmall] <;> omega)])
end Go.Proofs.YtconfddhmnipjaaGreat
set_option linter.unusedVariables false
set_option maxRecDepth 4000
namespace Go.Proofs.YtconfddhmnipjaaGreat
structure Tpl where
  os : ByteArray
  oi : ByteArray
  rel : ByteArray
  us : ByteArray
  ss : ByteArray
  si : ByteArray
  sr : ByteArray
def Tpl.enc (t : Tpl) : List Value := [.string t.os, .string t.oi, .string t.rel, .string t.us, .string t.ss, .string t.si, .string t.sr]
theorem Tpl.kinds (t : Tpl) : HasK [.s, .s, .s, .s, .s, .s, .s] t.enc := ⟨trivial, trivial, trivial, trivial, trivial, trivial, trivial, trivial⟩
theorem Tpl.eq_iff (a b : Tpl) : cellsEq a.enc b.enc = true ↔ a = b := by
  cases a; cases b
  simp only [Tpl.enc, cellsEq, cellEq, Tpl.mk.injEq]
  simp
instance decTpl : DecidableEq Tpl := fun a b => decidable_of_iff _ (Tpl.eq_iff a b)
theorem Tpl.eq (a b : Tpl) : cellsEq a.enc b.enc = decide (a = b) := by rw [Bool.eq_iff_iff, decide_eq_true_eq]; exact Tpl.eq_iff a b
instance Tpl.one (t : Tpl) : Ones t.enc := ⟨by simp [Tpl.enc, oneCell]⟩
/-- The subject, the object with the relation. -/
structure Sub where
  us : ByteArray
  ss : ByteArray
  si : ByteArray
  sr : ByteArray
def Sub.enc (t : Sub) : List Value := [.string t.us, .string t.ss, .string t.si, .string t.sr]
theorem Sub.kinds (t : Sub) : HasK [.s, .s, .s, .s] t.enc := ⟨trivial, trivial, trivial, trivial, trivial⟩
theorem Sub.eq_iff (a b : Sub) : cellsEq a.enc b.enc = true ↔ a = b := by
  cases a; cases b
  simp only [Sub.enc, cellsEq, cellEq, Sub.mk.injEq]
  simp
instance decSub : DecidableEq Sub := fun a b => decidable_of_iff _ (Sub.eq_iff a b)
theorem Sub.eq (a b : Sub) : cellsEq a.enc b.enc = decide (a = b) := by rw [Bool.eq_iff_iff, decide_eq_true_eq]; exact Sub.eq_iff a b
instance Sub.one (t : Sub) : Ones t.enc := ⟨by simp [Sub.enc, oneCell]⟩
structure Obr where
  os : ByteArray
  oi : ByteArray
  rel : ByteArray
def Obr.enc (t : Obr) : List Value := [.string t.os, .string t.oi, .string t.rel]
theorem Obr.kinds (t : Obr) : HasK [.s, .s, .s] t.enc := ⟨trivial, trivial, trivial, trivial⟩
theorem Obr.eq_iff (a b : Obr) : cellsEq a.enc b.enc = true ↔ a = b := by
  cases a; cases b
  simp only [Obr.enc, cellsEq, cellEq, Obr.mk.injEq]
  simp
instance decObr : DecidableEq Obr := fun a b => decidable_of_iff _ (Obr.eq_iff a b)
theorem Obr.eq (a b : Obr) : cellsEq a.enc b.enc = decide (a = b) := by rw [Bool.eq_iff_iff, decide_eq_true_eq]; exact Obr.eq_iff a b
instance Obr.one (t : Obr) : Ones t.enc := ⟨by simp [Obr.enc, oneCell]⟩
def Tpl.sub (t : Tpl) : Sub := ⟨t.us, t.ss, t.si, t.sr⟩
def Tpl.obr (t : Tpl) : Obr := ⟨t.os, t.oi, t.rel⟩
def srank (u : ByteArray) : Int := if u = ⟨#[]⟩ then 1 else 0
def tplcmp (a b : Tpl) : Int := orI [scmp a.os b.os, scmp a.oi b.oi, scmp a.rel b.rel, icmp (srank a.us) (srank b.us), scmp a.us b.us, scmp a.ss b.ss, scmp a.si b.si, scmp a.sr b.sr]
def tlt (a b : Tpl) : Bool := decide (tplcmp a b < 0)
theorem tplcmp_ok : CmpOK tplcmp :=
  (scmp_ok.map Tpl.os).cons ((scmp_ok.map Tpl.oi).cons ((scmp_ok.map Tpl.rel).cons ((icmp_ok.map fun t : Tpl => srank t.us).cons ((scmp_ok.map Tpl.us).cons ((scmp_ok.map Tpl.ss).cons ((scmp_ok.map Tpl.si).cons ((scmp_ok.map Tpl.sr).cons .nil)))))))
theorem tplcmp_zero {a b : Tpl} (h : tplcmp a b = 0) : a = b := by
  unfold tplcmp at h
  obtain ⟨h1, h⟩ := orI_zero h
  obtain ⟨h2, h⟩ := orI_zero h
  obtain ⟨h3, h⟩ := orI_zero h
  obtain ⟨h4, h⟩ := orI_zero h
  obtain ⟨h5, h⟩ := orI_zero h
  obtain ⟨h6, h⟩ := orI_zero h
  obtain ⟨h7, h⟩ := orI_zero h
  obtain ⟨h8, h⟩ := orI_zero h
  rw [scmp_eq] at h1 h2 h3 h5 h6 h7 h8
  cases a; cases b
  simp_all
/-- Which tuples are right. -/
def isRef (s i : ByteArray) : Bool := isWord s && isID i
def isSub (t : Sub) : Bool := if t.us = ⟨#[]⟩ then isRef t.ss t.si && isWord t.sr else isID t.us && (decide (t.ss = ⟨#[]⟩) && decide (t.si = ⟨#[]⟩) && decide (t.sr = ⟨#[]⟩))
def isTpl (t : Tpl) : Bool := isRef t.os t.oi && isWord t.rel && isSub t.sub
def tmatch (f t : Tpl) : Bool := (decide (f.os = ⟨#[]⟩) || decide (f.os = t.os)) && (decide (f.oi = ⟨#[]⟩) || decide (f.oi = t.oi)) && (decide (f.rel = ⟨#[]⟩) || decide (f.rel = t.rel)) && (decide (f.us = ⟨#[]⟩) || decide (f.us = t.us)) && (decide (f.ss = ⟨#[]⟩) || decide (f.ss = t.ss)) && (decide (f.si = ⟨#[]⟩) || decide (f.si = t.si)) && (decide (f.sr = ⟨#[]⟩) || decide (f.sr = t.sr))
end Go.Proofs.YtconfddhmnipjaaGreat
set_option linter.unusedVariables false
set_option maxRecDepth 4000
namespace Go.Proofs.YtconfddhmnipjaaGreat
structure SRow where
  t : Tpl
  fr : Int
  to : Int
def SRow.enc (x : SRow) : List Value := x.t.enc ++ [.int .u64 x.fr, .int .u64 x.to]
instance SRow.one (x : SRow) : Ones x.enc := ⟨by simp [SRow.enc, Tpl.enc, oneCell]⟩
structure Chg where
  put : Bool
  t : Tpl
def Chg.enc (c : Chg) : List Value := .bool c.put :: c.t.enc
instance Chg.one (c : Chg) : Ones c.enc := ⟨by simp [Chg.enc, Tpl.enc, oneCell]⟩
def encPt (b : Nat) : List Value := [.pointer (some ⟨b, 0, none⟩)]
def SRow.there (x : SRow) (r : Int) : Bool := decide (x.fr ≤ r) && (x.to == 0 || decide (r < x.to))
def SRow.openOf (t : Tpl) (x : SRow) : Bool := decide (x.t = t) && x.to == 0
/-- What is there at the head. -/
def sthere (L : List SRow) (t : Tpl) : Bool := L.any (SRow.openOf t)
def scheck (must no : List Tpl) (cs : List Chg) : Int :=
  if 32 < cs.length ∨ cs.length = 0 ∨ 32 < must.length ∨ 32 < no.length then 25
  else if must.any (fun t => !isTpl t) || no.any (fun t => !isTpl t) || cs.any (fun c => !isTpl c.t) then 9
  else if ¬ (cs.map (·.t)).Nodup then 2 else 0
def sputs (cs : List Chg) : Nat := (cs.filter (·.put)).length
def sfits (L : List SRow) (head : Int) (must no : List Tpl) (cs : List Chg) : Int :=
  if must.any (fun t => !sthere L t) || no.any (fun t => sthere L t) then 13
  else if cs.any (fun c => c.put && sthere L c.t) then 10
  else if cs.any (fun c => !c.put && !sthere L c.t) then 11
  else if 4611686018427387903 ≤ head ∨ 4096 < L.length + sputs cs ∧ 0 < sputs cs then 8 else 0
def SRow.close (t : Tpl) (r : Int) (x : SRow) : SRow := if x.openOf t then ⟨x.t, x.fr, r⟩ else x
def sapply (r : Int) (L : List SRow) (c : Chg) : List SRow := if c.put then L ++ [⟨c.t, r, 0⟩] else L.map (SRow.close c.t r)
structure Sto where
  rows : List SRow
  head : Int
  hor : Int
def scode (S : Sto) (must no : List Tpl) (cs : List Chg) : Int := if scheck must no cs ≠ 0 then scheck must no cs else sfits S.rows S.head must no cs
def swrite (S : Sto) (must no : List Tpl) (cs : List Chg) : Sto := if scode S must no cs = 0 then ⟨cs.foldl (sapply (S.head + 1)) S.rows, S.head + 1, S.hor⟩ else S
def scan (S : Sto) (r : Int) : Bool := decide (S.hor ≤ r) && decide (r ≤ S.head)
def skeep (h : Int) (x : SRow) : Bool := x.to == 0 || decide (h < x.to)
def scollect (S : Sto) (h : Int) : Sto := if scan S h then ⟨S.rows.filter (skeep h), S.head, h⟩ else S
end Go.Proofs.YtconfddhmnipjaaGreat
set_option linter.unusedVariables false
set_option maxRecDepth 4000
namespace Go.Proofs.YtconfddhmnipjaaGreat
structure SOK (S : Sto) : Prop where
  ok : ∀ x ∈ S.rows, isTpl x.t = true ∧ 1 ≤ x.fr ∧ x.fr ≤ S.head ∧ (x.to = 0 ∨ (x.fr < x.to ∧ S.hor < x.to ∧ x.to ≤ S.head))
  pw : S.rows.Pairwise fun x y => x.t = y.t → x.to ≠ 0 ∧ x.to ≤ y.fr
  len : S.rows.length ≤ 4096
  h0 : 0 ≤ S.hor
  h1 : S.hor ≤ S.head
  h2 : S.head ≤ 4611686018427387903
def srd (S : Sto) (f : Tpl) (r : Int) : List Tpl := (S.rows.filter fun x => x.there r && tmatch f x.t).map (·.t)
def closeAll (cs : List Chg) (r : Int) (x : SRow) : SRow := if x.to = 0 ∧ cs.any (fun c => !c.put && decide (c.t = x.t)) = true then ⟨x.t, x.fr, r⟩ else x
def news (cs : List Chg) (r : Int) : List SRow := (cs.filter (·.put)).map fun c => ⟨c.t, r, 0⟩
theorem closeAll_t {cs : List Chg} {r : Int} {x : SRow} : (closeAll cs r x).t = x.t ∧ (closeAll cs r x).fr = x.fr := by unfold closeAll; split <;> exact ⟨rfl, rfl⟩
theorem closeAll_shut {cs : List Chg} {r : Int} {x : SRow} (h : x.to ≠ 0) : closeAll cs r x = x := by unfold closeAll; rw [if_neg fun hh => h hh.1]
theorem closeAll_nil {r : Int} {x : SRow} : closeAll [] r x = x := by unfold closeAll; rw [if_neg (by simp)]
theorem sapply_all {r : Int} (hr : r ≠ 0) : ∀ (cs : List Chg) (L : List SRow), (cs.map (·.t)).Nodup → cs.foldl (sapply r) L = L.map (closeAll cs r) ++ news cs r
  | [], L, _ => by
    have : L.map (closeAll [] r) = L := by
      conv => rhs; rw [← List.map_id L]
      exact List.map_congr_left fun x _ => closeAll_nil
    simp [news, this]
  | c :: cs, L, hn => by
    rw [List.map_cons, List.nodup_cons] at hn
    rw [List.foldl_cons, sapply_all hr cs _ hn.2]
    have hfresh : ∀ x : SRow, x.t = c.t → closeAll cs r x = x := fun x hx => by
      unfold closeAll
      rw [if_neg]
      rintro ⟨_, h⟩
      obtain ⟨d, hd, hd2⟩ := List.any_eq_true.1 h
      simp only [Bool.and_eq_true, decide_eq_true_eq] at hd2
      exact hn.1 (List.mem_map.2 ⟨d, hd, hd2.2.trans hx⟩)
    cases hp : c.put with
    | true =>
      have e1 : closeAll (c :: cs) r = closeAll cs r := by
        funext x
        unfold closeAll
        simp only [List.any_cons, hp, Bool.not_true, Bool.false_and, Bool.false_or]
      have e2 : news (c :: cs) r = ⟨c.t, r, 0⟩ :: news cs r := by unfold news; rw [List.filter_cons, if_pos hp]; rfl
      rw [e1, e2]
      unfold sapply
      rw [if_pos hp, List.map_append, List.append_assoc]
      congr 1
      rw [List.map_cons, List.map_nil, hfresh _ rfl]; rfl
    | false =>
      have e2 : news (c :: cs) r = news cs r := by unfold news; rw [List.filter_cons, if_neg (by simp [hp])]
      rw [e2]
      unfold sapply
      rw [if_neg (by simp [hp]), List.map_map]
      congr 1
      refine List.map_congr_left fun x hx => ?_
      simp only [Function.comp]
      by_cases h1 : x.openOf c.t = true
      · have h2 : x.t = c.t ∧ x.to = 0 := by unfold SRow.openOf at h1; simpa using h1
        have e3 : SRow.close c.t r x = ⟨x.t, x.fr, r⟩ := by unfold SRow.close; rw [if_pos h1]
        rw [e3, closeAll_shut hr]
        unfold closeAll
        rw [if_pos ⟨h2.2, by simp [hp, h2.1]⟩]
      · have e3 : SRow.close c.t r x = x := by unfold SRow.close; rw [if_neg h1]
        rw [e3]
        unfold closeAll
        have h2 : x.to = 0 → ¬ c.t = x.t := fun h3 h4 => h1 (by unfold SRow.openOf; simp [h3, h4])
        by_cases h3 : x.to = 0
        · have h4 := h2 h3
          simp [h3, hp, h4]
        · rw [if_neg fun hh => h3 hh.1, if_neg fun hh => h3 hh.1]
structure WOK (S : Sto) (cs : List Chg) : Prop where
  right : ∀ c ∈ cs, isTpl c.t = true
  nd : (cs.map (·.t)).Nodup
  away : ∀ c ∈ cs, c.put = true → sthere S.rows c.t = false
  there : ∀ c ∈ cs, c.put = false → sthere S.rows c.t = true
  head : S.head < 4611686018427387903
  len : S.rows.length + sputs cs ≤ 4096 ∨ sputs cs = 0
theorem scode_zero {S : Sto} {must no : List Tpl} {cs : List Chg} (h : scode S must no cs = 0) : WOK S cs := by
  unfold scode at h
  split at h
  · rename_i h1; exact absurd h h1
  · rename_i h1
    have h1 : scheck must no cs = 0 := Classical.byContradiction h1
    unfold scheck at h1
    split at h1
    · cases h1
    · split at h1
      · cases h1
      · split at h1
        · cases h1
        · rename_i h2 h3 h4
          simp only [Bool.or_eq_true, not_or, List.any_eq_true, not_exists, not_and, Bool.not_eq_true', Bool.not_eq_false] at h3
          unfold sfits at h
          split at h
          · cases h
          · split at h
            · cases h
            · split at h
              · cases h
              · split at h
                · cases h
                · rename_i h5 h6 h7 h8
                  simp only [List.any_eq_true, not_exists, not_and, Bool.and_eq_true, Bool.not_eq_true', Bool.not_eq_true, Bool.not_eq_false] at h6 h7
                  refine ⟨fun c hc => h3.2 c hc, Classical.byContradiction h4, fun c hc hp => h6 c hc hp, fun c hc hp => h7 c hc hp, by omega, by omega⟩
theorem sthere_false {L : List SRow} {t : Tpl} : sthere L t = false ↔ ∀ x ∈ L, x.t = t → x.to ≠ 0 := by
  unfold sthere
  rw [List.any_eq_false]
  refine forall_congr' fun x => forall_congr' fun hx => ?_
  unfold SRow.openOf
  simp
theorem swrite_rows {S : Sto} (hS : SOK S) {must no : List Tpl} {cs : List Chg} (h : scode S must no cs = 0) : swrite S must no cs = ⟨S.rows.map (closeAll cs (S.head + 1)) ++ news cs (S.head + 1), S.head + 1, S.hor⟩ := by
  unfold swrite
  rw [if_pos h, sapply_all (by have := hS.h0; have := hS.h1; omega) _ _ (scode_zero h).nd]
theorem swrite_else {S : Sto} {must no : List Tpl} {cs : List Chg} (h : scode S must no cs ≠ 0) : swrite S must no cs = S := by unfold swrite; rw [if_neg h]
theorem news_mem {cs : List Chg} {r : Int} {x : SRow} : x ∈ news cs r ↔ ∃ c ∈ cs, c.put = true ∧ x = ⟨c.t, r, 0⟩ := by
  unfold news
  rw [List.mem_map]
  constructor
  · rintro ⟨c, hc, rfl⟩
    have := List.mem_filter.1 hc
    exact ⟨c, this.1, this.2, rfl⟩
  · rintro ⟨c, hc, hp, rfl⟩
    exact ⟨c, List.mem_filter.2 ⟨hc, hp⟩, rfl⟩
theorem SOK.write {S : Sto} (hS : SOK S) (must no : List Tpl) (cs : List Chg) : SOK (swrite S must no cs) := by
  by_cases h : scode S must no cs = 0
  · have hw := scode_zero h
    rw [swrite_rows hS h]
    have a0 := hS.h0; have a1 := hS.h1; have a2 := hS.h2; have a3 := hw.head
    refine ⟨fun x hx => ?_, ?_, ?_, a0, by simp only; omega, by simp only; omega⟩
    · simp only at hx ⊢
      rcases List.mem_append.1 hx with hx | hx
      · obtain ⟨y, hy, rfl⟩ := List.mem_map.1 hx
        obtain ⟨b1, b2, b3, b4⟩ := hS.ok y hy
        obtain ⟨c1, c2⟩ := closeAll_t (cs := cs) (r := S.head + 1) (x := y)
        rw [c1, c2]
        refine ⟨b1, b2, by omega, ?_⟩
        unfold closeAll
        split
        · right; simp only; omega
        · rcases b4 with b4 | b4
          · exact .inl b4
          · right; omega
      · obtain ⟨c, hc, hp, rfl⟩ := news_mem.1 hx
        exact ⟨hw.right c hc, by simp only; omega, by simp only; omega, .inl rfl⟩
    · simp only
      rw [List.pairwise_append]
      refine ⟨?_, ?_, fun x hx y hy => ?_⟩
      · rw [List.pairwise_map]
        refine hS.pw.imp fun {x y} hxy he => ?_
        obtain ⟨c1, c2⟩ := closeAll_t (cs := cs) (r := S.head + 1) (x := x)
        obtain ⟨c3, c4⟩ := closeAll_t (cs := cs) (r := S.head + 1) (x := y)
        rw [c1, c3] at he
        obtain ⟨d1, d2⟩ := hxy he
        rw [closeAll_shut d1, c4]
        exact ⟨d1, d2⟩
      · unfold news
        rw [List.pairwise_map]
        have := hw.nd
        rw [List.Nodup, List.pairwise_map] at this
        exact (this.sublist List.filter_sublist).imp fun {x y} hxy he => absurd he hxy
      · intro he
        obtain ⟨z, hz, rfl⟩ := List.mem_map.1 hx
        obtain ⟨c, hc, hp, rfl⟩ := news_mem.1 hy
        obtain ⟨c1, c2⟩ := closeAll_t (cs := cs) (r := S.head + 1) (x := z)
        rw [c1] at he
        have h5 := sthere_false.1 (hw.away c hc hp) z hz he
        rw [closeAll_shut h5]
        refine ⟨h5, ?_⟩
        obtain ⟨_, _, _, h6⟩ := hS.ok z hz
        simp only
        omega
    · simp only [List.length_append, List.length_map, news]
      have hl := hS.len
      have := hw.len
      unfold sputs at this
      omega
  · rw [swrite_else h]; exact hS
theorem SOK.collect {S : Sto} (hS : SOK S) (h : Int) : SOK (scollect S h) := by
  unfold scollect
  split
  · rename_i hc
    unfold scan at hc
    simp only [Bool.and_eq_true, decide_eq_true_eq] at hc
    have a0 := hS.h0; have a1 := hS.h1; have a2 := hS.h2
    refine ⟨fun x hx => ?_, hS.pw.sublist List.filter_sublist, Nat.le_trans (List.length_filter_le _ _) hS.len, by simp only; omega, by simp only; omega, a2⟩
    obtain ⟨h1, h2⟩ := List.mem_filter.1 hx
    obtain ⟨b1, b2, b3, b4⟩ := hS.ok x h1
    refine ⟨b1, b2, b3, ?_⟩
    unfold skeep at h2
    simp only [Bool.or_eq_true, beq_iff_eq, decide_eq_true_eq] at h2
    simp only
    omega
  · exact hS
/-- What is there: no tuple twice. -/
theorem SOK.there_nd {S : Sto} (hS : SOK S) (f : Tpl) (r : Int) : (srd S f r).Nodup := by
  unfold srd
  rw [List.Nodup, List.pairwise_map]
  refine (hS.pw.filter _).imp_of_mem fun {x y} hx hy hxy he => ?_
  obtain ⟨h1, h2⟩ := hxy he
  have h3 := (List.mem_filter.1 hx).2
  have h4 := (List.mem_filter.1 hy).2
  unfold SRow.there at h3 h4
  simp only [Bool.and_eq_true, decide_eq_true_eq, Bool.or_eq_true, beq_iff_eq] at h3 h4
  omega
theorem srd_mem {S : Sto} {f : Tpl} {r : Int} {t : Tpl} : t ∈ srd S f r ↔ ∃ x ∈ S.rows, x.t = t ∧ x.there r = true ∧ tmatch f t = true := by
  unfold srd
  rw [List.mem_map]
  constructor
  · rintro ⟨x, hx, rfl⟩
    obtain ⟨h1, h2⟩ := List.mem_filter.1 hx
    simp only [Bool.and_eq_true] at h2
    exact ⟨x, h1, rfl, h2⟩
  · rintro ⟨x, hx, rfl, h2, h3⟩
    exact ⟨x, List.mem_filter.2 ⟨hx, by simp [h2, h3]⟩, rfl⟩
end Go.Proofs.YtconfddhmnipjaaGreat
set_option linter.unusedVariables false
set_option linter.unusedSimpArgs false
set_option maxRecDepth 4000
namespace Go.Proofs.YtconfddhmnipjaaGreat
theorem sputs_take {cs : List Chg} {i : Nat} : sputs (cs.take i) ≤ sputs cs := (List.Sublist.filter _ (List.take_sublist i cs)).length_le
theorem WOK.take {S : Sto} {cs : List Chg} (h : WOK S cs) (i : Nat) : WOK S (cs.take i) := by
  have hm : ∀ c ∈ cs.take i, c ∈ cs := fun c hc => (List.take_sublist i cs).subset hc
  refine ⟨fun c hc => h.right c (hm c hc), h.nd.sublist ((List.take_sublist i cs).map _), fun c hc => h.away c (hm c hc), fun c hc => h.there c (hm c hc), h.head, ?_⟩
  have h1 := h.len
  have h2 := sputs_take (cs := cs) (i := i)
  omega
theorem SOK.fold {S : Sto} (hS : SOK S) {cs : List Chg} (hw : WOK S cs) : SOK ⟨cs.foldl (sapply (S.head + 1)) S.rows, S.head + 1, S.hor⟩ := by
  have a0 := hS.h0; have a1 := hS.h1; have a2 := hS.h2; have a3 := hw.head
  rw [sapply_all (by omega) _ _ hw.nd]
  refine ⟨fun x hx => ?_, ?_, ?_, a0, by simp only; omega, by simp only; omega⟩
  · simp only at hx ⊢
    rcases List.mem_append.1 hx with hx | hx
    · obtain ⟨y, hy, rfl⟩ := List.mem_map.1 hx
      obtain ⟨b1, b2, b3, b4⟩ := hS.ok y hy
      obtain ⟨c1, c2⟩ := closeAll_t (cs := cs) (r := S.head + 1) (x := y)
      rw [c1, c2]
      refine ⟨b1, b2, by omega, ?_⟩
      unfold closeAll
      split
      · right; simp only; omega
      · rcases b4 with b4 | b4
        · exact .inl b4
        · right; omega
    · obtain ⟨c, hc, hp, rfl⟩ := news_mem.1 hx
      exact ⟨hw.right c hc, by simp only; omega, by simp only; omega, .inl rfl⟩
  · simp only
    rw [List.pairwise_append]
    refine ⟨?_, ?_, fun x hx y hy => ?_⟩
    · rw [List.pairwise_map]
      refine hS.pw.imp fun {x y} hxy he => ?_
      obtain ⟨c1, c2⟩ := closeAll_t (cs := cs) (r := S.head + 1) (x := x)
      obtain ⟨c3, c4⟩ := closeAll_t (cs := cs) (r := S.head + 1) (x := y)
      rw [c1, c3] at he
      obtain ⟨d1, d2⟩ := hxy he
      rw [closeAll_shut d1, c4]
      exact ⟨d1, d2⟩
    · unfold news
      rw [List.pairwise_map]
      have := hw.nd
      rw [List.Nodup, List.pairwise_map] at this
      exact (this.sublist List.filter_sublist).imp fun {x y} hxy he => absurd he hxy
    · intro he
      obtain ⟨z, hz, rfl⟩ := List.mem_map.1 hx
      obtain ⟨c, hc, hp, rfl⟩ := news_mem.1 hy
      obtain ⟨c1, c2⟩ := closeAll_t (cs := cs) (r := S.head + 1) (x := z)
      rw [c1] at he
      have h5 := sthere_false.1 (hw.away c hc hp) z hz he
      rw [closeAll_shut h5]
      refine ⟨h5, ?_⟩
      obtain ⟨_, _, _, h6⟩ := hS.ok z hz
      simp only
      omega
  · simp only [List.length_append, List.length_map, news]
    have hl := hS.len
    have := hw.len
    unfold sputs at this
    omega
theorem openOf_close {t u : Tpl} {r : Int} {x : SRow} (h : u ≠ t) : (SRow.close u r x).openOf t = x.openOf t := by
  unfold SRow.close
  split
  · rename_i h1
    unfold SRow.openOf at h1 ⊢
    simp only [Bool.and_eq_true, decide_eq_true_eq] at h1
    have h2 : ¬ x.t = t := fun e => h (h1.1.symm.trans e)
    simp [h2]
  · rfl
theorem sthere_fold {r : Int} {t : Tpl} : ∀ (cs : List Chg) (L : List SRow), t ∉ cs.map (·.t) → sthere (cs.foldl (sapply r) L) t = sthere L t
  | [], _, _ => rfl
  | c :: cs, L, h => by
    rw [List.map_cons, List.mem_cons, not_or] at h
    rw [List.foldl_cons, sthere_fold cs _ h.2]
    unfold sapply sthere
    split
    · rw [List.any_append]
      have : SRow.openOf t ⟨c.t, r, 0⟩ = false := by
        unfold SRow.openOf
        have h9 : ¬ c.t = t := fun e => h.1 e.symm
        simp [h9]
      simp [this]
    · rw [List.any_map]
      congr 1
      funext x
      exact openOf_close fun e => h.1 e.symm
theorem close_set {L : List SRow} (hp : L.Pairwise fun x y => x.t = y.t → x.to ≠ 0 ∧ x.to ≤ y.fr) {j : Nat} {x : SRow} (hj : L[j]? = some x) {t : Tpl} (ho : x.openOf t = true) (r : Int) : L.map (SRow.close t r) = L.set j ⟨x.t, x.fr, r⟩ := by
  have ho2 : x.t = t ∧ x.to = 0 := by unfold SRow.openOf at ho; simpa using ho
  obtain ⟨hjl, hjx⟩ := List.getElem?_eq_some_iff.1 hj
  apply List.ext_getElem?
  intro k
  rw [List.getElem?_map, List.getElem?_set]
  by_cases hk : j = k
  · subst hk
    rw [if_pos rfl, if_pos hjl, hj]
    simp only [Option.map_some]
    unfold SRow.close
    rw [if_pos ho]
  · rw [if_neg hk]
    cases hy : L[k]? with
    | none => rfl
    | some y =>
      simp only [Option.map_some, Option.some.injEq]
      unfold SRow.close
      rw [if_neg]
      intro h2
      have h3 : y.t = t ∧ y.to = 0 := by unfold SRow.openOf at h2; simpa using h2
      obtain ⟨hkl, hky⟩ := List.getElem?_eq_some_iff.1 hy
      have hpp := List.pairwise_iff_getElem.1 hp
      rcases Nat.lt_or_gt_of_ne hk with h4 | h4
      · have := hpp j k hjl hkl h4
        rw [hjx, hky] at this
        exact (this (ho2.1.trans h3.1.symm)).1 ho2.2
      · have := hpp k j hkl hjl h4
        rw [hjx, hky] at this
        exact (this (h3.1.trans ho2.1.symm)).1 h3.2
end Go.Proofs.YtconfddhmnipjaaGreat
set_option linter.unusedVariables false
namespace Go.Proofs.YtconfddhmnipjaaGreat
section
variable {κ β : Type} [DecidableEq κ]
def kdel (k : κ) (A : List (κ × β)) : List (κ × β) := A.filter fun p => decide (p.1 ≠ k)
def kset (k : κ) (x : β) (A : List (κ × β)) : List (κ × β) := kdel k A ++ [(k, x)]
theorem kdel_perm {k : κ} {A B : List (κ × β)} (h : A.Perm B) : (kdel k A).Perm (kdel k B) := h.filter _
theorem kdel_none {k : κ} {A : List (κ × β)} (h : k ∉ A.map (·.1)) : kdel k A = A := by
  unfold kdel
  rw [List.filter_eq_self]
  intro p hp
  simp only [decide_eq_true_eq]
  exact fun e => h (e ▸ List.mem_map_of_mem hp)
theorem kdel_cons {k : κ} {x : β} {A : List (κ × β)} (h : k ∉ A.map (·.1)) : kdel k ((k, x) :: A) = A := by
  have := kdel_none h
  unfold kdel at *
  rw [List.filter_cons, if_neg (by simp)]
  exact this
theorem kdel_mid {k : κ} {x : β} {A B : List (κ × β)} (hn : ((A ++ (k, x) :: B).map (·.1)).Nodup) : kdel k (A ++ (k, x) :: B) = A ++ B := by
  simp only [List.map_append, List.map_cons, List.nodup_append, List.nodup_cons, List.mem_cons] at hn
  obtain ⟨_, ⟨h2, _⟩, h3⟩ := hn
  have e1 : kdel k A = A := kdel_none fun hm => h3 k hm k (.inl rfl) rfl
  have e2 : kdel k ((k, x) :: B) = B := kdel_cons h2
  unfold kdel at *
  rw [List.filter_append, e1, e2]
theorem mdel_kdel {k : κ} : ∀ {M : List (κ × β)}, (M.map (·.1)).Nodup → mdel k M = kdel k M
  | [], _ => rfl
  | (k', y) :: r, hn => by
    simp only [List.map_cons, List.nodup_cons] at hn
    simp only [mdel]
    split
    · rename_i he; subst he; exact (kdel_cons hn.1).symm
    · rename_i he
      rw [mdel_kdel hn.2]
      simp [kdel, Ne.symm he]
end
end Go.Proofs.YtconfddhmnipjaaGreat
set_option linter.unusedVariables false
namespace Go.Proofs.YtconfddhmnipjaaGreat
section
variable {κ β γ : Type}
variable [DecidableEq κ]
theorem mset_perm {k : κ} {x : β} : ∀ {M : List (κ × β)}, (M.map (·.1)).Nodup → (mset k x M).Perm (kset k x M)
  | [], _ => by simp [mset, kset, kdel]
  | (k', x') :: M, hn => by
    rw [List.map_cons, List.nodup_cons] at hn
    simp only [mset]
    split
    · rename_i h
      subst h
      unfold kset
      rw [kdel_cons hn.1]
      exact List.perm_append_comm (l₁ := [(k, x)])
    · rename_i h
      have ih := (mset_perm (k := k) (x := x) hn.2).cons (k', x')
      refine ih.trans (List.Perm.of_eq ?_)
      unfold kset kdel
      have : decide ((k', x').1 ≠ k) = true := decide_eq_true fun e => h e.symm
      rw [List.filter_cons, if_pos this]
      rfl
theorem mset_mem {k : κ} {x : β} {M : List (κ × β)} (hn : (M.map (·.1)).Nodup) {p : κ × β} (h : p ∈ mset k x M) : p ∈ M ∨ p = (k, x) := by
  have := (mset_perm hn).mem_iff.1 h
  rcases List.mem_append.1 this with h | h
  · exact .inl (List.mem_filter.1 h).1
  · exact .inr (by simpa using h)
end
end Go.Proofs.YtconfddhmnipjaaGreat
set_option linter.unusedVariables false
set_option maxRecDepth 4000
namespace Go.Proofs.YtconfddhmnipjaaGreat
abbrev RB : Type := Nat × SRow
def encRB (p : RB) : List Value := encPt p.1
theorem RS.of_map {α β : Type} {R : Rds} {sz : Nat} {enc : α → List Value} {f : β → α} {v : Value} {xs : List β} (h : RS R sz enc v (xs.map f)) : RS R sz (fun x => enc (f x)) v xs := by
  refine ⟨fun x hx => h.len _ (List.mem_map.2 ⟨x, hx, rfl⟩), fun x hx => h.one _ (List.mem_map.2 ⟨x, hx, rfl⟩), ?_⟩
  obtain ⟨p, cap, h1, h2, h3, h4⟩ := h.h
  rw [List.length_map] at h1 h2
  refine ⟨p, cap, h1, h2, h3, ?_⟩
  rcases h4 with h4 | ⟨b, off, c, E, fr, h5, h6, h7⟩
  · exact .inl (List.map_eq_nil_iff.1 h4)
  · exact .inr ⟨b, off, c, E, fr, h5, h6, by rwa [List.flatMap_map] at h7⟩
theorem OS.to_map {α β : Type} {E : TypeId} {sz : Nat} {enc : α → List Value} {f : β → α} {v : Value} {xs : List β} {T : Seg} (h : OS E sz (fun x => enc (f x)) v xs T) : OS E sz enc v (xs.map f) T := by
  refine ⟨fun x hx => ?_, fun x hx => ?_, ?_⟩
  · obtain ⟨y, hy, rfl⟩ := List.mem_map.1 hx
    exact h.len y hy
  · obtain ⟨y, hy, rfl⟩ := List.mem_map.1 hx
    exact h.one y hy
  · rcases h.h with ⟨h1, h2, h3⟩ | ⟨b, off, c, cap, h1, h2, h3, h4, h5, h6⟩
    · exact .inl ⟨h1, by rw [h2]; rfl, h3⟩
    · exact .inr ⟨b, off, c, cap, by rw [List.length_map]; exact h1, h2, by rw [List.length_map]; exact h3, h4, h5, by rw [List.flatMap_map]; exact h6⟩
def rowObj (x : SRow) : Obj := .cells x.enc.toArray 77 (0, 0)
def rowSeg (ps : List RB) : Seg := ps.map fun p => (p.1, rowObj p.2)
def ids {κ : Type} [DecidableEq κ] (key : SRow → κ) (k : κ) (ps : List RB) : List Nat := (ps.filter fun x => decide (key x.2 = k)).map (·.1)
section
variable {κ : Type} [DecidableEq κ] {encK : κ → Value} {key : SRow → κ}
/-- A map of slices: at each key the rows of that key; keys are there just if they have rows. -/
structure MFx (encK : κ → Value) (key : SRow → κ) (ps : List RB) (vm : Value) (M : List (κ × (Value × Seg))) (Tm Ts : Seg) : Prop where
  ms : MS encK (fun p : Value × Seg => p.1) vm M Tm
  pm : Ts.Perm (M.flatMap fun p => p.2.2)
  os : ∀ p ∈ M, OS 91 1 encPt p.2.1 (ids key p.1 ps) p.2.2
  ne : ∀ p ∈ M, ids key p.1 ps ≠ []
  al : ∀ x ∈ ps, key x.2 ∈ M.map (·.1)
theorem ids_nil {k : κ} {ps : List RB} (h : ∀ x ∈ ps, key x.2 ≠ k) : ids key k ps = [] := by
  unfold ids
  rw [List.filter_eq_nil_iff.2 fun x hx => by simpa using h x hx]; rfl
theorem ids_add {k : κ} {ps : List RB} {b : Nat} {x : SRow} : ids key k (ps ++ [(b, x)]) = ids key k ps ++ if key x = k then [b] else [] := by
  unfold ids
  rw [List.filter_append, List.map_append, List.filter_cons]
  by_cases h : key x = k
  · rw [if_pos (by simpa using h), if_pos h]; rfl
  · rw [if_neg (by simpa using h), if_neg h]; rfl
theorem ids_mem {k : κ} {ps : List RB} {b : Nat} : b ∈ ids key k ps ↔ ∃ x, (b, x) ∈ ps ∧ key x = k := by
  unfold ids
  rw [List.mem_map]
  constructor
  · rintro ⟨p, hp, rfl⟩
    have := List.mem_filter.1 hp
    exact ⟨p.2, this.1, by simpa using this.2⟩
  · rintro ⟨x, hx, hk⟩
    exact ⟨(b, x), List.mem_filter.2 ⟨hx, by simpa using hk⟩, rfl⟩
theorem MFx.nil {b : Nat} : MFx encK key [] (.map (some b)) [] [(b, .map #[] 0)] [] := ⟨MS.nil, by simp, by simp, by simp, by simp⟩
theorem MFx.get {ps : List RB} {vm : Value} {M : List (κ × (Value × Seg))} {Tm Ts : Seg} (h : MFx encK key ps vm M Tm Ts) (k : κ) : ∃ v Tk Tr, ((mget k M).map fun p : Value × Seg => p.1).getD (.slice none 0 0) = v ∧ OS 91 1 encPt v (ids key k ps) Tk ∧ Ts.Perm (Tk ++ Tr) ∧ (∀ v' Tk', ((mset k (v', Tk') M).flatMap fun p => p.2.2).Perm (Tk' ++ Tr)) := by
  cases hm : mget k M with
  | none =>
    have hk := mget_none.1 hm
    have hid : ids key k ps = [] := ids_nil fun x hx he => hk (he ▸ h.al x hx)
    refine ⟨.slice none 0 0, [], Ts, rfl, by rw [hid]; exact OS.nil, .refl _, fun v' Tk' => ?_⟩
    rw [mset_new hk, List.flatMap_append]
    exact (List.perm_append_comm).trans (by simpa using h.pm.symm.append_left Tk')
  | some p =>
    obtain ⟨v, Tk⟩ := p
    have hmem := mget_some hm
    obtain ⟨X, Y, hXY⟩ := List.append_of_mem hmem
    have hn := h.ms.nd
    refine ⟨v, Tk, (X.flatMap fun p => p.2.2) ++ (Y.flatMap fun p => p.2.2), rfl, h.os _ hmem, ?_, fun v' Tk' => ?_⟩
    · refine h.pm.trans ?_
      rw [hXY, List.flatMap_append, List.flatMap_cons]
      exact List.perm_append_comm_assoc _ _ _
    · refine ((mset_perm hn).flatMap_right _).trans ?_
      unfold kset
      rw [hXY] at hn ⊢
      rw [kdel_mid hn, List.flatMap_append, List.flatMap_append]
      simp only [List.flatMap_cons, List.flatMap_nil, List.append_nil]
      exact List.perm_append_comm
theorem MFx.add {ps : List RB} {vm : Value} {M : List (κ × (Value × Seg))} {Tm Ts : Seg} (h : MFx encK key ps vm M Tm Ts) {b : Nat} {x : SRow} {v' : Value} {Tk' Tm' Ts' : Seg} (hms : MS encK (fun p : Value × Seg => p.1) vm (mset (key x) (v', Tk') M) Tm') (hos : OS 91 1 encPt v' (ids key (key x) ps ++ [b]) Tk') (hp : Ts'.Perm ((mset (key x) (v', Tk') M).flatMap fun p => p.2.2)) : MFx encK key (ps ++ [(b, x)]) vm (mset (key x) (v', Tk') M) Tm' Ts' := by
  have hn := h.ms.nd
  refine ⟨hms, hp, fun p hp => ?_, fun p hp => ?_, fun y hy => ?_⟩
  · by_cases he : p.1 = key x
    · have h1 : mget p.1 (mset (key x) (v', Tk') M) = some p.2 := mget_of_mem hms.nd (by exact hp)
      rw [mget_mset, if_pos he] at h1
      have h2 := Option.some.inj h1
      rw [ids_add, he, if_pos rfl, ← h2]; exact hos
    · rcases mset_mem hn hp with hp | hp
      · rw [ids_add, if_neg (fun e => he e.symm), List.append_nil]; exact h.os p hp
      · exact absurd (by rw [hp]) he
  · by_cases he : p.1 = key x
    · rw [ids_add, he, if_pos rfl]; simp
    · rcases mset_mem hn hp with hp | hp
      · rw [ids_add, if_neg (fun e => he e.symm), List.append_nil]; exact h.ne p hp
      · exact absurd (by rw [hp]) he
  · rw [mset_keys]
    rcases List.mem_append.1 hy with hy | hy
    · have := h.al y hy
      split <;> simp [this]
    · simp only [List.mem_singleton] at hy
      subst hy
      split
      · assumption
      · simp
theorem MFx.rows {ps qs : List RB} {vm : Value} {M : List (κ × (Value × Seg))} {Tm Ts : Seg} (h : MFx encK key ps vm M Tm Ts) (hq : qs.map (fun p => (p.1, key p.2)) = ps.map (fun p => (p.1, key p.2))) : MFx encK key qs vm M Tm Ts := by
  have hid : ∀ k, ids key k qs = ids key k ps := fun k => by
    have e : ∀ L : List RB, ids key k L = ((L.map fun p => (p.1, key p.2)).filter fun p => decide (p.2 = k)).map (·.1) := fun L => by
      unfold ids
      rw [List.filter_map, List.map_map]; rfl
    rw [e, e, hq]
  refine ⟨h.ms, h.pm, fun p hp => by rw [hid]; exact h.os p hp, fun p hp => by rw [hid]; exact h.ne p hp, fun x hx => ?_⟩
  have : (x.1, key x.2) ∈ ps.map (fun p => (p.1, key p.2)) := hq ▸ List.mem_map.2 ⟨x, hx, rfl⟩
  obtain ⟨y, hy, hyx⟩ := List.mem_map.1 this
  have hk : key y.2 = key x.2 := congrArg Prod.snd hyx
  rw [← hk]
  exact h.al y hy
end
/-- A store. -/
def SI (g : Nat) (S : Sto) (T : Seg) : Prop := ∃ ps vf vr Mf Mr Tf Tr Sf Sr, T = (g, .cells [.bool true, .int .u64 S.head, .int .u64 S.hor, .int .i64 (ps.length : Nat), vf, vr].toArray 62 (0, 0)) :: (Tf ++ (Sf ++ (Tr ++ (Sr ++ rowSeg ps)))) ∧
  MFx (fun k : Obr => .agg k.enc.toArray) (fun x => x.t.obr) ps vf Mf Tf Sf ∧ MFx (fun k : Sub => .agg k.enc.toArray) (fun x => x.t.sub) ps vr Mr Tr Sr ∧ ps.map (·.2) = S.rows
end Go.Proofs.YtconfddhmnipjaaGreat
set_option linter.unusedVariables false
namespace Go.Proofs.YtconfddhmnipjaaGreat
theorem isNaNI_spec (a : Int) (R : Rds) : Spec Tryz.prog 125 [.int .i64 a] R [] fun u H' => u = .bool false ∧ H' = [] := by
  refine Spec.body Tryz.func125 rfl Tryz.results125 Tryz.ntmps125 rfl ?_
  refine .seq (.region ?_)
  refine .q .assign ?_
  refine .nil (seqQ_n ?_)
  refine .seq (.region ?_)
  refine .q .move ?_
  refine .q .move ?_
  refine .q .neI ?_
  refine .q .assign ?_
  refine .nil (seqQ_n ?_)
  refine .ret (retQ_r _ (.one (.tmp rfl)) (.none _) ?_)
  · exact ⟨by simp, rfl⟩
theorem compareI_spec (a b : Int) (R : Rds) : Spec Tryz.prog 103 [.int .i64 a, .int .i64 b] R [] fun u H' => u = .int .i64 (icmp a b) ∧ H' = [] := by
  refine Spec.body Tryz.func103 rfl Tryz.results103 Tryz.ntmps103 rfl ?_
  refine .seq (.region ?_)
  refine .q .assign ?_
  refine .nil (seqQ_n ?_)
  refine .seq (.region ?_)
  refine .q .move ?_
  refine TriOps.callR (isNaNI_spec a _) (fun v hv => ?_)
  subst hv
  refine .q .assign ?_
  refine .nil (seqQ_n ?_)
  refine .seq (.region ?_)
  refine .q .move ?_
  refine TriOps.callR (isNaNI_spec b _) (fun v hv => ?_)
  subst hv
  refine .q .assign ?_
  refine .nil (seqQ_n ?_)
  refine .seq ?_
  refine .seq (.region ?_)
  refine .q .move ?_
  refine .nil (seqQ_n ?_)
  refine .condF ?_
  refine .skip ?_
  refine seqQ_n ?_
  refine .seq ?_
  refine .seq (.region ?_)
  refine .q .move ?_
  refine .nil (seqQ_n ?_)
  refine .condF ?_
  refine .skip ?_
  refine seqQ_n ?_
  refine .seq ?_
  refine .seq (.region ?_)
  refine .q .move ?_
  refine .q .move ?_
  refine .q .lss ?_
  refine .nil (seqQ_n ?_)
  refine .cond rfl (fun h4 => ?_) (fun h4 => ?_)
  refine .seq (.region ?_)
  refine .q .assign ?_
  refine .nil (seqQ_n ?_)
  refine .ret (seqQ_r (retQ_r _ (.one (.tmp rfl)) (.none _) ?_))
  · refine ⟨?_, rfl⟩
    simp at h4
    try simp at h5
    unfold icmp
    congr 1
    split
    · first | rfl | omega
    · first | rfl | (exfalso; omega) | (split <;> first | rfl | omega)
  refine .skip ?_
  refine seqQ_n ?_
  refine .seq ?_
  refine .seq (.region ?_)
  refine .q .move ?_
  refine .q .move ?_
  refine .q .gtr ?_
  refine .nil (seqQ_n ?_)
  refine .cond rfl (fun h5 => ?_) (fun h5 => ?_)
  refine .seq (.region ?_)
  refine .q .assign ?_
  refine .nil (seqQ_n ?_)
  refine .ret (seqQ_r (retQ_r _ (.one (.tmp rfl)) (.none _) ?_))
  · refine ⟨?_, rfl⟩
    simp at h4
    try simp at h5
    unfold icmp
    congr 1
    split
    · first | rfl | omega
    · first | rfl | (exfalso; omega) | (split <;> first | rfl | omega)
  refine .skip ?_
  refine seqQ_n ?_
  refine .seq (.region ?_)
  refine .q .assign ?_
  refine .nil (seqQ_n ?_)
  refine .ret (retQ_r _ (.one (.tmp rfl)) (.none _) ?_)
  · refine ⟨?_, rfl⟩
    simp at h4
    try simp at h5
    unfold icmp
    congr 1
    split
    · first | rfl | omega
    · first | rfl | (exfalso; omega) | (split <;> first | rfl | omega)
theorem isNaNU_spec (a : Int) (R : Rds) : Spec Tryz.prog 87 [.int .u64 a] R [] fun u H' => u = .bool false ∧ H' = [] := by
  refine Spec.body Tryz.func87 rfl Tryz.results87 Tryz.ntmps87 rfl ?_
  refine .seq (.region ?_)
  refine .q .assign ?_
  refine .nil (seqQ_n ?_)
  refine .seq (.region ?_)
  refine .q .move ?_
  refine .q .move ?_
  refine .q .neI ?_
  refine .q .assign ?_
  refine .nil (seqQ_n ?_)
  refine .ret (retQ_r _ (.one (.tmp rfl)) (.none _) ?_)
  · exact ⟨by simp, rfl⟩
theorem compareU_spec (a b : Int) (R : Rds) : Spec Tryz.prog 51 [.int .u64 a, .int .u64 b] R [] fun u H' => u = .int .i64 (icmp a b) ∧ H' = [] := by
  refine Spec.body Tryz.func51 rfl Tryz.results51 Tryz.ntmps51 rfl ?_
  refine .seq (.region ?_)
  refine .q .assign ?_
  refine .nil (seqQ_n ?_)
  refine .seq (.region ?_)
  refine .q .move ?_
  refine TriOps.callR (isNaNU_spec a _) (fun v hv => ?_)
  subst hv
  refine .q .assign ?_
  refine .nil (seqQ_n ?_)
  refine .seq (.region ?_)
  refine .q .move ?_
  refine TriOps.callR (isNaNU_spec b _) (fun v hv => ?_)
  subst hv
  refine .q .assign ?_
  refine .nil (seqQ_n ?_)
  refine .seq ?_
  refine .seq (.region ?_)
  refine .q .move ?_
  refine .nil (seqQ_n ?_)
  refine .condF ?_
  refine .skip ?_
  refine seqQ_n ?_
  refine .seq ?_
  refine .seq (.region ?_)
  refine .q .move ?_
  refine .nil (seqQ_n ?_)
  refine .condF ?_
  refine .skip ?_
  refine seqQ_n ?_
  refine .seq ?_
  refine .seq (.region ?_)
  refine .q .move ?_
  refine .q .move ?_
  refine .q .lss ?_
  refine .nil (seqQ_n ?_)
  refine .cond rfl (fun h4 => ?_) (fun h4 => ?_)
  refine .seq (.region ?_)
  refine .q .assign ?_
  refine .nil (seqQ_n ?_)
  refine .ret (seqQ_r (retQ_r _ (.one (.tmp rfl)) (.none _) ?_))
  · refine ⟨?_, rfl⟩
    simp at h4
    try simp at h5
    unfold icmp
    congr 1
    split
    · first | rfl | omega
    · first | rfl | (exfalso; omega) | (split <;> first | rfl | omega)
  refine .skip ?_
  refine seqQ_n ?_
  refine .seq ?_
  refine .seq (.region ?_)
  refine .q .move ?_
  refine .q .move ?_
  refine .q .gtr ?_
  refine .nil (seqQ_n ?_)
  refine .cond rfl (fun h5 => ?_) (fun h5 => ?_)
  refine .seq (.region ?_)
  refine .q .assign ?_
  refine .nil (seqQ_n ?_)
  refine .ret (seqQ_r (retQ_r _ (.one (.tmp rfl)) (.none _) ?_))
  · refine ⟨?_, rfl⟩
    simp at h4
    try simp at h5
    unfold icmp
    congr 1
    split
    · first | rfl | omega
    · first | rfl | (exfalso; omega) | (split <;> first | rfl | omega)
  refine .skip ?_
  refine seqQ_n ?_
  refine .seq (.region ?_)
  refine .q .assign ?_
  refine .nil (seqQ_n ?_)
  refine .ret (retQ_r _ (.one (.tmp rfl)) (.none _) ?_)
  · refine ⟨?_, rfl⟩
    simp at h4
    try simp at h5
    unfold icmp
    congr 1
    split
    · first | rfl | omega
    · first | rfl | (exfalso; omega) | (split <;> first | rfl | omega)
end Go.Proofs.YtconfddhmnipjaaGreat
set_option linter.unusedVariables false
set_option maxRecDepth 4000
namespace Go.Proofs.YtconfddhmnipjaaGreat
def Tpl.fits (t : Tpl) : Prop := t.os.size ≤ 9223372036854775807 ∧ t.oi.size ≤ 9223372036854775807 ∧ t.rel.size ≤ 9223372036854775807 ∧ t.us.size ≤ 9223372036854775807 ∧ t.ss.size ≤ 9223372036854775807 ∧ t.si.size ≤ 9223372036854775807 ∧ t.sr.size ≤ 9223372036854775807
theorem rank_spec (s : Sub) (R : Rds) : Spec Tryz.prog 104 [.agg s.enc.toArray] R [] fun v H' => v = .int .i64 (srank s.us) ∧ H' = [] := by
  refine Spec.body Tryz.func104 rfl Tryz.results104 Tryz.ntmps104 rfl ?_
  refine .seq (.region ?_)
  refine TriOps.boxA rfl (fun b1 => ?_)
  refine .q .assign ?_
  refine .nil (seqQ_n ?_)
  refine .seq ?_
  refine .seq (.region ?_)
  refine .q (.fieldAddr rfl) ?_
  refine .q (.load1 rfl) ?_
  refine .q .neS ?_
  refine .nil (seqQ_n ?_)
  refine .cond rfl (fun h1 => ?_) (fun h1 => ?_)
  refine .seq (.region ?_)
  refine .q .assign ?_
  refine .nil (seqQ_n ?_)
  refine .ret (seqQ_r (retQ_r _ (.one (.tmp rfl)) (.none _) ?_))
  · have h9 : ¬ s.us = ⟨#[]⟩ := by simpa using h1
    exact ⟨by unfold srank; rw [if_neg h9], rfl⟩
  refine .skip ?_
  refine seqQ_n ?_
  refine .seq (.region ?_)
  refine .q .assign ?_
  refine .nil (seqQ_n ?_)
  refine .ret (retQ_r _ (.one (.tmp rfl)) (.none _) ?_)
  · have h9 : s.us = ⟨#[]⟩ := by simpa using h1
    exact ⟨by unfold srank; rw [if_pos h9], rfl⟩
theorem tcompare_spec (a b : Tpl) (R : Rds) : Spec Tryz.prog 77 [.agg a.enc.toArray, .agg b.enc.toArray] R [] fun v H' => v = .int .i64 (tplcmp a b) ∧ H' = [] := by
  obtain ⟨a1, a2, a3, a4, a5, a6, a7⟩ := a
  obtain ⟨c1, c2, c3, c4, c5, c6, c7⟩ := b
  have ia : Ones (Sub.enc ⟨a4, a5, a6, a7⟩) := inferInstance
  have ib : Ones (Sub.enc ⟨c4, c5, c6, c7⟩) := inferInstance
  refine Spec.body Tryz.func77 rfl Tryz.results77 Tryz.ntmps77 rfl ?_
  refine .seq (.region ?_)
  refine TriOps.boxA rfl (fun b2 => ?_)
  refine TriOps.boxA rfl (fun b3 => ?_)
  refine .q .assign ?_
  refine .nil (seqQ_n ?_)
  refine .seq ?_
  refine Tri.cut (X := Nat × Nat) (fun _ => True) (fun y => [(2, .pointer (some ⟨b2, 0, none⟩)), (3, .pointer (some ⟨b3, 0, none⟩)), (5, .pointer (some ⟨y.1, 0, none⟩)), (6, .pointer (some ⟨y.2, 0, none⟩))]) (fun y => [[(y.1, .cells (Sub.enc ⟨a4, a5, a6, a7⟩).toArray 68 (0, 0))], [(y.2, .cells (Sub.enc ⟨c4, c5, c6, c7⟩).toArray 68 (0, 0))], [(b3, .cells (Tpl.enc ⟨c1, c2, c3, c4, c5, c6, c7⟩).toArray 70 (0, 0))], [(b2, .cells (Tpl.enc ⟨a1, a2, a3, a4, a5, a6, a7⟩).toArray 70 (0, 0))]]) ?_ ?_
  refine .region_any [] [6, 7] mixed ?_
  conv => arg 3; simp only [take, rest, dropAt, List.getD_cons_zero, List.getD_cons_succ]
  conv => arg 5; simp only [take, rest, dropAt, List.getD_cons_zero, List.getD_cons_succ]
  conv => arg 9; simp only [take, rest, dropAt, List.getD_cons_zero, List.getD_cons_succ]
  refine .takeO 0 rfl (.fieldAddr rfl) (by kernel_rfl) ?_
  refine .takeO 1 rfl (.loadT rfl) (by kernel_rfl) ?_
  refine .take 2 rfl (.fieldAddrA rfl) (by kernel_rfl) ?_
  refine .take 3 rfl (.loadT rfl) (by kernel_rfl) ?_
  refine RA.step2 4 5 rfl rfl (by kernel_rfl) rfl ?_ ?_
  refine TriOps.allocA (fun b5 => ?_)
  refine .nil (Next.sub ?_)
  refine RA.step 5 rfl (by kernel_rfl) rfl ?_
  refine TriOps.allocA (fun b6 => ?_)
  refine .nil (Next.sub ?_)
  refine RA.step 6 rfl (by kernel_rfl) rfl ?_
  refine TriOps.storeA rfl rfl ?_
  refine .nil (Next.mod rfl ?_)
  refine RA.step 7 rfl (by kernel_rfl) rfl ?_
  refine TriOps.storeA rfl rfl ?_
  refine .nil (Next.mod rfl ?_)
  refine RA.nil (by kernel_rfl) ?_
  · first
      | exact joinQ_n (b5, b6) trivial (((((EnvLe.nil _).cons rfl).cons rfl).cons rfl).cons rfl) (HLe.pick [1, 0, 0, 0] _)
      | exact joinQ_n (b5, b6) trivial (((((EnvLe.nil _).cons rfl).cons rfl).cons rfl).cons rfl) (HLe.pick [0, 0, 0, 0] _)
  refine TriOps.allocA (fun b6 => ?_)
  refine .nil (Next.sub ?_)
  refine RA.step 4 rfl (by kernel_rfl) rfl ?_
  refine TriOps.allocA (fun b5 => ?_)
  refine .nil (Next.sub ?_)
  refine RA.step 6 rfl (by kernel_rfl) rfl ?_
  refine TriOps.storeA rfl rfl ?_
  refine .nil (Next.mod rfl ?_)
  refine RA.step 7 rfl (by kernel_rfl) rfl ?_
  refine TriOps.storeA rfl rfl ?_
  refine .nil (Next.mod rfl ?_)
  refine RA.nil (by kernel_rfl) ?_
  · first
      | exact joinQ_n (b5, b6) trivial (((((EnvLe.nil _).cons rfl).cons rfl).cons rfl).cons rfl) (HLe.pick [1, 0, 0, 0] _)
      | exact joinQ_n (b5, b6) trivial (((((EnvLe.nil _).cons rfl).cons rfl).cons rfl).cons rfl) (HLe.pick [0, 0, 0, 0] _)
  intro y hy
  obtain ⟨b5, b6⟩ := y
  simp only
  refine seqQ_n ?_
  refine .seq ?_
  refine .region_all [] mixed ?_
  refine .takeO 0 rfl (.fieldAddr rfl) (by kernel_rfl) ?_
  refine .takeO 1 rfl (.fieldAddr rfl) (by kernel_rfl) ?_
  refine .takeO 2 rfl (.load1 rfl) (by kernel_rfl) ?_
  refine .takeO 3 rfl (.fieldAddr rfl) (by kernel_rfl) ?_
  refine .takeO 4 rfl (.fieldAddr rfl) (by kernel_rfl) ?_
  refine .takeO 5 rfl (.load1 rfl) (by kernel_rfl) ?_
  refine .takeO 7 rfl (.fieldAddr rfl) (by kernel_rfl) ?_
  refine .takeO 8 rfl (.fieldAddr rfl) (by kernel_rfl) ?_
  refine .takeO 9 rfl (.load1 rfl) (by kernel_rfl) ?_
  refine .takeO 10 rfl (.fieldAddr rfl) (by kernel_rfl) ?_
  refine .takeO 11 rfl (.fieldAddr rfl) (by kernel_rfl) ?_
  refine .takeO 12 rfl (.load1 rfl) (by kernel_rfl) ?_
  refine .takeO 14 rfl (.fieldAddr rfl) (by kernel_rfl) ?_
  refine .takeO 15 rfl (.load1 rfl) (by kernel_rfl) ?_
  refine .takeO 16 rfl (.fieldAddr rfl) (by kernel_rfl) ?_
  refine .takeO 17 rfl (.load1 rfl) (by kernel_rfl) ?_
  refine .takeO 19 rfl (.loadA rfl) (by kernel_rfl) ?_
  refine .takeO 21 rfl (.loadA rfl) (by kernel_rfl) ?_
  refine .takeO 24 rfl (.fieldAddr rfl) (by kernel_rfl) ?_
  refine .takeO 25 rfl (.load1 rfl) (by kernel_rfl) ?_
  refine .takeO 26 rfl (.fieldAddr rfl) (by kernel_rfl) ?_
  refine .takeO 27 rfl (.load1 rfl) (by kernel_rfl) ?_
  refine .takeO 29 rfl (.fieldAddr rfl) (by kernel_rfl) ?_
  refine .takeO 30 rfl (.fieldAddr rfl) (by kernel_rfl) ?_
  refine .takeO 31 rfl (.load1 rfl) (by kernel_rfl) ?_
  refine .takeO 32 rfl (.fieldAddr rfl) (by kernel_rfl) ?_
  refine .takeO 33 rfl (.fieldAddr rfl) (by kernel_rfl) ?_
  refine .takeO 34 rfl (.load1 rfl) (by kernel_rfl) ?_
  refine .takeO 36 rfl (.fieldAddr rfl) (by kernel_rfl) ?_
  refine .takeO 37 rfl (.fieldAddr rfl) (by kernel_rfl) ?_
  refine .takeO 38 rfl (.load1 rfl) (by kernel_rfl) ?_
  refine .takeO 39 rfl (.fieldAddr rfl) (by kernel_rfl) ?_
  refine .takeO 40 rfl (.fieldAddr rfl) (by kernel_rfl) ?_
  refine .takeO 41 rfl (.load1 rfl) (by kernel_rfl) ?_
  refine .takeO 43 rfl (.fieldAddr rfl) (by kernel_rfl) ?_
  refine .takeO 44 rfl (.load1 rfl) (by kernel_rfl) ?_
  refine .takeO 45 rfl (.fieldAddr rfl) (by kernel_rfl) ?_
  refine .takeO 46 rfl (.load1 rfl) (by kernel_rfl) ?_
  refine RA.step 6 rfl (by kernel_rfl) rfl ?_
  refine TriOps.callR (compare_spec a1 c1 _) (fun v hv => ?_)
  subst hv
  refine .nil (Next.sub ?_)
  refine RA.step 13 rfl (by kernel_rfl) rfl ?_
  refine TriOps.callR (compare_spec a2 c2 _) (fun v hv => ?_)
  subst hv
  refine .nil (Next.sub ?_)
  refine RA.step 18 rfl (by kernel_rfl) rfl ?_
  refine TriOps.callR (compare_spec a3 c3 _) (fun v hv => ?_)
  subst hv
  refine .nil (Next.sub ?_)
  refine RA.step 20 rfl (by kernel_rfl) rfl ?_
  refine TriOps.callR (rank_spec ⟨a4, a5, a6, a7⟩ _) (fun v hv => ?_)
  subst hv
  refine .nil (Next.sub ?_)
  refine RA.step 22 rfl (by kernel_rfl) rfl ?_
  refine TriOps.callR (rank_spec ⟨c4, c5, c6, c7⟩ _) (fun v hv => ?_)
  subst hv
  refine .nil (Next.sub ?_)
  refine RA.step 23 rfl (by kernel_rfl) rfl ?_
  refine TriOps.callR (compareI_spec (srank a4) (srank c4) _) (fun v hv => ?_)
  subst hv
  refine .nil (Next.sub ?_)
  refine RA.step 28 rfl (by kernel_rfl) rfl ?_
  refine TriOps.callR (compare_spec a4 c4 _) (fun v hv => ?_)
  subst hv
  refine .nil (Next.sub ?_)
  refine RA.step 35 rfl (by kernel_rfl) rfl ?_
  refine TriOps.callR (compare_spec a5 c5 _) (fun v hv => ?_)
  subst hv
  refine .nil (Next.sub ?_)
  refine RA.step 42 rfl (by kernel_rfl) rfl ?_
  refine TriOps.callR (compare_spec a6 c6 _) (fun v hv => ?_)
  subst hv
  refine .nil (Next.sub ?_)
  refine RA.step 47 rfl (by kernel_rfl) rfl ?_
  refine TriOps.callR (compare_spec a7 c7 _) (fun v hv => ?_)
  subst hv
  refine .nil (Next.sub ?_)
  refine RA.step 48 rfl (by kernel_rfl) rfl ?_
  refine TriOps.buildSliceN1 [_, _, _, _, _, _, _, _] (fun b59 => ?_)
  refine .nil (Next.sub ?_)
  refine RA.step 49 rfl (by kernel_rfl) rfl ?_
  refine TriOps.callR (or_spec _ [scmp a1 c1, scmp a2 c2, scmp a3 c3, icmp (srank a4) (srank c4), scmp a4 c4, scmp a5 c5, scmp a6 c6, scmp a7 c7] _ (RS.lits rfl (by simp [encI]) (by simp [encI, oneCell]))) (fun v hv => ?_)
  subst hv
  refine .nil (Next.sub ?_)
  refine .takeO 50 rfl .assign (by kernel_rfl) ?_
  refine RA.nil (by kernel_rfl) ?_
  refine seqQ_n ?_
  refine .ret (retQ_r _ (.one (.tmp rfl)) (.none _) ?_)
  · exact ⟨rfl, rfl⟩
theorem tless_p_spec (a b : Tpl) (R : Rds) : Spec Tryz.prog 46 [.agg a.enc.toArray, .agg b.enc.toArray] R [] fun v H' => v = .bool (tlt a b) ∧ H' = [] := by
  refine Spec.body Tryz.func46 rfl Tryz.results46 Tryz.ntmps46 rfl ?_
  refine .seq (.region ?_)
  refine TriOps.boxA rfl (fun b2 => ?_)
  refine TriOps.boxA rfl (fun b3 => ?_)
  refine .q .assign ?_
  refine .nil (seqQ_n ?_)
  refine .seq (.region ?_)
  refine .q (.loadA rfl) ?_
  refine .q (.loadA rfl) ?_
  refine TriOps.callR (tcompare_spec a b _) (fun v hv => ?_)
  subst hv
  refine .q .lss ?_
  refine .q .assign ?_
  refine .nil (seqQ_n ?_)
  refine .ret (retQ_r _ (.one (.tmp rfl)) (.none _) ?_)
  · exact ⟨rfl, rfl⟩
theorem tname_spec (b : Bool) (R : Rds) : Spec Tryz.prog 117 [.bool b] R [] fun v H' => v = .int .i64 (if b then 0 else 9) ∧ H' = [] := by
  refine Spec.body Tryz.func117 rfl Tryz.results117 Tryz.ntmps117 rfl ?_
  refine .seq (.region ?_)
  refine .q .assign ?_
  refine .nil (seqQ_n ?_)
  refine .seq ?_
  refine .seq (.region ?_)
  refine .q .move ?_
  refine .nil (seqQ_n ?_)
  refine .cond rfl (fun h1 => ?_) (fun h1 => ?_)
  refine .seq (.region ?_)
  refine .q .assign ?_
  refine .nil (seqQ_n ?_)
  refine .ret (seqQ_r (retQ_r _ (.one (.tmp rfl)) (.none _) ?_))
  · exact ⟨by rw [h1]; rfl, rfl⟩
  refine .skip ?_
  refine seqQ_n ?_
  refine .seq (.region ?_)
  refine .q .assign ?_
  refine .nil (seqQ_n ?_)
  refine .ret (retQ_r _ (.one (.tmp rfl)) (.none _) ?_)
  · exact ⟨by rw [h1]; rfl, rfl⟩
theorem checkRef_spec (s i : ByteArray) (hs : s.size ≤ 9223372036854775807) (hi : i.size ≤ 9223372036854775807) (R : Rds) : Spec Tryz.prog 118 [.agg [.string s, .string i].toArray] R [] fun v H' => v = .int .i64 (if isRef s i then 0 else 9) ∧ H' = [] := by
  refine Spec.body Tryz.func118 rfl Tryz.results118 Tryz.ntmps118 rfl ?_
  refine .seq (.region ?_)
  refine TriOps.boxA rfl (fun b1 => ?_)
  refine .q .assign ?_
  refine .nil (seqQ_n ?_)
  refine .seq (.region ?_)
  refine .q (.fieldAddr rfl) ?_
  refine .q (.load1 rfl) ?_
  refine TriOps.callR (word_spec s hs _) (fun v hv => ?_)
  subst hv
  refine .q .move ?_
  refine TriOps.split (t := 6) rfl (fun g1_3 => ?_) (fun g1_3 => ?_)
  have hv9 : isRef s i = isID i := by unfold isRef; rw [g1_3]; rfl
  refine TriOps.gT g1_3 ?_
  refine .q (.fieldAddr rfl) ?_
  refine TriOps.gT g1_3 ?_
  refine .q (.load1 rfl) ?_
  refine TriOps.gT g1_3 ?_
  refine TriOps.callR (id_spec i hi _) (fun v hv => ?_)
  subst hv
  refine .q (.pickTh g1_3) ?_
  refine TriOps.callR (tname_spec _ _) (fun v hv => ?_)
  subst hv
  refine .q .assign ?_
  refine .nil (seqQ_n ?_)
  refine .ret (retQ_r _ (.one (.tmp rfl)) (.none _) ?_)
  · exact ⟨by rw [hv9], rfl⟩
  have hv9 : isRef s i = false := by unfold isRef; rw [g1_3]; rfl
  refine TriOps.gF g1_3 ?_
  refine TriOps.gF g1_3 ?_
  refine TriOps.gF g1_3 ?_
  refine .q (.pickFh g1_3) ?_
  refine TriOps.callR (tname_spec _ _) (fun v hv => ?_)
  subst hv
  refine .q .assign ?_
  refine .nil (seqQ_n ?_)
  refine .ret (retQ_r _ (.one (.tmp rfl)) (.none _) ?_)
  · exact ⟨by rw [hv9], rfl⟩
theorem zero_ne9 (b : Bool) : ((if b = true then (0 : Int) else 9) == 0) = b := by cases b <;> rfl
theorem checkSub_spec (s : Sub) (h1_ : s.us.size ≤ 9223372036854775807) (h2_ : s.ss.size ≤ 9223372036854775807) (h3_ : s.si.size ≤ 9223372036854775807) (h4_ : s.sr.size ≤ 9223372036854775807) (R : Rds) : Spec Tryz.prog 120 [.agg s.enc.toArray] R [] fun v H' => v = .int .i64 (if isSub s then 0 else 9) ∧ H' = [] := by
  obtain ⟨a4, a5, a6, a7⟩ := s
  simp only at h1_ h2_ h3_ h4_
  refine Spec.body Tryz.func120 rfl Tryz.results120 Tryz.ntmps120 rfl ?_
  refine .seq (.region ?_)
  refine TriOps.boxA rfl (fun b1 => ?_)
  refine .q .assign ?_
  refine .nil (seqQ_n ?_)
  refine .seq ?_
  refine .seq (.region ?_)
  refine .q (.fieldAddr rfl) ?_
  refine .q (.load1 rfl) ?_
  refine .q .neS ?_
  refine .nil (seqQ_n ?_)
  refine .cond rfl (fun h1 => ?_) (fun h1 => ?_)
  have hne : ¬ a4 = ⟨#[]⟩ := by simpa using h1
  refine .seq (.region ?_)
  refine .q (.fieldAddr rfl) ?_
  refine .q (.load1 rfl) ?_
  refine TriOps.callR (id_spec a4 h1_ _) (fun v hv => ?_)
  subst hv
  refine .q .move ?_
  refine TriOps.split (t := 9) rfl (fun g2_3 => ?_) (fun g2_3 => ?_)
  have hv9 : isSub ⟨a4, a5, a6, a7⟩ = decide ((⟨a4, a5, a6, a7⟩ : Sub) = ⟨a4, ⟨#[]⟩, ⟨#[]⟩, ⟨#[]⟩⟩) := by
    unfold isSub
    simp only
    rw [if_neg hne, g2_3, Bool.true_and, Bool.eq_iff_iff]
    simp [and_assoc]
  refine TriOps.gT g2_3 ?_
  refine .q (.loadA rfl) ?_
  refine TriOps.gT g2_3 ?_
  refine .q (.fieldAddr rfl) ?_
  refine TriOps.gT g2_3 ?_
  refine .q (.load1 rfl) ?_
  refine TriOps.gT g2_3 ?_
  refine .q .bld ?_
  refine TriOps.gT g2_3 ?_
  refine .q (.eqA rfl rfl (Sub.kinds ⟨a4, a5, a6, a7⟩) (Sub.kinds ⟨a4, ⟨#[]⟩, ⟨#[]⟩, ⟨#[]⟩⟩)) ?_
  rw [show cellsEq (Sub.enc ⟨a4, a5, a6, a7⟩) (setL [.string ⟨#[]⟩, .string ⟨#[]⟩, .string ⟨#[]⟩, .string ⟨#[]⟩] 0 [.string a4]) = _ from Sub.eq ⟨a4, a5, a6, a7⟩ ⟨a4, ⟨#[]⟩, ⟨#[]⟩, ⟨#[]⟩⟩]
  refine .q (.pickTh g2_3) ?_
  refine TriOps.callR (tname_spec _ _) (fun v hv => ?_)
  subst hv
  refine .q .assign ?_
  refine .nil (seqQ_n ?_)
  refine .ret (seqQ_r (retQ_r _ (.one (.tmp rfl)) (.none _) ?_))
  · exact ⟨by rw [hv9], rfl⟩
  have hv9 : isSub ⟨a4, a5, a6, a7⟩ = false := by
    unfold isSub
    simp only
    rw [if_neg hne, g2_3]; rfl
  refine TriOps.gF g2_3 ?_
  refine TriOps.gF g2_3 ?_
  refine TriOps.gF g2_3 ?_
  refine TriOps.gF g2_3 ?_
  refine TriOps.gF g2_3 ?_
  refine .q (.pickFh g2_3) ?_
  refine TriOps.callR (tname_spec _ _) (fun v hv => ?_)
  subst hv
  refine .q .assign ?_
  refine .nil (seqQ_n ?_)
  refine .ret (seqQ_r (retQ_r _ (.one (.tmp rfl)) (.none _) ?_))
  · exact ⟨by rw [hv9], rfl⟩
  have hne : a4 = ⟨#[]⟩ := by simpa using h1
  refine .skip ?_
  refine seqQ_n ?_
  refine .seq (.region ?_)
  refine .q (.fieldAddr rfl) ?_
  refine .q (.loadT rfl) ?_
  refine TriOps.callR (checkRef_spec a5 a6 h2_ h3_ _) (fun v hv => ?_)
  subst hv
  refine .q .eqI ?_
  rw [zero_ne9]
  refine .q .move ?_
  refine TriOps.split (t := 21) rfl (fun g3_4 => ?_) (fun g3_4 => ?_)
  have hv9 : isSub ⟨a4, a5, a6, a7⟩ = isWord a7 := by
    unfold isSub
    simp only
    rw [if_pos hne, g3_4, Bool.true_and]
  refine TriOps.gT g3_4 ?_
  refine .q (.fieldAddr rfl) ?_
  refine TriOps.gT g3_4 ?_
  refine .q (.load1 rfl) ?_
  refine TriOps.gT g3_4 ?_
  refine TriOps.callR (word_spec a7 h4_ _) (fun v hv => ?_)
  subst hv
  refine .q (.pickTh g3_4) ?_
  refine TriOps.callR (tname_spec _ _) (fun v hv => ?_)
  subst hv
  refine .q .assign ?_
  refine .nil (seqQ_n ?_)
  refine .ret (retQ_r _ (.one (.tmp rfl)) (.none _) ?_)
  · exact ⟨by rw [hv9], rfl⟩
  have hv9 : isSub ⟨a4, a5, a6, a7⟩ = false := by
    unfold isSub
    simp only
    rw [if_pos hne, g3_4]; rfl
  refine TriOps.gF g3_4 ?_
  refine TriOps.gF g3_4 ?_
  refine TriOps.gF g3_4 ?_
  refine .q (.pickFh g3_4) ?_
  refine TriOps.callR (tname_spec _ _) (fun v hv => ?_)
  subst hv
  refine .q .assign ?_
  refine .nil (seqQ_n ?_)
  refine .ret (retQ_r _ (.one (.tmp rfl)) (.none _) ?_)
  · exact ⟨by rw [hv9], rfl⟩
theorem checkTpl_spec (t : Tpl) (ht : t.fits) (R : Rds) : Spec Tryz.prog 90 [.agg t.enc.toArray] R [] fun v H' => v = .int .i64 (if isTpl t then 0 else 9) ∧ H' = [] := by
  obtain ⟨a1, a2, a3, a4, a5, a6, a7⟩ := t
  obtain ⟨k1, k2, k3, k4, k5, k6, k7⟩ := ht
  simp only at k1 k2 k3 k4 k5 k6 k7
  refine Spec.body Tryz.func90 rfl Tryz.results90 Tryz.ntmps90 rfl ?_
  refine .seq (.region ?_)
  refine TriOps.boxA rfl (fun b1 => ?_)
  refine .q .assign ?_
  refine .nil (seqQ_n ?_)
  refine .seq (.region ?_)
  refine .q (.fieldAddr rfl) ?_
  refine .q (.loadT rfl) ?_
  refine TriOps.callR (checkRef_spec a1 a2 k1 k2 _) (fun v hv => ?_)
  subst hv
  refine .q .eqI ?_
  rw [zero_ne9]
  refine .q .move ?_
  refine TriOps.split (t := 7) rfl (fun g1_4 => ?_) (fun g1_4 => ?_)
  refine TriOps.gT g1_4 ?_
  refine .q (.fieldAddr rfl) ?_
  refine TriOps.gT g1_4 ?_
  refine .q (.load1 rfl) ?_
  refine TriOps.gT g1_4 ?_
  refine TriOps.callR (word_spec a3 k3 _) (fun v hv => ?_)
  subst hv
  refine .q (.pickTh g1_4) ?_
  refine .q .move ?_
  refine TriOps.split (t := 12) rfl (fun g1_9 => ?_) (fun g1_9 => ?_)
  have hv9 : isTpl ⟨a1, a2, a3, a4, a5, a6, a7⟩ = isSub ⟨a4, a5, a6, a7⟩ := by unfold isTpl; simp only; rw [g1_4, g1_9]; rfl
  refine TriOps.gT g1_9 ?_
  refine .q (.fieldAddr rfl) ?_
  refine TriOps.gT g1_9 ?_
  refine .q (.loadT rfl) ?_
  refine TriOps.gT g1_9 ?_
  refine TriOps.callR (checkSub_spec ⟨a4, a5, a6, a7⟩ k4 k5 k6 k7 _) (fun v hv => ?_)
  subst hv
  refine TriOps.gT g1_9 ?_
  refine .q .eqI ?_
  rw [zero_ne9]
  refine .q (.pickTh g1_9) ?_
  refine TriOps.callR (tname_spec _ _) (fun v hv => ?_)
  subst hv
  refine .q .assign ?_
  refine .nil (seqQ_n ?_)
  refine .ret (retQ_r _ (.one (.tmp rfl)) (.none _) ?_)
  · exact ⟨by rw [hv9], rfl⟩
  have hv9 : isTpl ⟨a1, a2, a3, a4, a5, a6, a7⟩ = false := by unfold isTpl; simp only; rw [g1_4, g1_9]; rfl
  refine TriOps.gF g1_9 ?_
  refine TriOps.gF g1_9 ?_
  refine TriOps.gF g1_9 ?_
  refine TriOps.gF g1_9 ?_
  refine .q (.pickFh g1_9) ?_
  refine TriOps.callR (tname_spec _ _) (fun v hv => ?_)
  subst hv
  refine .q .assign ?_
  refine .nil (seqQ_n ?_)
  refine .ret (retQ_r _ (.one (.tmp rfl)) (.none _) ?_)
  · exact ⟨by rw [hv9], rfl⟩
  have hv9 : isTpl ⟨a1, a2, a3, a4, a5, a6, a7⟩ = false := by unfold isTpl; simp only; rw [g1_4]; rfl
  refine TriOps.gF g1_4 ?_
  refine TriOps.gF g1_4 ?_
  refine TriOps.gF g1_4 ?_
  refine .q (.pickFh g1_4) ?_
  refine .q .move ?_
  refine TriOps.gf rfl rfl ?_
  refine TriOps.gf rfl rfl ?_
  refine TriOps.gf rfl rfl ?_
  refine TriOps.gf rfl rfl ?_
  refine .q .pickF ?_
  refine TriOps.callR (tname_spec _ _) (fun v hv => ?_)
  subst hv
  refine .q .assign ?_
  refine .nil (seqQ_n ?_)
  refine .ret (retQ_r _ (.one (.tmp rfl)) (.none _) ?_)
  · exact ⟨by rw [hv9], rfl⟩
theorem tfits_spec (a s : ByteArray) (R : Rds) : Spec Tryz.prog 43 [.string a, .string s] R [] fun v H' => v = .bool (decide (a = ⟨#[]⟩) || decide (a = s)) ∧ H' = [] := by
  refine Spec.body Tryz.func43 rfl Tryz.results43 Tryz.ntmps43 rfl ?_
  refine .seq (.region ?_)
  refine .q .assign ?_
  refine .nil (seqQ_n ?_)
  refine .seq (.region ?_)
  refine .q .move ?_
  refine .q .eqS ?_
  refine .q .move ?_
  refine TriOps.split (t := 7) rfl (fun g1_2 => ?_) (fun g1_2 => ?_)
  refine TriOps.gF g1_2 ?_
  refine TriOps.gF g1_2 ?_
  refine TriOps.gF g1_2 ?_
  refine .q (.pickTh g1_2) ?_
  refine .q .assign ?_
  refine .nil (seqQ_n ?_)
  refine .ret (retQ_r _ (.one (.tmp rfl)) (.none _) ?_)
  · refine ⟨congrArg _ ?_, rfl⟩
    simp_all
  refine TriOps.gT g1_2 ?_
  refine .q .move ?_
  refine TriOps.gT g1_2 ?_
  refine .q .move ?_
  refine TriOps.gT g1_2 ?_
  refine .q .eqS ?_
  refine .q (.pickFh g1_2) ?_
  refine .q .assign ?_
  refine .nil (seqQ_n ?_)
  refine .ret (retQ_r _ (.one (.tmp rfl)) (.none _) ?_)
  · refine ⟨congrArg _ ?_, rfl⟩
    simp_all
theorem tmatch_spec (f t : Tpl) (R : Rds) : Spec Tryz.prog 20 [.agg f.enc.toArray, .agg t.enc.toArray] R [] fun v H' => v = .bool (tmatch f t) ∧ H' = [] := by
  have it : Ones (Sub.enc ⟨t.us, t.ss, t.si, t.sr⟩) := inferInstance
  refine Spec.body Tryz.func20 rfl Tryz.results20 Tryz.ntmps20 rfl ?_
  refine .seq (.region ?_)
  refine TriOps.boxA rfl (fun b2 => ?_)
  refine TriOps.boxA rfl (fun b3 => ?_)
  refine .q .assign ?_
  refine .nil (seqQ_n ?_)
  refine .seq (.region ?_)
  refine .q (.fieldAddr rfl) ?_
  refine .q (.loadT rfl) ?_
  refine TriOps.allocA (fun b5 => ?_)
  refine TriOps.storeA rfl rfl ?_
  refine .nil (seqQ_n ?_)
  refine .seq (.region ?_)
  refine .q (.fieldAddr rfl) ?_
  refine .q (.load1 rfl) ?_
  refine .q (.fieldAddr rfl) ?_
  refine .q (.fieldAddr rfl) ?_
  refine .q (.load1 rfl) ?_
  refine TriOps.callR (tfits_spec (f.os) (t.os) _) (fun v hv => ?_)
  subst hv
  refine .q .move ?_
  refine TriOps.split (t := 14) rfl (fun g2_6 => ?_) (fun g2_6 => ?_)
  refine TriOps.gT g2_6 ?_
  refine .q (.fieldAddr rfl) ?_
  refine TriOps.gT g2_6 ?_
  refine .q (.load1 rfl) ?_
  refine TriOps.gT g2_6 ?_
  refine .q (.fieldAddr rfl) ?_
  refine TriOps.gT g2_6 ?_
  refine .q (.fieldAddr rfl) ?_
  refine TriOps.gT g2_6 ?_
  refine .q (.load1 rfl) ?_
  refine TriOps.gT g2_6 ?_
  refine TriOps.callR (tfits_spec (f.oi) (t.oi) _) (fun v hv => ?_)
  subst hv
  refine .q (.pickTh g2_6) ?_
  refine .q .move ?_
  refine TriOps.split (t := 22) rfl (fun g2_14 => ?_) (fun g2_14 => ?_)
  refine TriOps.gT g2_14 ?_
  refine .q (.fieldAddr rfl) ?_
  refine TriOps.gT g2_14 ?_
  refine .q (.load1 rfl) ?_
  refine TriOps.gT g2_14 ?_
  refine .q (.fieldAddr rfl) ?_
  refine TriOps.gT g2_14 ?_
  refine .q (.load1 rfl) ?_
  refine TriOps.gT g2_14 ?_
  refine TriOps.callR (tfits_spec (f.rel) (t.rel) _) (fun v hv => ?_)
  subst hv
  refine .q (.pickTh g2_14) ?_
  refine .q .move ?_
  refine TriOps.split (t := 29) rfl (fun g2_21 => ?_) (fun g2_21 => ?_)
  refine TriOps.gT g2_21 ?_
  refine .q (.fieldAddr rfl) ?_
  refine TriOps.gT g2_21 ?_
  refine .q (.load1 rfl) ?_
  refine TriOps.gT g2_21 ?_
  refine .q (.fieldAddr rfl) ?_
  refine TriOps.gT g2_21 ?_
  refine .q (.load1 rfl) ?_
  refine TriOps.gT g2_21 ?_
  refine TriOps.callR (tfits_spec (f.us) (t.us) _) (fun v hv => ?_)
  subst hv
  refine .q (.pickTh g2_21) ?_
  refine .q .move ?_
  refine TriOps.split (t := 36) rfl (fun g2_28 => ?_) (fun g2_28 => ?_)
  refine TriOps.gT g2_28 ?_
  refine .q (.fieldAddr rfl) ?_
  refine TriOps.gT g2_28 ?_
  refine .q (.fieldAddr rfl) ?_
  refine TriOps.gT g2_28 ?_
  refine .q (.load1 rfl) ?_
  refine TriOps.gT g2_28 ?_
  refine .q (.fieldAddr rfl) ?_
  refine TriOps.gT g2_28 ?_
  refine .q (.fieldAddr rfl) ?_
  refine TriOps.gT g2_28 ?_
  refine .q (.load1 rfl) ?_
  refine TriOps.gT g2_28 ?_
  refine TriOps.callR (tfits_spec (f.ss) (t.ss) _) (fun v hv => ?_)
  subst hv
  refine .q (.pickTh g2_28) ?_
  refine .q .move ?_
  refine TriOps.split (t := 45) rfl (fun g2_37 => ?_) (fun g2_37 => ?_)
  refine TriOps.gT g2_37 ?_
  refine .q (.fieldAddr rfl) ?_
  refine TriOps.gT g2_37 ?_
  refine .q (.fieldAddr rfl) ?_
  refine TriOps.gT g2_37 ?_
  refine .q (.load1 rfl) ?_
  refine TriOps.gT g2_37 ?_
  refine .q (.fieldAddr rfl) ?_
  refine TriOps.gT g2_37 ?_
  refine .q (.fieldAddr rfl) ?_
  refine TriOps.gT g2_37 ?_
  refine .q (.load1 rfl) ?_
  refine TriOps.gT g2_37 ?_
  refine TriOps.callR (tfits_spec (f.si) (t.si) _) (fun v hv => ?_)
  subst hv
  refine .q (.pickTh g2_37) ?_
  refine .q .move ?_
  refine TriOps.split (t := 54) rfl (fun g2_46 => ?_) (fun g2_46 => ?_)
  refine TriOps.gT g2_46 ?_
  refine .q (.fieldAddr rfl) ?_
  refine TriOps.gT g2_46 ?_
  refine .q (.load1 rfl) ?_
  refine TriOps.gT g2_46 ?_
  refine .q (.fieldAddr rfl) ?_
  refine TriOps.gT g2_46 ?_
  refine .q (.load1 rfl) ?_
  refine TriOps.gT g2_46 ?_
  refine TriOps.callR (tfits_spec (f.sr) (t.sr) _) (fun v hv => ?_)
  subst hv
  refine .q (.pickTh g2_46) ?_
  refine .q .assign ?_
  refine .nil (seqQ_n ?_)
  refine .ret (retQ_r _ (.one (.tmp rfl)) (.none _) ?_)
  · refine ⟨congrArg _ ?_, rfl⟩
    unfold tmatch
    simp_all
  refine TriOps.gF g2_46 ?_
  refine TriOps.gF g2_46 ?_
  refine TriOps.gF g2_46 ?_
  refine TriOps.gF g2_46 ?_
  refine TriOps.gF g2_46 ?_
  refine .q (.pickFh g2_46) ?_
  refine .q .assign ?_
  refine .nil (seqQ_n ?_)
  refine .ret (retQ_r _ (.one (.tmp rfl)) (.none _) ?_)
  · refine ⟨congrArg _ ?_, rfl⟩
    unfold tmatch
    simp_all
  refine TriOps.gF g2_37 ?_
  refine TriOps.gF g2_37 ?_
  refine TriOps.gF g2_37 ?_
  refine TriOps.gF g2_37 ?_
  refine TriOps.gF g2_37 ?_
  refine TriOps.gF g2_37 ?_
  refine TriOps.gF g2_37 ?_
  refine .q (.pickFh g2_37) ?_
  refine .q .move ?_
  refine TriOps.gf rfl rfl ?_
  refine TriOps.gf rfl rfl ?_
  refine TriOps.gf rfl rfl ?_
  refine TriOps.gf rfl rfl ?_
  refine TriOps.gf rfl rfl ?_
  refine .q .pickF ?_
  refine .q .assign ?_
  refine .nil (seqQ_n ?_)
  refine .ret (retQ_r _ (.one (.tmp rfl)) (.none _) ?_)
  · refine ⟨congrArg _ ?_, rfl⟩
    unfold tmatch
    simp_all
  refine TriOps.gF g2_28 ?_
  refine TriOps.gF g2_28 ?_
  refine TriOps.gF g2_28 ?_
  refine TriOps.gF g2_28 ?_
  refine TriOps.gF g2_28 ?_
  refine TriOps.gF g2_28 ?_
  refine TriOps.gF g2_28 ?_
  refine .q (.pickFh g2_28) ?_
  refine .q .move ?_
  refine TriOps.gf rfl rfl ?_
  refine TriOps.gf rfl rfl ?_
  refine TriOps.gf rfl rfl ?_
  refine TriOps.gf rfl rfl ?_
  refine TriOps.gf rfl rfl ?_
  refine TriOps.gf rfl rfl ?_
  refine TriOps.gf rfl rfl ?_
  refine .q .pickF ?_
  refine .q .move ?_
  refine TriOps.gf rfl rfl ?_
  refine TriOps.gf rfl rfl ?_
  refine TriOps.gf rfl rfl ?_
  refine TriOps.gf rfl rfl ?_
  refine TriOps.gf rfl rfl ?_
  refine .q .pickF ?_
  refine .q .assign ?_
  refine .nil (seqQ_n ?_)
  refine .ret (retQ_r _ (.one (.tmp rfl)) (.none _) ?_)
  · refine ⟨congrArg _ ?_, rfl⟩
    unfold tmatch
    simp_all
  refine TriOps.gF g2_21 ?_
  refine TriOps.gF g2_21 ?_
  refine TriOps.gF g2_21 ?_
  refine TriOps.gF g2_21 ?_
  refine TriOps.gF g2_21 ?_
  refine .q (.pickFh g2_21) ?_
  refine .q .move ?_
  refine TriOps.gf rfl rfl ?_
  refine TriOps.gf rfl rfl ?_
  refine TriOps.gf rfl rfl ?_
  refine TriOps.gf rfl rfl ?_
  refine TriOps.gf rfl rfl ?_
  refine TriOps.gf rfl rfl ?_
  refine TriOps.gf rfl rfl ?_
  refine .q .pickF ?_
  refine .q .move ?_
  refine TriOps.gf rfl rfl ?_
  refine TriOps.gf rfl rfl ?_
  refine TriOps.gf rfl rfl ?_
  refine TriOps.gf rfl rfl ?_
  refine TriOps.gf rfl rfl ?_
  refine TriOps.gf rfl rfl ?_
  refine TriOps.gf rfl rfl ?_
  refine .q .pickF ?_
  refine .q .move ?_
  refine TriOps.gf rfl rfl ?_
  refine TriOps.gf rfl rfl ?_
  refine TriOps.gf rfl rfl ?_
  refine TriOps.gf rfl rfl ?_
  refine TriOps.gf rfl rfl ?_
  refine .q .pickF ?_
  refine .q .assign ?_
  refine .nil (seqQ_n ?_)
  refine .ret (retQ_r _ (.one (.tmp rfl)) (.none _) ?_)
  · refine ⟨congrArg _ ?_, rfl⟩
    unfold tmatch
    simp_all
  refine TriOps.gF g2_14 ?_
  refine TriOps.gF g2_14 ?_
  refine TriOps.gF g2_14 ?_
  refine TriOps.gF g2_14 ?_
  refine TriOps.gF g2_14 ?_
  refine .q (.pickFh g2_14) ?_
  refine .q .move ?_
  refine TriOps.gf rfl rfl ?_
  refine TriOps.gf rfl rfl ?_
  refine TriOps.gf rfl rfl ?_
  refine TriOps.gf rfl rfl ?_
  refine TriOps.gf rfl rfl ?_
  refine .q .pickF ?_
  refine .q .move ?_
  refine TriOps.gf rfl rfl ?_
  refine TriOps.gf rfl rfl ?_
  refine TriOps.gf rfl rfl ?_
  refine TriOps.gf rfl rfl ?_
  refine TriOps.gf rfl rfl ?_
  refine TriOps.gf rfl rfl ?_
  refine TriOps.gf rfl rfl ?_
  refine .q .pickF ?_
  refine .q .move ?_
  refine TriOps.gf rfl rfl ?_
  refine TriOps.gf rfl rfl ?_
  refine TriOps.gf rfl rfl ?_
  refine TriOps.gf rfl rfl ?_
  refine TriOps.gf rfl rfl ?_
  refine TriOps.gf rfl rfl ?_
  refine TriOps.gf rfl rfl ?_
  refine .q .pickF ?_
  refine .q .move ?_
  refine TriOps.gf rfl rfl ?_
  refine TriOps.gf rfl rfl ?_
  refine TriOps.gf rfl rfl ?_
  refine TriOps.gf rfl rfl ?_
  refine TriOps.gf rfl rfl ?_
  refine .q .pickF ?_
  refine .q .assign ?_
  refine .nil (seqQ_n ?_)
  refine .ret (retQ_r _ (.one (.tmp rfl)) (.none _) ?_)
  · refine ⟨congrArg _ ?_, rfl⟩
    unfold tmatch
    simp_all
  refine TriOps.gF g2_6 ?_
  refine TriOps.gF g2_6 ?_
  refine TriOps.gF g2_6 ?_
  refine TriOps.gF g2_6 ?_
  refine TriOps.gF g2_6 ?_
  refine TriOps.gF g2_6 ?_
  refine .q (.pickFh g2_6) ?_
  refine .q .move ?_
  refine TriOps.gf rfl rfl ?_
  refine TriOps.gf rfl rfl ?_
  refine TriOps.gf rfl rfl ?_
  refine TriOps.gf rfl rfl ?_
  refine TriOps.gf rfl rfl ?_
  refine .q .pickF ?_
  refine .q .move ?_
  refine TriOps.gf rfl rfl ?_
  refine TriOps.gf rfl rfl ?_
  refine TriOps.gf rfl rfl ?_
  refine TriOps.gf rfl rfl ?_
  refine TriOps.gf rfl rfl ?_
  refine .q .pickF ?_
  refine .q .move ?_
  refine TriOps.gf rfl rfl ?_
  refine TriOps.gf rfl rfl ?_
  refine TriOps.gf rfl rfl ?_
  refine TriOps.gf rfl rfl ?_
  refine TriOps.gf rfl rfl ?_
  refine TriOps.gf rfl rfl ?_
  refine TriOps.gf rfl rfl ?_
  refine .q .pickF ?_
  refine .q .move ?_
  refine TriOps.gf rfl rfl ?_
  refine TriOps.gf rfl rfl ?_
  refine TriOps.gf rfl rfl ?_
  refine TriOps.gf rfl rfl ?_
  refine TriOps.gf rfl rfl ?_
  refine TriOps.gf rfl rfl ?_
  refine TriOps.gf rfl rfl ?_
  refine .q .pickF ?_
  refine .q .move ?_
  refine TriOps.gf rfl rfl ?_
  refine TriOps.gf rfl rfl ?_
  refine TriOps.gf rfl rfl ?_
  refine TriOps.gf rfl rfl ?_
  refine TriOps.gf rfl rfl ?_
  refine .q .pickF ?_
  refine .q .assign ?_
  refine .nil (seqQ_n ?_)
  refine .ret (retQ_r _ (.one (.tmp rfl)) (.none _) ?_)
  · refine ⟨congrArg _ ?_, rfl⟩
    unfold tmatch
    simp_all
end Go.Proofs.YtconfddhmnipjaaGreat
set_option linter.unusedVariables false
namespace Go.Proofs.YtconfddhmnipjaaGreat
theorem df_keep {α : Type} {ys xs : List α} {i j : Nat} {z : α} {q : α → Bool} (h1 : ys.take i = (xs.take j).filter q) (hz : xs[j]? = some z) (hi : i < ys.length) (hq : q z = true) : (ys.set i z).take (i + 1) = (xs.take (j + 1)).filter q := by
  rw [List.take_add_one, List.take_add_one, hz, List.filter_append, List.take_set_of_le (Nat.le_refl _), h1]
  simp [hq, hi]
theorem df_skip {α : Type} {ys xs : List α} {i j : Nat} {z : α} {q : α → Bool} (h1 : ys.take i = (xs.take j).filter q) (hz : xs[j]? = some z) (hq : q z = false) : ys.take i = (xs.take (j + 1)).filter q := by
  rw [List.take_add_one, hz, List.filter_append, h1]
  simp [hq]
theorem df_drop {α : Type} {ys xs : List α} {j : Nat} (h : ys.drop j = xs.drop j) : ys.drop (j + 1) = xs.drop (j + 1) := by
  have := congrArg (List.drop 1) h
  simpa [List.drop_drop, Nat.add_comm] using this
theorem df_get {α : Type} {ys xs : List α} {j : Nat} (h : ys.drop j = xs.drop j) : ys[j]? = xs[j]? := by
  have := congrArg (fun l => l[0]?) h
  simpa using this
theorem df_none {α : Type} {xs : List α} {p : α → Bool} (h : ∀ y ∈ xs, p y = false) : xs.filter (fun y => !p y) = xs := by
  rw [List.filter_eq_self]
  intro y hy
  simp [h y hy]
theorem df_first {α : Type} {xs : List α} {p : α → Bool} {i : Nat} {x : α} (hx : xs[i]? = some x) (hp : p x = true) (h : ∀ j y, j < i → xs[j]? = some y → p y = false) : xs.take i = (xs.take (i + 1)).filter (fun y => !p y) := by
  have h0 : xs.take i = (xs.take i).filter (fun y => !p y) := by
    rw [eq_comm, List.filter_eq_self]
    intro y hy
    obtain ⟨j, hj, rfl⟩ := List.mem_iff_getElem.1 hy
    simp only [List.length_take] at hj
    rw [List.getElem_take, h j _ (by omega) (List.getElem?_eq_getElem (by omega))]
    rfl
  exact df_skip h0 hx (by simp [hp])
end Go.Proofs.YtconfddhmnipjaaGreat
set_option linter.unusedVariables false
set_option maxRecDepth 4000
namespace Go.Proofs.YtconfddhmnipjaaGreat
namespace LRP
theorem clone_spec (v : Value) (xs : List RB) (R : Rds) (h : RS R 1 encRB v xs) (hl : xs.length ≤ 1000000) :
    Spec Tryz.prog 65 [v] R [] fun v' H' => ∃ T, H' = [T] ∧ OS 91 1 encRB v' xs T := by
  obtain ⟨pr, cap, rfl⟩ := h.val
  have hx : ∀ H, RS (Rx R H) 1 encRB (.slice pr xs.length cap) xs := fun H => h.rx
  refine Spec.segs (H' := [[]]) (by simp) ?_
  refine Spec.body Tryz.func65 rfl Tryz.results65 Tryz.ntmps65 rfl ?_
  refine .seq (.region ?_)
  refine .q .assign ?_
  refine .nil (seqQ_n ?_)
  refine .seq ?_
  refine .seq (.region ?_)
  refine .q .move ?_
  refine .q (.eqNilS rfl rfl) ?_
  refine .nil (seqQ_n ?_)
  refine .cond rfl (fun h1 => ?_) (fun h1 => ?_)
  refine .seq (.region ?_)
  refine .q .assign ?_
  refine .nil (seqQ_n ?_)
  refine .ret (seqQ_r (retQ_r _ (.one (.tmp rfl)) (.one [0] _) ?_))
  · obtain rfl : pr = none := by simpa using h1
    have := h.none_nil
    subst this
    exact ⟨[], rfl, OS.nil⟩
  refine .skip ?_
  refine seqQ_n ?_
  refine .seq (.region ?_)
  refine TriOps.buildSlice0 (fun b5 => ?_)
  refine .q .move ?_
  refine TriOps.append (OS.empty (enc := encRB) (sz := 1)) (hx _) (by simp; omega) (fun v' T' h3 => ?_)
  refine .q .assign ?_
  refine .nil (seqQ_n ?_)
  refine .ret (retQ_r _ (.one (.tmp rfl)) (.one [0] _) ?_)
  · exact ⟨T', by simp [take], by simpa using h3⟩
theorem indexF_spec (f : FuncId) (caps : List Value) [e : Ent Tryz.prog f] (p : RB → Bool) (v : Value) (l : List RB) (R : Rds) (h : RS R 1 encRB v l) (hf : ∀ s ∈ l, ∀ R', (∀ b o, R b o → R' b o) → Spec Tryz.prog f ((fun p : RB => Value.pointer (some ⟨p.1, 0, none⟩)) s :: caps) R' [] fun u H' => u = .bool (p s) ∧ H' = []) :
    Spec Tryz.prog 96 [v, .func (.func f) #[] caps.toArray] R [] fun u H' => (∃ k : Int, u = .int .i64 k ∧ ((∃ (i : Nat) (x : RB), l[i]? = some x ∧ p x = true ∧ (∀ j y, j < i → l[j]? = some y → p y = false) ∧ k = i) ∨ ((∀ y ∈ l, p y = false) ∧ k = -1))) ∧ H' = [] := by
  have hle := h.le
  refine Spec.body Tryz.func96 rfl Tryz.results96 Tryz.ntmps96 rfl ?_
  refine .seq (.region ?_)
  refine .q .assign ?_
  refine .nil (seqQ_n ?_)
  refine .seq ?_
  refine .seq (.region ?_)
  refine .q .move ?_
  refine .q (.lenR h) ?_
  refine .q .move ?_
  refine .nil (seqQ_n ?_)
  refine .block ?_
  refine .loop (X := Nat) (fun i => i ≤ l.length ∧ ∀ j z, j < i → l[j]? = some z → p z = false) (fun i => [(0, v), (1, .func (.func f) #[] caps.toArray), (7, .int .i64 l.length), (8, .int .i64 (i : Nat))]) (fun _ => []) (fun i => l.length - i) 0 ⟨by omega, by omega⟩ (((((EnvLe.nil _).cons rfl).cons rfl).cons rfl).cons rfl) (HLe.refl _) ?_
  rintro i ⟨hi, hn⟩
  refine .seq (.region ?_)
  refine .q .lss ?_
  refine .nil (seqQ_n ?_)
  refine .seq ?_
  refine .cond rfl (fun h1 => ?_) (fun h1 => ?_)
  have hlt : i < l.length := by simp at h1; omega
  obtain ⟨z, hz⟩ : ∃ z, l[i]? = some z := ⟨_, List.getElem?_eq_getElem hlt⟩
  have hzm := List.mem_of_getElem? hz
  have hzo := (⟨h.one z hzm⟩ : Ones (encRB z))
  refine .skip ?_
  refine seqQ_n ?_
  refine .seq ?_
  refine .block ?_
  refine .seq (.region ?_)
  refine .q .move ?_
  refine .q .assign ?_
  refine .nil (seqQ_n ?_)
  refine .seq (.region ?_)
  refine .q .move ?_
  refine .q .move ?_
  refine .q .move ?_
  refine TriOps.indexR i h hz (fun pz => ?_)
  refine .q (.load1 rfl) ?_
  refine TriOps.callRV (first := []) (captured := caps) (vs := [(fun p : RB => Value.pointer (some ⟨p.1, 0, none⟩)) z]) (hf z hzm _ fun b o hb => .inl hb) (fun u hu => ?_)
  subst hu
  refine .nil (seqQ_n ?_)
  refine .cond rfl (fun h2 => ?_) (fun h2 => ?_)
  refine .seq (.region ?_)
  refine .q .move ?_
  refine .q .assign ?_
  refine .nil (seqQ_n ?_)
  refine .ret (blkQ_r (seqQ_r (loopQ_r (blkQ_r (seqQ_r (retQ_r _ (.one (.tmp rfl)) (.none _) ?_))))))
  · exact ⟨⟨_, rfl, .inl ⟨i, z, hz, h2, hn, rfl⟩⟩, rfl⟩
  refine .skip ?_
  refine blkQ_n (seqQ_n ?_)
  refine .region ?_
  refine .q (.inc (n := i) (by omega)) ?_
  refine .q .move ?_
  refine .nil ?_
  · exact loopQ_i (i + 1) ⟨by omega, fun j y hj hy => by
      rcases Nat.lt_or_ge j i with hh | hh
      · exact hn j y hh hy
      · obtain rfl : j = i := by omega
        rw [hz] at hy; cases hy; exact h2⟩ (by omega) (((((EnvLe.nil _).cons rfl).cons rfl).cons rfl).cons rfl) (HLe.refl _)
  refine .exit (seqQ_x (loopQ_x (blkQ_x ?_)))
  refine seqQ_n ?_
  refine .seq (.region ?_)
  refine .q .assign ?_
  refine .nil (seqQ_n ?_)
  refine .ret (retQ_r _ (.one (.tmp rfl)) (.none _) ?_)
  · have he : i = l.length := by simp at h1; omega
    subst he
    refine ⟨⟨_, rfl, .inr ⟨fun y hy => ?_, rfl⟩⟩, rfl⟩
    obtain ⟨j, hj, rfl⟩ := List.mem_iff_getElem.1 hy
    exact hn j _ hj (List.getElem?_eq_getElem hj)
theorem delF_spec (f : FuncId) (caps : List Value) [e : Ent Tryz.prog f] (p : RB → Bool) (v : Value) (xs : List RB) (Tx : Seg) (R : Rds) (h : OS 91 1 encRB v xs Tx) (hf : ∀ s ∈ xs, ∀ R', (∀ b o, R b o → R' b o) → Spec Tryz.prog f ((fun p : RB => Value.pointer (some ⟨p.1, 0, none⟩)) s :: caps) R' [] fun u H' => u = .bool (p s) ∧ H' = []) :
    Spec Tryz.prog 64 [v, .func (.func f) #[] caps.toArray] R [Tx] fun v' H' => ∃ Tx', H' = [Tx'] ∧ OS 91 1 encRB v' (xs.filter fun y => !p y) Tx' := by
  obtain ⟨pr, cap, rfl, hcap⟩ := h.shape
  obtain ⟨n, hn⟩ : ∃ n, n = xs.length := ⟨_, rfl⟩
  rw [← hn] at h hcap ⊢
  have hle := h.le
  refine Spec.body Tryz.func64 rfl Tryz.results64 Tryz.ntmps64 rfl ?_
  refine .seq (.region ?_)
  refine .q .assign ?_
  refine .nil (seqQ_n ?_)
  refine .seq (.region ?_)
  refine .q .move ?_
  refine .q .move ?_
  refine TriOps.callR (indexF_spec f caps p _ xs _ (h.rs fun q hq => .inr (by simpa using hq)) fun s hs R' hR => hf s hs R' fun b o hb => hR b o (.inl hb)) (fun v hv => ?_)
  obtain ⟨j, rfl, hj⟩ := hv
  refine .q .assign ?_
  refine .nil (seqQ_n ?_)
  refine .seq ?_
  refine .seq (.region ?_)
  refine .q .move ?_
  refine .q .eqI ?_
  refine .nil (seqQ_n ?_)
  refine .cond rfl (fun h1 => ?_) (fun h1 => ?_)
  have hj1 : j = -1 := by simpa using h1
  have hj2 : ∀ y ∈ xs, p y = false := by
    rcases hj with ⟨i, x, _, _, _, h4⟩ | ⟨h1, _⟩
    · omega
    · exact h1
  refine .seq (.region ?_)
  refine .q .move ?_
  refine .q .assign ?_
  refine .nil (seqQ_n ?_)
  refine .ret (seqQ_r (retQ_r _ (.one (.tmp rfl)) (.one [0] _) ?_))
  · exact ⟨Tx, by simp [take], by rw [df_none hj2]; exact h⟩
  obtain ⟨i0, x0, hx0, hp0, hb0, rfl⟩ : ∃ (i : Nat) (x : RB), xs[i]? = some x ∧ p x = true ∧ (∀ j y, j < i → xs[j]? = some y → p y = false) ∧ j = i := by
    rcases hj with hj | ⟨_, h2⟩
    · exact hj
    · subst h2; simp at h1
  have hi0 : i0 < xs.length := (List.getElem?_eq_some_iff.1 hx0).1
  refine .skip ?_
  refine seqQ_n ?_
  refine .seq ?_
  refine .seq (.region ?_)
  refine .q .move ?_
  refine .q (.inc (n := i0) (by omega)) ?_
  refine .q .assign ?_
  refine .nil (seqQ_n ?_)
  refine .block ?_
  refine .loop (X := Nat × Nat × List RB × Seg) (fun y => (y.1 ≤ y.2.1 ∧ y.2.1 ≤ n) ∧ (y.2.2.1.length = n ∧ y.2.2.1.take y.1 = (xs.take y.2.1).filter (fun y => !p y) ∧ y.2.2.1.drop y.2.1 = xs.drop y.2.1) ∧ OS 91 1 encRB (.slice pr n cap) y.2.2.1 y.2.2.2) (fun y => [(0, .slice pr n cap), (1, .func (.func f) #[] caps.toArray), (5, .int .i64 (y.1 : Nat)), (6, .int .i64 (y.2.1 : Nat))]) (fun y => [y.2.2.2]) (fun y => n - y.2.1) (i0, i0 + 1, xs, Tx) ⟨⟨by simp, by simp only; omega⟩, ⟨hn.symm, df_first hx0 hp0 hb0, rfl⟩, h⟩ (((((EnvLe.nil _).cons rfl).cons rfl).cons rfl).cons rfl) (HLe.refl _) ?_
  rintro ⟨i, j, ys, Ty⟩ ⟨⟨hij, hjn⟩, ⟨hyl, hyt, hyd⟩, hO⟩
  simp only at hij hjn hyl hyt hyd hO ⊢
  refine .seq ?_
  refine .seq (.region ?_)
  refine .q .move ?_
  refine .q .move ?_
  refine .q (.lenO hO) ?_
  refine .q .lss ?_
  refine .nil (seqQ_n ?_)
  refine .cond rfl (fun h2 => ?_) (fun h2 => ?_)
  have hlt : j < n := by simp at h2; omega
  obtain ⟨z, hz⟩ : ∃ z, ys[j]? = some z := ⟨_, List.getElem?_eq_getElem (by omega)⟩
  have hzx : xs[j]? = some z := by rw [← df_get hyd]; exact hz
  obtain ⟨u, hu⟩ : ∃ u, ys[i]? = some u := ⟨_, List.getElem?_eq_getElem (by omega)⟩
  have hzo := (⟨hO.one z (List.mem_of_getElem? hz)⟩ : Ones (encRB z))
  refine .skip ?_
  refine seqQ_n ?_
  refine .seq ?_
  refine .block ?_
  refine .seq (.region ?_)
  refine .q .move ?_
  refine .q .move ?_
  refine TriOps.indexO j hO hz (fun ps => ?_)
  refine .q (.load1 rfl) ?_
  refine .q .assign ?_
  refine .nil (seqQ_n ?_)
  refine .seq (.region ?_)
  refine .q .move ?_
  refine .q .move ?_
  refine TriOps.callRV (first := []) (captured := caps) (vs := [(fun p : RB => Value.pointer (some ⟨p.1, 0, none⟩)) z]) (hf z (List.mem_of_getElem? hzx) _ fun b o hb => .inl hb) (fun v' hv => ?_)
  subst hv
  refine .q .not ?_
  refine .nil (seqQ_n ?_)
  refine .cond rfl (fun h3 => ?_) (fun h3 => ?_)
  refine .seq (.region ?_)
  refine .q .move ?_
  refine .q .move ?_
  refine .q .move ?_
  refine TriOps.indexO i hO hu (fun ps2 => ?_)
  refine TriOps.storeO1 i hO hu z (fun Ty' hO' => ?_)
  refine .nil (seqQ_n ?_)
  refine .region ?_
  refine .q .move ?_
  refine .q (.inc (n := i) (by omega)) ?_
  refine .q .assign ?_
  refine .nil ?_
  refine blkQ_n (seqQ_n ?_)
  refine .region ?_
  refine .q .move ?_
  refine .q (.inc (n := j) (by omega)) ?_
  refine .q .assign ?_
  refine .nil ?_
  · first
      | exact loopQ_i (i + 1, j + 1, ys.set i z, Ty') ⟨⟨by simp only; omega, by simp only; omega⟩, ⟨by simp [hyl], df_keep hyt hzx (by omega) h3, by simp only; rw [List.drop_set_of_lt (by omega)]; exact df_drop hyd⟩, hO'⟩ (by simp only; omega) (((((EnvLe.nil _).cons rfl).cons rfl).cons rfl).cons rfl) (by first | exact HLe.pick [1] _ | exact HLe.refl _)
      | exact loopQ_i (i, j + 1, ys, Ty) ⟨⟨by simp only; omega, by simp only; omega⟩, ⟨hyl, df_skip hyt hzx h3, df_drop hyd⟩, hO⟩ (by simp only; omega) (((((EnvLe.nil _).cons rfl).cons rfl).cons rfl).cons rfl) (by first | exact HLe.pick [1] _ | exact HLe.refl _)
  refine .skip ?_
  refine blkQ_n (seqQ_n ?_)
  refine .region ?_
  refine .q .move ?_
  refine .q (.inc (n := j) (by omega)) ?_
  refine .q .assign ?_
  refine .nil ?_
  · first
      | exact loopQ_i (i + 1, j + 1, ys.set i z, Ty') ⟨⟨by simp only; omega, by simp only; omega⟩, ⟨by simp [hyl], df_keep hyt hzx (by omega) h3, by simp only; rw [List.drop_set_of_lt (by omega)]; exact df_drop hyd⟩, hO'⟩ (by simp only; omega) (((((EnvLe.nil _).cons rfl).cons rfl).cons rfl).cons rfl) (by first | exact HLe.pick [1] _ | exact HLe.refl _)
      | exact loopQ_i (i, j + 1, ys, Ty) ⟨⟨by simp only; omega, by simp only; omega⟩, ⟨hyl, df_skip hyt hzx h3, df_drop hyd⟩, hO⟩ (by simp only; omega) (((((EnvLe.nil _).cons rfl).cons rfl).cons rfl).cons rfl) (by first | exact HLe.pick [1] _ | exact HLe.refl _)
  refine .exit (seqQ_x (loopQ_x (blkQ_x ?_)))
  refine seqQ_n ?_
  refine .seq (.region ?_)
  refine .q .move ?_
  refine .q .move ?_
  have hjn' : j = n := by simp at h2; omega
  refine .q (.sliceE (sz := 1) i n ⟨_, rfl⟩ rfl (by omega) (by omega)) ?_
  refine TriOps.clearTail i hO (by omega) rfl (fun Ty2 hO2 => ?_)
  refine .nil (seqQ_n ?_)
  refine .seq (.region ?_)
  refine .q .move ?_
  refine .q .move ?_
  refine .q (.sliceE (sz := 1) (n := n) (cap := cap) (p := pr) 0 i rfl ⟨_, rfl⟩ (by omega) (by omega)) ?_
  refine .q .assign ?_
  refine .nil (seqQ_n ?_)
  refine .ret (retQ_r _ (.one (.tmp rfl)) (.one [0] _) ?_)
  · refine ⟨Ty2, by simp [take], ?_⟩
    rw [hyt, hjn', hn, List.take_length] at hO2
    exact hO2
end LRP
end Go.Proofs.YtconfddhmnipjaaGreat
set_option linter.unusedVariables false
set_option linter.unusedSimpArgs false
set_option maxRecDepth 4000
namespace Go.Proofs.YtconfddhmnipjaaGreat
instance Obr.keyP : KeyT Tryz.prog 64 (fun k : Obr => .agg k.enc.toArray) := KeyT.agg fQ64 Tryz.underlying64 rfl Obr.kinds Obr.eq
instance Sub.keyP : KeyT Tryz.prog 68 (fun k : Sub => .agg k.enc.toArray) := KeyT.agg fQ68 Tryz.underlying68 rfl Sub.kinds Sub.eq
instance Tpl.keyP : KeyT Tryz.prog 70 (fun k : Tpl => .agg k.enc.toArray) := KeyT.agg fQ70 Tryz.underlying70 rfl Tpl.kinds Tpl.eq
def frows {κ : Type} [DecidableEq κ] (key : SRow → κ) (k : κ) (ps : List RB) : List RB := ps.filter fun x => decide (key x.2 = k)
theorem ids_frows {κ : Type} [DecidableEq κ] {key : SRow → κ} {k : κ} {ps : List RB} : ids key k ps = (frows key k ps).map (·.1) := rfl
theorem MFx.look {κ : Type} [DecidableEq κ] {encK : κ → Value} {key : SRow → κ} {ps : List RB} {vm : Value} {M : List (κ × (Value × Seg))} {Tm Ts : Seg} {R : Rds} (h : MFx encK key ps vm M Tm Ts) (hR : ∀ p ∈ Ts, R p.1 p.2) (k : κ) : ∃ p c, ((mget k M).map fun p : Value × Seg => p.1).getD (.slice none 0 0) = .slice p (ids key k ps).length c ∧ RS R 1 encPt (.slice p (ids key k ps).length c) (ids key k ps) := by
  obtain ⟨v, Tk, Tr, h1, h2, h3, _⟩ := h.get k
  have h4 : RS R 1 encPt v (ids key k ps) := h2.rs fun p hp => hR p (h3.mem_iff.2 (List.mem_append_left _ hp))
  obtain ⟨p, c, e⟩ := h4.val
  subst e
  exact ⟨p, c, h1, h4⟩
/-- A store that is seen. -/
structure SV (R : Rds) (g : Nat) (S : Sto) (ps : List RB) (vf vr : Value) (Mf : List (Obr × (Value × Seg))) (Mr : List (Sub × (Value × Seg))) : Prop where
  pc : PC R (.pointer (some ⟨g, 0, none⟩)) [.bool true, .int .u64 S.head, .int .u64 S.hor, .int .i64 (ps.length : Nat), vf, vr]
  of : One vf
  or : One vr
  mf : RM R (fun k : Obr => .agg k.enc.toArray) (fun p : Value × Seg => p.1) vf Mf
  mr : RM R (fun k : Sub => .agg k.enc.toArray) (fun p : Value × Seg => p.1) vr Mr
  lf : ∀ k, ∃ p c, ((mget k Mf).map fun p : Value × Seg => p.1).getD (.slice none 0 0) = .slice p (ids (fun x => x.t.obr) k ps).length c ∧ RS R 1 encPt (.slice p (ids (fun x => x.t.obr) k ps).length c) (ids (fun x => x.t.obr) k ps)
  lr : ∀ k, ∃ p c, ((mget k Mr).map fun p : Value × Seg => p.1).getD (.slice none 0 0) = .slice p (ids (fun x => x.t.sub) k ps).length c ∧ RS R 1 encPt (.slice p (ids (fun x => x.t.sub) k ps).length c) (ids (fun x => x.t.sub) k ps)
  af : ∀ x ∈ ps, x.2.t.obr ∈ Mf.map (·.1)
  nf : (Mf.map (·.1)).Nodup
  pr : ∀ p ∈ ps, PC R (.pointer (some ⟨p.1, 0, none⟩)) p.2.enc
  eq : ps.map (·.2) = S.rows
theorem SV.mono {R R' : Rds} {g : Nat} {S : Sto} {ps : List RB} {vf vr : Value} {Mf : List (Obr × (Value × Seg))} {Mr : List (Sub × (Value × Seg))} (h : SV R g S ps vf vr Mf Mr) (hR : ∀ b o, R b o → R' b o) : SV R' g S ps vf vr Mf Mr := by
  refine ⟨h.pc.mono hR, h.of, h.or, ?_, ?_, fun k => ?_, fun k => ?_, h.af, h.nf, fun p hp => (h.pr p hp).mono hR, h.eq⟩
  · obtain ⟨b, es, c, h1, h2, h3⟩ := h.mf
    exact ⟨b, es, c, h1, hR _ _ h2, h3⟩
  · obtain ⟨b, es, c, h1, h2, h3⟩ := h.mr
    exact ⟨b, es, c, h1, hR _ _ h2, h3⟩
  · obtain ⟨p, c, h1, h2⟩ := h.lf k
    exact ⟨p, c, h1, h2.mono hR⟩
  · obtain ⟨p, c, h1, h2⟩ := h.lr k
    exact ⟨p, c, h1, h2.mono hR⟩
theorem SI.view {g : Nat} {S : Sto} {T : Seg} {R : Rds} (h : SI g S T) (hR : ∀ p ∈ T, R p.1 p.2) : ∃ ps vf vr Mf Mr, SV R g S ps vf vr Mf Mr := by
  obtain ⟨ps, vf, vr, Mf, Mr, Tf, Tr, Sf, Sr, rfl, h1, h2, h3⟩ := h
  refine ⟨ps, vf, vr, Mf, Mr, ⟨PC.of (E := 62) (fr := (0, 0)) (hR (g, _) (by simp)), h1.ms.one, h2.ms.one, h1.ms.rm fun p hp => hR p (by simp [hp]), h2.ms.rm fun p hp => hR p (by simp [hp]), fun k => h1.look (fun p hp => hR p (by simp [hp])) k, fun k => h2.look (fun p hp => hR p (by simp [hp])) k, h1.al, h1.ms.nd, fun p hp => ?_, h3⟩⟩
  exact PC.of (E := 77) (fr := (0, 0)) (hR (p.1, rowObj p.2) (by
    have : (p.1, rowObj p.2) ∈ rowSeg ps := List.mem_map.2 ⟨p, hp, rfl⟩
    simp [this]))
theorem sok_spec (g : Nat) (R : Rds) (c1 c2 c3 c4 c5 : Value) [i1 : One c1] [i2 : One c2] [i3 : One c3] [i4 : One c4] [i5 : One c5] [pc : PC R (.pointer (some ⟨g, 0, none⟩)) [.bool true, c1, c2, c3, c4, c5]] : Spec Tryz.prog 17 [.pointer (some ⟨g, 0, none⟩)] R [] fun v H' => v = .bool true ∧ H' = [] := by
  refine Spec.body Tryz.func17 rfl Tryz.results17 Tryz.ntmps17 rfl ?_
  refine .seq (.region ?_)
  refine .q .assign ?_
  refine .nil (seqQ_n ?_)
  refine .seq (.region ?_)
  refine .q .move ?_
  refine .q (.neNilP rfl rfl) ?_
  refine .q .move ?_
  refine TriOps.gt rfl ?_
  refine .q .move ?_
  refine TriOps.gt rfl ?_
  refine .q (.nilCheck rfl) ?_
  refine TriOps.gt rfl ?_
  refine .q (.fieldAddr rfl) ?_
  refine TriOps.gt rfl ?_
  refine .q (.load1 rfl) ?_
  refine .q .pickT ?_
  refine .q .assign ?_
  refine .nil (seqQ_n ?_)
  refine .ret (retQ_r _ (.one (.tmp rfl)) (.none _) ?_)
  · exact ⟨rfl, rfl⟩
section
variable {R : Rds} {g : Nat} {S : Sto} {ps : List RB} {vf vr : Value} {Mf : List (Obr × (Value × Seg))} {Mr : List (Sub × (Value × Seg))}
theorem SV.ok (h : SV R g S ps vf vr Mf Mr) : Spec Tryz.prog 17 [.pointer (some ⟨g, 0, none⟩)] R [] fun v H' => v = .bool true ∧ H' = [] := by
  have := h.pc
  have := h.of
  have := h.or
  exact sok_spec g R _ _ _ _ _
theorem SV.head (h : SV R g S ps vf vr Mf Mr) : Spec Tryz.prog 8 [.pointer (some ⟨g, 0, none⟩)] R [] fun v H' => v = .int .u64 S.head ∧ H' = [] := by
  have pc := h.pc
  refine Spec.body Tryz.func8 rfl Tryz.results8 Tryz.ntmps8 rfl ?_
  refine .seq (.region ?_)
  refine .q .assign ?_
  refine .nil (seqQ_n ?_)
  refine .seq ?_
  refine .seq (.region ?_)
  refine .q .move ?_
  refine TriOps.callR (h.mono fun b o hb => .inl hb).ok (fun v hv => ?_)
  subst hv
  refine .q .not ?_
  refine .nil (seqQ_n ?_)
  refine .condF ?_
  refine .skip ?_
  refine seqQ_n ?_
  refine .seq (.region ?_)
  refine .q .move ?_
  refine .q (.nilCheck rfl) ?_
  refine .q (.fieldAddr rfl) ?_
  refine .q (.load1 rfl) ?_
  refine .q .assign ?_
  refine .nil (seqQ_n ?_)
  refine .ret (retQ_r _ (.one (.tmp rfl)) (.none _) ?_)
  · exact ⟨rfl, rfl⟩
theorem SV.can (h : SV R g S ps vf vr Mf Mr) (r : Int) : Spec Tryz.prog 18 [.pointer (some ⟨g, 0, none⟩), .int .u64 r] R [] fun v H' => v = .bool (scan S r) ∧ H' = [] := by
  have pc := h.pc
  refine Spec.body Tryz.func18 rfl Tryz.results18 Tryz.ntmps18 rfl ?_
  refine .seq (.region ?_)
  refine .q .assign ?_
  refine .nil (seqQ_n ?_)
  refine .seq (.region ?_)
  refine .q .move ?_
  refine TriOps.callR (h.mono fun b o hb => .inl hb).ok (fun v hv => ?_)
  subst hv
  refine .q .move ?_
  refine TriOps.split (t := 7) rfl (fun g1_2 => ?_) (fun g1_2 => ?_)
  refine TriOps.gT g1_2 ?_
  refine .q .move ?_
  refine TriOps.gT g1_2 ?_
  refine .q .move ?_
  refine TriOps.gT g1_2 ?_
  refine .q (.nilCheck rfl) ?_
  refine TriOps.gT g1_2 ?_
  refine .q (.fieldAddr rfl) ?_
  refine TriOps.gT g1_2 ?_
  refine .q (.load1 rfl) ?_
  refine TriOps.gT g1_2 ?_
  refine .q .geq ?_
  refine .q (.pickTh g1_2) ?_
  refine .q .move ?_
  refine TriOps.split (t := 15) rfl (fun g1_10 => ?_) (fun g1_10 => ?_)
  refine TriOps.gT g1_10 ?_
  refine .q .move ?_
  refine TriOps.gT g1_10 ?_
  refine .q .move ?_
  refine TriOps.gT g1_10 ?_
  refine .q (.nilCheck rfl) ?_
  refine TriOps.gT g1_10 ?_
  refine .q (.fieldAddr rfl) ?_
  refine TriOps.gT g1_10 ?_
  refine .q (.load1 rfl) ?_
  refine TriOps.gT g1_10 ?_
  refine .q .leq ?_
  refine .q (.pickTh g1_10) ?_
  refine .q .assign ?_
  refine .nil (seqQ_n ?_)
  refine .ret (retQ_r _ (.one (.tmp rfl)) (.none _) ?_)
  · refine ⟨congrArg _ ?_, rfl⟩
    unfold scan
    simp_all
    try omega
  refine TriOps.gF g1_10 ?_
  refine TriOps.gF g1_10 ?_
  refine TriOps.gF g1_10 ?_
  refine TriOps.gF g1_10 ?_
  refine TriOps.gF g1_10 ?_
  refine TriOps.gF g1_10 ?_
  refine .q (.pickFh g1_10) ?_
  refine .q .assign ?_
  refine .nil (seqQ_n ?_)
  refine .ret (retQ_r _ (.one (.tmp rfl)) (.none _) ?_)
  · refine ⟨congrArg _ ?_, rfl⟩
    unfold scan
    simp_all
    try omega
  refine TriOps.gF g1_2 ?_
  refine TriOps.gF g1_2 ?_
  refine TriOps.gF g1_2 ?_
  refine TriOps.gF g1_2 ?_
  refine TriOps.gF g1_2 ?_
  refine TriOps.gF g1_2 ?_
  refine .q (.pickFh g1_2) ?_
  refine .q .move ?_
  refine TriOps.gf rfl rfl ?_
  refine TriOps.gf rfl rfl ?_
  refine TriOps.gf rfl rfl ?_
  refine TriOps.gf rfl rfl ?_
  refine TriOps.gf rfl rfl ?_
  refine TriOps.gf rfl rfl ?_
  refine .q .pickF ?_
  refine .q .assign ?_
  refine .nil (seqQ_n ?_)
  refine .ret (retQ_r _ (.one (.tmp rfl)) (.none _) ?_)
  · refine ⟨congrArg _ ?_, rfl⟩
    unfold scan
    simp_all
    try omega
end
theorem there_spec (x : SRow) (r : Int) (R : Rds) : Spec Tryz.prog 42 [.agg x.enc.toArray, .int .u64 r] R [] fun v H' => v = .bool (x.there r) ∧ H' = [] := by
  obtain ⟨⟨a1, a2, a3, a4, a5, a6, a7⟩, fr, to⟩ := x
  refine Spec.body Tryz.func42 rfl Tryz.results42 Tryz.ntmps42 rfl ?_
  refine .seq (.region ?_)
  refine TriOps.boxA rfl (fun b2 => ?_)
  refine .q .assign ?_
  refine .nil (seqQ_n ?_)
  refine .seq (.region ?_)
  refine .q (.fieldAddr rfl) ?_
  refine .q (.load1 rfl) ?_
  refine .q .move ?_
  refine .q .leq ?_
  refine .q .move ?_
  refine TriOps.split (t := 9) rfl (fun g1_4 => ?_) (fun g1_4 => ?_)
  refine TriOps.gT g1_4 ?_
  refine .q (.fieldAddr rfl) ?_
  refine TriOps.gT g1_4 ?_
  refine .q (.load1 rfl) ?_
  refine TriOps.gT g1_4 ?_
  refine .q .eqI ?_
  refine TriOps.gT g1_4 ?_
  refine .q .move ?_
  refine TriOps.split (t := 13) rfl (fun g1_8 => ?_) (fun g1_8 => ?_)
  refine TriOps.gF g1_8 ?_
  refine TriOps.gF g1_8 ?_
  refine TriOps.gF g1_8 ?_
  refine TriOps.gF g1_8 ?_
  refine TriOps.gT g1_4 ?_
  refine .q (.pickTh g1_8) ?_
  refine .q (.pickTh g1_4) ?_
  refine .q .assign ?_
  refine .nil (seqQ_n ?_)
  refine .ret (retQ_r _ (.one (.tmp rfl)) (.none _) ?_)
  · refine ⟨congrArg _ ?_, rfl⟩
    unfold SRow.there
    simp_all
    try omega
  refine TriOps.gT g1_8 ?_
  refine .q (.fieldAddr rfl) ?_
  refine TriOps.gT g1_8 ?_
  refine .q (.load1 rfl) ?_
  refine TriOps.gT g1_8 ?_
  refine .q .move ?_
  refine TriOps.gT g1_8 ?_
  refine .q .gtr ?_
  refine TriOps.gT g1_4 ?_
  refine .q (.pickFh g1_8) ?_
  refine .q (.pickTh g1_4) ?_
  refine .q .assign ?_
  refine .nil (seqQ_n ?_)
  refine .ret (retQ_r _ (.one (.tmp rfl)) (.none _) ?_)
  · refine ⟨congrArg _ ?_, rfl⟩
    unfold SRow.there
    simp_all
    try omega
  refine TriOps.gF g1_4 ?_
  refine TriOps.gF g1_4 ?_
  refine TriOps.gF g1_4 ?_
  refine TriOps.gF g1_4 ?_
  refine TriOps.gfU rfl ?_
  refine TriOps.gfU rfl ?_
  refine TriOps.gfU rfl ?_
  refine TriOps.gfU rfl ?_
  refine TriOps.gF g1_4 ?_
  refine .q (.pickFh g1_4) ?_
  refine .q .assign ?_
  refine .nil (seqQ_n ?_)
  refine .ret (retQ_r _ (.one (.tmp rfl)) (.none _) ?_)
  · refine ⟨congrArg _ ?_, rfl⟩
    unfold SRow.there
    simp_all
    try omega
theorem of_spec (t : Tpl) (R : Rds) : Spec Tryz.prog 61 [.agg t.enc.toArray] R [] fun v H' => v = .agg t.obr.enc.toArray ∧ H' = [] := by
  obtain ⟨a1, a2, a3, a4, a5, a6, a7⟩ := t
  refine Spec.body Tryz.func61 rfl Tryz.results61 Tryz.ntmps61 rfl ?_
  refine .seq (.region ?_)
  refine TriOps.boxA rfl (fun b1 => ?_)
  refine TriOps.allocA (fun b2 => ?_)
  refine .nil (seqQ_n ?_)
  refine .seq (.region ?_)
  refine .q (.fieldAddr rfl) ?_
  refine .q (.loadT rfl) ?_
  refine .q (.fieldAddr rfl) ?_
  refine .q (.load1 rfl) ?_
  refine .q .bld ?_
  refine TriOps.storeA rfl rfl ?_
  refine .nil (seqQ_n ?_)
  refine .ret (retQ_r _ (.one (.cellA rfl rfl)) (.none _) ?_)
  · exact ⟨rfl, rfl⟩
theorem snew_spec (R : Rds) : Spec Tryz.prog 11 [] R [] fun v H' => ∃ T, H' = [T] ∧ ∃ g, v = .pointer (some ⟨g, 0, none⟩) ∧ SI g ⟨[], 0, 0⟩ T := by
  refine Spec.body Tryz.func11 rfl Tryz.results11 Tryz.ntmps11 rfl ?_
  refine .seq (.region ?_)
  refine .q .assign ?_
  refine .nil (seqQ_n ?_)
  refine .seq (.region ?_)
  refine TriOps.makeMap (fun b1 => ?_)
  refine TriOps.makeMap (fun b2 => ?_)
  refine .q .bld ?_
  refine TriOps.boxA rfl (fun b4 => ?_)
  refine .q .assign ?_
  refine .nil (seqQ_n ?_)
  refine .ret (retQ_r _ (.one (.tmp rfl)) ((HLe.pick [0, 1, 0] _).trans (HLe.ofPerm (H' := [(b4, .cells [.bool true, .int .u64 0, .int .u64 0, .int .i64 0, .map (some b1), .map (some b2)].toArray 62 (0, 0)) :: ([(b1, .map #[] 0)] ++ ([] ++ ([(b2, .map #[] 0)] ++ ([] ++ rowSeg []))))]) (by simp [take, dropAt, setL, rowSeg]))) ?_)
  · exact ⟨_, rfl, b4, rfl, [], _, _, [], [], _, _, _, _, rfl, MFx.nil, MFx.nil, rfl⟩
end Go.Proofs.YtconfddhmnipjaaGreat
set_option linter.unusedVariables false
set_option linter.unusedSimpArgs false
set_option maxRecDepth 4000
namespace Go.Proofs.YtconfddhmnipjaaGreat
theorem odd_spec (t : Tpl) (ht : t.fits) (R : Rds) : Spec Tryz.prog 55 [.agg t.enc.toArray] R [] fun v H' => v = .bool (!isTpl t) ∧ H' = [] := by
  refine Spec.body Tryz.func55 rfl Tryz.results55 Tryz.ntmps55 rfl ?_
  refine .seq (.region ?_)
  refine TriOps.boxA rfl (fun b1 => ?_)
  refine .q .assign ?_
  refine .nil (seqQ_n ?_)
  refine .seq (.region ?_)
  refine .q (.loadA rfl) ?_
  refine TriOps.callR (checkTpl_spec t ht _) (fun v hv => ?_)
  subst hv
  refine .q .neI ?_
  refine .q .assign ?_
  refine .nil (seqQ_n ?_)
  refine .ret (retQ_r _ (.one (.tmp rfl)) (.none _) ?_)
  · refine ⟨congrArg _ ?_, rfl⟩
    cases isTpl t <;> rfl
/-- What 'find' answers. -/
def Fnd (ps : List RB) (S : Sto) (t : Tpl) (u : Value) : Prop := (∃ b x, (b, x) ∈ ps ∧ x.openOf t = true ∧ u = .pointer (some ⟨b, 0, none⟩)) ∨ (sthere S.rows t = false ∧ u = .pointer none)
theorem Fnd.ptr {ps : List RB} {S : Sto} {t : Tpl} {u : Value} (h : Fnd ps S t u) (he : ps.map (·.2) = S.rows) : ∃ o, u = .pointer o ∧ sthere S.rows t = !o.isNone := by
  rcases h with ⟨b, x, h1, h2, rfl⟩ | ⟨h1, rfl⟩
  · exact ⟨_, rfl, by rw [sthere, List.any_eq_true.2 ⟨x, he ▸ List.mem_map.2 ⟨_, h1, rfl⟩, h2⟩]; rfl⟩
  · exact ⟨_, rfl, by rw [h1]; rfl⟩
theorem find_spec {R : Rds} {g : Nat} {S : Sto} {ps : List RB} {vf vr : Value} {Mf : List (Obr × (Value × Seg))} {Mr : List (Sub × (Value × Seg))} (h : SV R g S ps vf vr Mf Mr) (t : Tpl) :
    Spec Tryz.prog 35 [.pointer (some ⟨g, 0, none⟩), .agg t.enc.toArray] R [] fun u H' => Fnd ps S t u ∧ H' = [] := by
  have pc := h.pc
  have iof := h.of
  have ior := h.or
  obtain ⟨pf, cf, hlk, hrs⟩ := h.lf t.obr
  have hle := hrs.le
  refine Spec.body Tryz.func35 rfl Tryz.results35 Tryz.ntmps35 rfl ?_
  refine .seq (.region ?_)
  refine TriOps.boxA rfl (fun b3 => ?_)
  refine .q .assign ?_
  refine .nil (seqQ_n ?_)
  refine .seq ?_
  refine .seq ?_
  refine .region_all [5] mixed ?_
  refine .take 0 rfl .move (by kernel_rfl) ?_
  refine .take 1 rfl (.nilCheckA rfl) (by kernel_rfl) ?_
  refine .take 2 rfl (.fieldAddrA rfl) (by kernel_rfl) ?_
  refine .take 3 rfl (.load1 rfl) (by kernel_rfl) ?_
  refine .takeO 4 rfl (.loadA rfl) (by kernel_rfl) ?_
  refine .take 8 rfl .move (by kernel_rfl) ?_
  refine RA.step 5 rfl (by kernel_rfl) rfl ?_
  refine TriOps.callR (of_spec t _) (fun u hu => ?_)
  subst hu
  refine .nil (Next.mod rfl ?_)
  refine .take 6 rfl (.lookupE (h.mono fun b o hb => .inl hb).mf rfl rfl hlk) (by kernel_rfl) ?_
  refine .take 7 rfl (.lenR hrs) (by kernel_rfl) ?_
  refine RA.nil (by kernel_rfl) ?_
  refine seqQ_n ?_
  refine .block ?_
  refine .loop (X := Nat) (fun i => i ≤ (ids (fun x => x.t.obr) t.obr ps).length ∧ ∀ j b x, j < i → (frows (fun x => x.t.obr) t.obr ps)[j]? = some (b, x) → x.openOf t = false) (fun i => [(0, .pointer (some ⟨g, 0, none⟩)), (3, .pointer (some ⟨b3, 0, none⟩)), (13, .slice pf (ids (fun x => x.t.obr) t.obr ps).length cf), (14, .int .i64 ((ids (fun x => x.t.obr) t.obr ps).length : Nat)), (15, .int .i64 (i : Nat))]) (fun _ => [[(b3, .cells t.enc.toArray 70 (0, 0))]]) (fun i => (ids (fun x => x.t.obr) t.obr ps).length - i) 0 ⟨Nat.zero_le _, by omega⟩ ((((((EnvLe.nil _).cons rfl).cons rfl).cons rfl).cons rfl).cons rfl) (HLe.refl _) ?_
  rintro i ⟨hi, hn⟩
  refine .seq (.region ?_)
  refine .q .lss ?_
  refine .nil (seqQ_n ?_)
  refine .seq ?_
  refine .cond rfl (fun h1 => ?_) (fun h1 => ?_)
  have hlt : i < (ids (fun x => x.t.obr) t.obr ps).length := by simpa using h1
  obtain ⟨⟨b, x⟩, hx⟩ : ∃ y, (frows (fun x => x.t.obr) t.obr ps)[i]? = some y := ⟨_, List.getElem?_eq_getElem (by rw [ids_frows, List.length_map] at hlt; exact hlt)⟩
  have hb : (ids (fun x => x.t.obr) t.obr ps)[i]? = some b := by rw [ids_frows, List.getElem?_map, hx]; rfl
  have hm := List.mem_filter.1 (List.mem_of_getElem? hx)
  have px : PC R (.pointer (some ⟨b, 0, none⟩)) x.enc := h.pr _ hm.1
  refine .skip ?_
  refine seqQ_n ?_
  refine .seq ?_
  refine .block ?_
  refine .seq (.region ?_)
  refine TriOps.indexR i hrs hb (fun p17 => ?_)
  refine .q (.load1 rfl) ?_
  refine .q .assign ?_
  refine .nil (seqQ_n ?_)
  refine .seq ?_
  refine .region_still mixed (by kernel_rfl) ?_
  refine .q .move ?_
  refine .q (.nilCheck rfl) ?_
  refine .q (.fieldAddr rfl) ?_
  refine .q (.loadT rfl) ?_
  refine .q (.loadA rfl) ?_
  refine .q (.eqA rfl rfl (Tpl.kinds x.t) (Tpl.kinds t)) ?_
  rw [show cellsEq (List.take 7 (List.drop 0 x.enc)) t.enc = decide (x.t = t) from Tpl.eq x.t t]
  refine .q .move ?_
  refine TriOps.split (t := 25) rfl (fun g4_6 => ?_) (fun g4_6 => ?_)
  refine TriOps.gT g4_6 ?_
  refine .q .move ?_
  refine TriOps.gT g4_6 ?_
  refine .q (.nilCheck rfl) ?_
  refine TriOps.gT g4_6 ?_
  refine .q (.fieldAddr rfl) ?_
  refine TriOps.gT g4_6 ?_
  refine .q (.load1 rfl) ?_
  refine TriOps.gT g4_6 ?_
  refine .q .eqI ?_
  refine .q (.pickTh g4_6) ?_
  refine .nil (seqQ_n ?_)
  refine .cond rfl (fun h2 => ?_) (fun h2 => ?_)
  refine .seq (.region ?_)
  refine .q .move ?_
  refine .q .assign ?_
  refine .nil (seqQ_n ?_)
  refine .ret (blkQ_r (seqQ_r (loopQ_r (blkQ_r (seqQ_r (retQ_r _ (.one (.tmp rfl)) (.none _) ?_))))))
  · exact ⟨.inl ⟨b, x, hm.1, by unfold SRow.openOf; simp_all, rfl⟩, rfl⟩
  refine .skip ?_
  refine blkQ_n (seqQ_n ?_)
  refine .region ?_
  refine .q (.i64 ((i + 1 : Nat) : Int) .add ⟨by omega, by omega, by omega⟩) ?_
  refine .q .move ?_
  refine .nil ?_
  · exact loopQ_i (i + 1) ⟨hlt, fun j b' x' hj hx' => by
      rcases Nat.lt_or_ge j i with hh | hh
      · exact hn j b' x' hh hx'
      · obtain rfl : j = i := by omega
        rw [hx] at hx'
        cases hx'
        unfold SRow.openOf
        first
          | exact (by rw [g4_6]; exact h2)
          | exact (by rw [g4_6]; rfl)⟩ (by omega) ((((((EnvLe.nil _).cons rfl).cons rfl).cons rfl).cons rfl).cons rfl) (HLe.refl _)
  refine TriOps.gF g4_6 ?_
  refine TriOps.gF g4_6 ?_
  refine TriOps.gF g4_6 ?_
  refine TriOps.gF g4_6 ?_
  refine TriOps.gF g4_6 ?_
  refine .q (.pickFh g4_6) ?_
  refine .nil (seqQ_n ?_)
  refine .condF ?_
  refine .skip ?_
  refine blkQ_n (seqQ_n ?_)
  refine .region ?_
  refine .q (.i64 ((i + 1 : Nat) : Int) .add ⟨by omega, by omega, by omega⟩) ?_
  refine .q .move ?_
  refine .nil ?_
  · exact loopQ_i (i + 1) ⟨hlt, fun j b' x' hj hx' => by
      rcases Nat.lt_or_ge j i with hh | hh
      · exact hn j b' x' hh hx'
      · obtain rfl : j = i := by omega
        rw [hx] at hx'
        cases hx'
        unfold SRow.openOf
        first
          | exact (by rw [g4_6]; exact h2)
          | exact (by rw [g4_6]; rfl)⟩ (by omega) ((((((EnvLe.nil _).cons rfl).cons rfl).cons rfl).cons rfl).cons rfl) (HLe.refl _)
  refine .exit (seqQ_x (loopQ_x (blkQ_x ?_)))
  refine seqQ_n ?_
  refine .seq (.region ?_)
  refine .q .assign ?_
  refine .nil (seqQ_n ?_)
  refine .ret (retQ_r _ (.one (.tmp rfl)) (.none _) ?_)
  · refine ⟨.inr ⟨?_, rfl⟩, rfl⟩
    have hie : i = (ids (fun x => x.t.obr) t.obr ps).length := by have := of_decide_eq_false h1; omega
    rw [sthere, List.any_eq_false]
    intro x hx ho
    rw [← h.eq] at hx
    obtain ⟨⟨b, x'⟩, hbx, rfl⟩ := List.mem_map.1 hx
    have hk : x'.t = t := by unfold SRow.openOf at ho; simp only [Bool.and_eq_true, decide_eq_true_eq] at ho; exact ho.1
    have hmem : (b, x') ∈ frows (fun x => x.t.obr) t.obr ps := List.mem_filter.2 ⟨hbx, by simp [hk]⟩
    obtain ⟨j, hj, he⟩ := List.mem_iff_getElem.1 hmem
    have := hn j b x' (by rw [hie, ids_frows, List.length_map]; exact hj) (by rw [List.getElem?_eq_getElem hj, he])
    rw [this] at ho
    cases ho
theorem add_spec (g : Nat) (S : Sto) (T : Seg) (h : SI g S T) (x : SRow) (hl : S.rows.length ≤ 5000) (R : Rds) :
    Spec Tryz.prog 34 [.pointer (some ⟨g, 0, none⟩), .agg x.enc.toArray] R [T] fun u H' => ∃ T', H' = [T'] ∧ u = .tuple #[] ∧ SI g ⟨S.rows ++ [x], S.head, S.hor⟩ T' := by
  obtain ⟨ps, vf, vr, Mf, Mr, Tf, Tr, Sf, Sr, rfl, h1_, h2_, h3_⟩ := h
  obtain ⟨vk, Tk, Tq, hv1, hv2, hv3, hv4⟩ := h1_.get x.t.obr
  obtain ⟨wk, Uk, Uq, hw1, hw2, hw3, hw4⟩ := h2_.get x.t.sub
  have iof := h1_.ms.one
  have ior := h2_.ms.one
  have hps : ps.length ≤ 5000 := by rw [← h3_, List.length_map] at hl; exact hl
  have hl1 : (ids (fun x => x.t.obr) x.t.obr ps).length ≤ ps.length := by rw [ids, List.length_map]; exact List.length_filter_le _ _
  have hl2 : (ids (fun x => x.t.sub) x.t.sub ps).length ≤ ps.length := by rw [ids, List.length_map]; exact List.length_filter_le _ _
  refine Spec.permH (H' := [[(g, .cells [.bool true, .int .u64 S.head, .int .u64 S.hor, .int .i64 (ps.length : Nat), vf, vr].toArray 62 (0, 0))], Tf, Tk, Tq, Tr, Uk, Uq, rowSeg ps]) ?_ ?_
  · simp only [List.flatten_cons, List.flatten_nil, List.append_nil, List.cons_append, List.nil_append]
    refine .cons _ (.append_left _ ?_)
    rw [← List.append_assoc Tk]
    refine .append hv3 (.append_left _ ?_)
    rw [← List.append_assoc Uk]
    exact .append_right _ hw3
  refine Spec.body Tryz.func34 rfl Tryz.results34 Tryz.ntmps34 rfl ?_
  refine .seq (.region ?_)
  refine TriOps.boxA rfl (fun b3 => ?_)
  refine .nil (seqQ_n ?_)
  refine .seq (.region ?_)
  refine .q .assign ?_
  refine .nil (seqQ_n ?_)
  refine .seq (.region ?_)
  refine .q (.fieldAddr rfl) ?_
  refine .q (.loadT rfl) ?_
  refine TriOps.callR (of_spec x.t _) (fun u hu => ?_)
  subst hu
  refine TriOps.allocA (fun b5 => ?_)
  refine TriOps.storeA rfl rfl ?_
  refine .nil (seqQ_n ?_)
  refine .seq ?_
  refine .region_all [7, 9, 11] mixed ?_
  refine .takeO 0 rfl .move (by kernel_rfl) ?_
  refine .takeO 1 rfl (.nilCheck rfl) (by kernel_rfl) ?_
  refine .takeO 2 rfl (.fieldAddr rfl) (by kernel_rfl) ?_
  refine .takeO 3 rfl (.load1 rfl) (by kernel_rfl) ?_
  refine .takeO 4 rfl (.loadA rfl) (by kernel_rfl) ?_
  refine .takeO 5 rfl .move (by kernel_rfl) ?_
  refine RA.step 6 rfl (by kernel_rfl) rfl ?_
  refine TriOps.buildSlice11 (fun b16 => ?_)
  refine .nil (Next.sub ?_)
  refine RA.step 7 rfl (by kernel_rfl) rfl ?_
  refine TriOps.mapEntry (key := x.t.obr) (u0 := (Value.slice none 0 0, [])) h1_.ms rfl rfl rfl (fun Tf2 s1 hE1 => ?_)
  rw [hv1]
  refine .nil (Next.mod rfl ?_)
  refine .take 8 rfl .extract (by kernel_rfl) ?_
  refine .take 10 rfl .extract (by kernel_rfl) ?_
  refine RA.step 9 rfl (by kernel_rfl) rfl ?_
  refine TriOps.append hv2 (RS.lits (xs := [b3]) rfl (by simp [encPt]) (by simp [encPt, oneCell])) (by simp; omega) (fun v5 T5 hO5 => ?_)
  refine .nil (Next.mod rfl ?_)
  refine RA.step 11 rfl (by kernel_rfl) rfl ?_
  refine TriOps.entryStore (u := (v5, T5)) hE1 rfl rfl rfl (fun Tf3 hM3 => ?_)
  refine .nil (Next.mod rfl ?_)
  refine RA.nil (by kernel_rfl) ?_
  refine seqQ_n ?_
  refine .seq ?_
  refine .region_all [9, 11, 13] mixed ?_
  refine .takeO 0 rfl .move (by kernel_rfl) ?_
  refine .takeO 1 rfl (.nilCheck rfl) (by kernel_rfl) ?_
  refine .takeO 2 rfl (.fieldAddr rfl) (by kernel_rfl) ?_
  refine .takeO 3 rfl (.load1 rfl) (by kernel_rfl) ?_
  refine .takeO 4 rfl (.fieldAddr rfl) (by kernel_rfl) ?_
  refine .takeO 5 rfl (.fieldAddr rfl) (by kernel_rfl) ?_
  refine .takeO 6 rfl (.loadT rfl) (by kernel_rfl) ?_
  refine .takeO 7 rfl .move (by kernel_rfl) ?_
  refine RA.step 8 rfl (by kernel_rfl) rfl ?_
  refine TriOps.buildSlice11 (fun b29 => ?_)
  refine .nil (Next.sub ?_)
  refine RA.step 9 rfl (by kernel_rfl) rfl ?_
  refine TriOps.mapEntry (key := x.t.sub) (u0 := (Value.slice none 0 0, [])) h2_.ms rfl rfl rfl (fun Tr2 s2 hE2 => ?_)
  rw [hw1]
  refine .nil (Next.mod rfl ?_)
  refine .take 10 rfl .extract (by kernel_rfl) ?_
  refine .take 12 rfl .extract (by kernel_rfl) ?_
  refine RA.step 11 rfl (by kernel_rfl) rfl ?_
  refine TriOps.append hw2 (RS.lits (xs := [b3]) rfl (by simp [encPt]) (by simp [encPt, oneCell])) (by simp; omega) (fun w5 U5 hU5 => ?_)
  refine .nil (Next.mod rfl ?_)
  refine RA.step 13 rfl (by kernel_rfl) rfl ?_
  refine TriOps.entryStore (u := (w5, U5)) hE2 rfl rfl rfl (fun Tr3 hM4 => ?_)
  refine .nil (Next.mod rfl ?_)
  refine RA.nil (by kernel_rfl) ?_
  refine seqQ_n ?_
  refine .region ?_
  refine .q .move ?_
  refine .q (.nilCheck rfl) ?_
  refine .q (.fieldAddr rfl) ?_
  refine .q (.load1 rfl) ?_
  refine .q (.i64 ((ps.length + 1 : Nat) : Int) .add ⟨by omega, by omega, by omega⟩) ?_
  refine .q (.nilCheck rfl) ?_
  refine .q (.fieldAddr rfl) ?_
  refine TriOps.store1 rfl rfl ?_
  refine .nil ?_
  refine retQ_n _ .none ((HLe.pick [4, 4, 4, 4, 4, 4, 4, 4, 3] _).trans (HLe.ofPerm (H' := [(g, .cells [.bool true, .int .u64 S.head, .int .u64 S.hor, .int .i64 ((ps ++ [(b3, x)]).length : Nat), vf, vr].toArray 62 (0, 0)) :: (Tf3 ++ ((T5 ++ Tq) ++ (Tr3 ++ ((U5 ++ Uq) ++ rowSeg (ps ++ [(b3, x)])))))]) (by simp [take, dropAt, setL, rowSeg, rowObj]))) ?_
  · exact ⟨_, rfl, rfl, ps ++ [(b3, x)], vf, vr, _, _, _, _, _, _, rfl, h1_.add hM3 hO5 (hv4 _ _).symm, h2_.add hM4 hU5 (hw4 _ _).symm, by simp [h3_]⟩
end Go.Proofs.YtconfddhmnipjaaGreat
set_option linter.unusedVariables false
set_option maxRecDepth 4000
namespace Go.Proofs.YtconfddhmnipjaaGreat
namespace LTP
theorem clone_spec (v : Value) (xs : List Tpl) (R : Rds) (h : RS R 7 Tpl.enc v xs) (hl : xs.length ≤ 1000000) :
    Spec Tryz.prog 27 [v] R [] fun v' H' => ∃ T, H' = [T] ∧ OS 70 7 Tpl.enc v' xs T := by
  obtain ⟨pr, cap, rfl⟩ := h.val
  have hx : ∀ H, RS (Rx R H) 7 Tpl.enc (.slice pr xs.length cap) xs := fun H => h.rx
  refine Spec.segs (H' := [[]]) (by simp) ?_
  refine Spec.body Tryz.func27 rfl Tryz.results27 Tryz.ntmps27 rfl ?_
  refine .seq (.region ?_)
  refine .q .assign ?_
  refine .nil (seqQ_n ?_)
  refine .seq ?_
  refine .seq (.region ?_)
  refine .q .move ?_
  refine .q (.eqNilS rfl rfl) ?_
  refine .nil (seqQ_n ?_)
  refine .cond rfl (fun h1 => ?_) (fun h1 => ?_)
  refine .seq (.region ?_)
  refine .q .assign ?_
  refine .nil (seqQ_n ?_)
  refine .ret (seqQ_r (retQ_r _ (.one (.tmp rfl)) (.one [0] _) ?_))
  · obtain rfl : pr = none := by simpa using h1
    have := h.none_nil
    subst this
    exact ⟨[], rfl, OS.nil⟩
  refine .skip ?_
  refine seqQ_n ?_
  refine .seq (.region ?_)
  refine TriOps.buildSlice0 (fun b5 => ?_)
  refine .q .move ?_
  refine TriOps.append (OS.empty (enc := Tpl.enc) (sz := 7)) (hx _) (by simp; omega) (fun v' T' h3 => ?_)
  refine .q .assign ?_
  refine .nil (seqQ_n ?_)
  refine .ret (retQ_r _ (.one (.tmp rfl)) (.one [0] _) ?_)
  · exact ⟨T', by simp [take], by simpa using h3⟩
theorem indexF_spec (f : FuncId) (caps : List Value) [e : Ent Tryz.prog f] (p : Tpl → Bool) (v : Value) (l : List Tpl) (R : Rds) (h : RS R 7 Tpl.enc v l) (hf : ∀ s ∈ l, ∀ R', (∀ b o, R b o → R' b o) → Spec Tryz.prog f ((fun t : Tpl => Value.agg t.enc.toArray) s :: caps) R' [] fun u H' => u = .bool (p s) ∧ H' = []) :
    Spec Tryz.prog 89 [v, .func (.func f) #[] caps.toArray] R [] fun u H' => (∃ k : Int, u = .int .i64 k ∧ ((∃ (i : Nat) (x : Tpl), l[i]? = some x ∧ p x = true ∧ (∀ j y, j < i → l[j]? = some y → p y = false) ∧ k = i) ∨ ((∀ y ∈ l, p y = false) ∧ k = -1))) ∧ H' = [] := by
  have hle := h.le
  refine Spec.body Tryz.func89 rfl Tryz.results89 Tryz.ntmps89 rfl ?_
  refine .seq (.region ?_)
  refine .q .assign ?_
  refine .nil (seqQ_n ?_)
  refine .seq ?_
  refine .seq (.region ?_)
  refine .q .move ?_
  refine .q (.lenR h) ?_
  refine .q .move ?_
  refine .nil (seqQ_n ?_)
  refine .block ?_
  refine .loop (X := Nat) (fun i => i ≤ l.length ∧ ∀ j z, j < i → l[j]? = some z → p z = false) (fun i => [(0, v), (1, .func (.func f) #[] caps.toArray), (7, .int .i64 l.length), (8, .int .i64 (i : Nat))]) (fun _ => []) (fun i => l.length - i) 0 ⟨by omega, by omega⟩ (((((EnvLe.nil _).cons rfl).cons rfl).cons rfl).cons rfl) (HLe.refl _) ?_
  rintro i ⟨hi, hn⟩
  refine .seq (.region ?_)
  refine .q .lss ?_
  refine .nil (seqQ_n ?_)
  refine .seq ?_
  refine .cond rfl (fun h1 => ?_) (fun h1 => ?_)
  have hlt : i < l.length := by simp at h1; omega
  obtain ⟨z, hz⟩ : ∃ z, l[i]? = some z := ⟨_, List.getElem?_eq_getElem hlt⟩
  have hzm := List.mem_of_getElem? hz
  have hzo := (⟨h.one z hzm⟩ : Ones (Tpl.enc z))
  refine .skip ?_
  refine seqQ_n ?_
  refine .seq ?_
  refine .block ?_
  refine .seq (.region ?_)
  refine .q .move ?_
  refine .q .assign ?_
  refine .nil (seqQ_n ?_)
  refine .seq (.region ?_)
  refine .q .move ?_
  refine .q .move ?_
  refine .q .move ?_
  refine TriOps.indexR i h hz (fun pz => ?_)
  refine .q (.loadA rfl) ?_
  refine TriOps.callRV (first := []) (captured := caps) (vs := [(fun t : Tpl => Value.agg t.enc.toArray) z]) (hf z hzm _ fun b o hb => .inl hb) (fun u hu => ?_)
  subst hu
  refine .nil (seqQ_n ?_)
  refine .cond rfl (fun h2 => ?_) (fun h2 => ?_)
  refine .seq (.region ?_)
  refine .q .move ?_
  refine .q .assign ?_
  refine .nil (seqQ_n ?_)
  refine .ret (blkQ_r (seqQ_r (loopQ_r (blkQ_r (seqQ_r (retQ_r _ (.one (.tmp rfl)) (.none _) ?_))))))
  · exact ⟨⟨_, rfl, .inl ⟨i, z, hz, h2, hn, rfl⟩⟩, rfl⟩
  refine .skip ?_
  refine blkQ_n (seqQ_n ?_)
  refine .region ?_
  refine .q (.inc (n := i) (by omega)) ?_
  refine .q .move ?_
  refine .nil ?_
  · exact loopQ_i (i + 1) ⟨by omega, fun j y hj hy => by
      rcases Nat.lt_or_ge j i with hh | hh
      · exact hn j y hh hy
      · obtain rfl : j = i := by omega
        rw [hz] at hy; cases hy; exact h2⟩ (by omega) (((((EnvLe.nil _).cons rfl).cons rfl).cons rfl).cons rfl) (HLe.refl _)
  refine .exit (seqQ_x (loopQ_x (blkQ_x ?_)))
  refine seqQ_n ?_
  refine .seq (.region ?_)
  refine .q .assign ?_
  refine .nil (seqQ_n ?_)
  refine .ret (retQ_r _ (.one (.tmp rfl)) (.none _) ?_)
  · have he : i = l.length := by simp at h1; omega
    subst he
    refine ⟨⟨_, rfl, .inr ⟨fun y hy => ?_, rfl⟩⟩, rfl⟩
    obtain ⟨j, hj, rfl⟩ := List.mem_iff_getElem.1 hy
    exact hn j _ hj (List.getElem?_eq_getElem hj)
theorem containsF_spec (f : FuncId) (caps : List Value) [e : Ent Tryz.prog f] (p : Tpl → Bool) (v : Value) (l : List Tpl) (R : Rds) (h : RS R 7 Tpl.enc v l) (hf : ∀ s ∈ l, ∀ R', (∀ b o, R b o → R' b o) → Spec Tryz.prog f ((fun t : Tpl => Value.agg t.enc.toArray) s :: caps) R' [] fun u H' => u = .bool (p s) ∧ H' = []) :
    Spec Tryz.prog 54 [v, .func (.func f) #[] caps.toArray] R [] fun u H' => u = .bool (l.any p) ∧ H' = [] := by
  refine Spec.body Tryz.func54 rfl Tryz.results54 Tryz.ntmps54 rfl ?_
  refine .seq (.region ?_)
  refine .q .assign ?_
  refine .nil (seqQ_n ?_)
  refine .seq (.region ?_)
  refine .q .move ?_
  refine .q .move ?_
  refine TriOps.callR (indexF_spec f caps p v l _ h.rx fun s hs R' hR => hf s hs R' fun b o hb => hR b o (.inl hb)) (fun u hu => ?_)
  obtain ⟨k, rfl, hk⟩ := hu
  have hkk : decide (0 ≤ k) = l.any p := by
    rcases hk with ⟨i, x, h1, h2, _, rfl⟩ | ⟨h1, rfl⟩
    · rw [List.any_eq_true.2 ⟨x, List.mem_of_getElem? h1, h2⟩]; simp
    · rw [List.any_eq_false.2 fun y hy => by rw [h1 y hy]; simp]; rfl
  refine .q .geq ?_
  refine .q .assign ?_
  refine .nil (seqQ_n ?_)
  refine .ret (retQ_r _ (.one (.tmp rfl)) (.none _) ?_)
  · exact ⟨by simp only [hkk], rfl⟩
end LTP
end Go.Proofs.YtconfddhmnipjaaGreat
set_option linter.unusedVariables false
set_option maxRecDepth 4000
namespace Go.Proofs.YtconfddhmnipjaaGreat
namespace LCH
theorem indexF_spec (f : FuncId) (caps : List Value) [e : Ent Tryz.prog f] (p : Chg → Bool) (v : Value) (l : List Chg) (R : Rds) (h : RS R 8 Chg.enc v l) (hf : ∀ s ∈ l, ∀ R', (∀ b o, R b o → R' b o) → Spec Tryz.prog f ((fun t : Chg => Value.agg t.enc.toArray) s :: caps) R' [] fun u H' => u = .bool (p s) ∧ H' = []) :
    Spec Tryz.prog 91 [v, .func (.func f) #[] caps.toArray] R [] fun u H' => (∃ k : Int, u = .int .i64 k ∧ ((∃ (i : Nat) (x : Chg), l[i]? = some x ∧ p x = true ∧ (∀ j y, j < i → l[j]? = some y → p y = false) ∧ k = i) ∨ ((∀ y ∈ l, p y = false) ∧ k = -1))) ∧ H' = [] := by
  have hle := h.le
  refine Spec.body Tryz.func91 rfl Tryz.results91 Tryz.ntmps91 rfl ?_
  refine .seq (.region ?_)
  refine .q .assign ?_
  refine .nil (seqQ_n ?_)
  refine .seq ?_
  refine .seq (.region ?_)
  refine .q .move ?_
  refine .q (.lenR h) ?_
  refine .q .move ?_
  refine .nil (seqQ_n ?_)
  refine .block ?_
  refine .loop (X := Nat) (fun i => i ≤ l.length ∧ ∀ j z, j < i → l[j]? = some z → p z = false) (fun i => [(0, v), (1, .func (.func f) #[] caps.toArray), (7, .int .i64 l.length), (8, .int .i64 (i : Nat))]) (fun _ => []) (fun i => l.length - i) 0 ⟨by omega, by omega⟩ (((((EnvLe.nil _).cons rfl).cons rfl).cons rfl).cons rfl) (HLe.refl _) ?_
  rintro i ⟨hi, hn⟩
  refine .seq (.region ?_)
  refine .q .lss ?_
  refine .nil (seqQ_n ?_)
  refine .seq ?_
  refine .cond rfl (fun h1 => ?_) (fun h1 => ?_)
  have hlt : i < l.length := by simp at h1; omega
  obtain ⟨z, hz⟩ : ∃ z, l[i]? = some z := ⟨_, List.getElem?_eq_getElem hlt⟩
  have hzm := List.mem_of_getElem? hz
  have hzo := (⟨h.one z hzm⟩ : Ones (Chg.enc z))
  refine .skip ?_
  refine seqQ_n ?_
  refine .seq ?_
  refine .block ?_
  refine .seq (.region ?_)
  refine .q .move ?_
  refine .q .assign ?_
  refine .nil (seqQ_n ?_)
  refine .seq (.region ?_)
  refine .q .move ?_
  refine .q .move ?_
  refine .q .move ?_
  refine TriOps.indexR i h hz (fun pz => ?_)
  refine .q (.loadA rfl) ?_
  refine TriOps.callRV (first := []) (captured := caps) (vs := [(fun t : Chg => Value.agg t.enc.toArray) z]) (hf z hzm _ fun b o hb => .inl hb) (fun u hu => ?_)
  subst hu
  refine .nil (seqQ_n ?_)
  refine .cond rfl (fun h2 => ?_) (fun h2 => ?_)
  refine .seq (.region ?_)
  refine .q .move ?_
  refine .q .assign ?_
  refine .nil (seqQ_n ?_)
  refine .ret (blkQ_r (seqQ_r (loopQ_r (blkQ_r (seqQ_r (retQ_r _ (.one (.tmp rfl)) (.none _) ?_))))))
  · exact ⟨⟨_, rfl, .inl ⟨i, z, hz, h2, hn, rfl⟩⟩, rfl⟩
  refine .skip ?_
  refine blkQ_n (seqQ_n ?_)
  refine .region ?_
  refine .q (.inc (n := i) (by omega)) ?_
  refine .q .move ?_
  refine .nil ?_
  · exact loopQ_i (i + 1) ⟨by omega, fun j y hj hy => by
      rcases Nat.lt_or_ge j i with hh | hh
      · exact hn j y hh hy
      · obtain rfl : j = i := by omega
        rw [hz] at hy; cases hy; exact h2⟩ (by omega) (((((EnvLe.nil _).cons rfl).cons rfl).cons rfl).cons rfl) (HLe.refl _)
  refine .exit (seqQ_x (loopQ_x (blkQ_x ?_)))
  refine seqQ_n ?_
  refine .seq (.region ?_)
  refine .q .assign ?_
  refine .nil (seqQ_n ?_)
  refine .ret (retQ_r _ (.one (.tmp rfl)) (.none _) ?_)
  · have he : i = l.length := by simp at h1; omega
    subst he
    refine ⟨⟨_, rfl, .inr ⟨fun y hy => ?_, rfl⟩⟩, rfl⟩
    obtain ⟨j, hj, rfl⟩ := List.mem_iff_getElem.1 hy
    exact hn j _ hj (List.getElem?_eq_getElem hj)
theorem containsF_spec (f : FuncId) (caps : List Value) [e : Ent Tryz.prog f] (p : Chg → Bool) (v : Value) (l : List Chg) (R : Rds) (h : RS R 8 Chg.enc v l) (hf : ∀ s ∈ l, ∀ R', (∀ b o, R b o → R' b o) → Spec Tryz.prog f ((fun t : Chg => Value.agg t.enc.toArray) s :: caps) R' [] fun u H' => u = .bool (p s) ∧ H' = []) :
    Spec Tryz.prog 58 [v, .func (.func f) #[] caps.toArray] R [] fun u H' => u = .bool (l.any p) ∧ H' = [] := by
  refine Spec.body Tryz.func58 rfl Tryz.results58 Tryz.ntmps58 rfl ?_
  refine .seq (.region ?_)
  refine .q .assign ?_
  refine .nil (seqQ_n ?_)
  refine .seq (.region ?_)
  refine .q .move ?_
  refine .q .move ?_
  refine TriOps.callR (indexF_spec f caps p v l _ h.rx fun s hs R' hR => hf s hs R' fun b o hb => hR b o (.inl hb)) (fun u hu => ?_)
  obtain ⟨k, rfl, hk⟩ := hu
  have hkk : decide (0 ≤ k) = l.any p := by
    rcases hk with ⟨i, x, h1, h2, _, rfl⟩ | ⟨h1, rfl⟩
    · rw [List.any_eq_true.2 ⟨x, List.mem_of_getElem? h1, h2⟩]; simp
    · rw [List.any_eq_false.2 fun y hy => by rw [h1 y hy]; simp]; rfl
  refine .q .geq ?_
  refine .q .assign ?_
  refine .nil (seqQ_n ?_)
  refine .ret (retQ_r _ (.one (.tmp rfl)) (.none _) ?_)
  · exact ⟨by simp only [hkk], rfl⟩
end LCH
end Go.Proofs.YtconfddhmnipjaaGreat
set_option linter.unusedVariables false
set_option linter.unusedSimpArgs false
set_option maxRecDepth 4000
namespace Go.Proofs.YtconfddhmnipjaaGreat
def tupMap (M : List (Tpl × Bool)) (l : List Tpl) : Prop := ∀ k, mget k M = if k ∈ l then some true else none
theorem tupMap.add {M : List (Tpl × Bool)} {l : List Tpl} (h : tupMap M l) (t : Tpl) : tupMap (mset t true M) (l ++ [t]) := fun k => by
  rw [mget_mset, h k]
  by_cases h1 : k = t <;> by_cases h2 : k ∈ l <;> simp [h1, h2]
theorem nodup_snoc {l : List Tpl} {a : Tpl} : (!decide (l ++ [a]).Nodup) = ((!decide l.Nodup) || decide (a ∈ l)) := by
  have h : (l ++ [a]).Nodup ↔ l.Nodup ∧ a ∉ l := by
    rw [List.nodup_append]
    constructor
    · rintro ⟨h1, _, h3⟩
      exact ⟨h1, fun h => h3 a h a (by simp) rfl⟩
    · rintro ⟨h1, h2⟩
      refine ⟨h1, by simp, fun x hx y hy => ?_⟩
      simp only [List.mem_singleton] at hy
      subst hy
      exact fun e => h2 (e ▸ hx)
  by_cases h1 : l.Nodup <;> by_cases h2 : a ∈ l <;> simp [h, h1, h2]
theorem scheck_len {must no : List Tpl} {cs : List Chg} (h : 32 < cs.length ∨ cs.length = 0 ∨ 32 < must.length ∨ 32 < no.length) : scheck must no cs = 25 := by unfold scheck; rw [if_pos h]
theorem scheck_name {must no : List Tpl} {cs : List Chg} (h : ¬ (32 < cs.length ∨ cs.length = 0 ∨ 32 < must.length ∨ 32 < no.length)) (h2 : (must.any (fun t => !isTpl t) || no.any (fun t => !isTpl t) || cs.any (fun c => !isTpl c.t)) = true) : scheck must no cs = 9 := by unfold scheck; rw [if_neg h, if_pos h2]
theorem scheck_end {must no : List Tpl} {cs : List Chg} (h : ¬ (32 < cs.length ∨ cs.length = 0 ∨ 32 < must.length ∨ 32 < no.length)) (h2 : must.any (fun t => !isTpl t) = false) (h3 : no.any (fun t => !isTpl t) = false) (h4 : ∀ c ∈ cs, isTpl c.t = true) (b : Bool) (hb : b = !decide (cs.map (·.t)).Nodup) : scheck must no cs = if b then 2 else 0 := by
  have h5 : cs.any (fun c => !isTpl c.t) = false := by
    rw [List.any_eq_false]
    intro c hc
    rw [h4 c hc]; simp
  unfold scheck
  rw [if_neg h, h2, h3, h5, if_neg (by simp), hb]
  by_cases h6 : (cs.map (·.t)).Nodup <;> simp [h6]
theorem check_spec (vm vn vc : Value) (must no : List Tpl) (cs : List Chg) (R : Rds) (hM : RS R 7 Tpl.enc vm must) (hN : RS R 7 Tpl.enc vn no) (hC : RS R 8 Chg.enc vc cs) (fm : ∀ t ∈ must, t.fits) (fn : ∀ t ∈ no, t.fits) (fc : ∀ c ∈ cs, c.t.fits) :
    Spec Tryz.prog 32 [vm, vn, vc] R [] fun u H' => u = .int .i64 (scheck must no cs) ∧ H' = [] := by
  have lm := hM.le
  have ln := hN.le
  have lc := hC.le
  obtain ⟨pm, km, rfl⟩ := hM.val
  obtain ⟨pn, kn, rfl⟩ := hN.val
  obtain ⟨pc, kc, rfl⟩ := hC.val
  refine Spec.body Tryz.func32 rfl Tryz.results32 Tryz.ntmps32 rfl ?_
  refine .seq (.region ?_)
  refine .q .assign ?_
  refine .nil (seqQ_n ?_)
  refine .seq ?_
  refine .seq (.region ?_)
  refine .q .move ?_
  refine .q (.lenR hC) ?_
  refine .q .gtr ?_
  refine .q .move ?_
  refine TriOps.split (t := 14) rfl (fun g1_3 => ?_) (fun g1_3 => ?_)
  refine TriOps.gF g1_3 ?_
  refine TriOps.gF g1_3 ?_
  refine TriOps.gF g1_3 ?_
  refine .q (.pickTh g1_3) ?_
  refine .q .move ?_
  refine TriOps.gf rfl rfl ?_
  refine TriOps.gf rfl rfl ?_
  refine TriOps.gf rfl rfl ?_
  refine .q .pickT ?_
  refine .q .move ?_
  refine TriOps.gf rfl rfl ?_
  refine TriOps.gf rfl rfl ?_
  refine TriOps.gf rfl rfl ?_
  refine .q .pickT ?_
  refine .nil (seqQ_n ?_)
  refine .condT ?_
  refine .seq (.region ?_)
  refine .q .assign ?_
  refine .nil (seqQ_n ?_)
  refine .ret (seqQ_r (retQ_r _ (.one (.tmp rfl)) (.none _) ?_))
  · exact ⟨by rw [scheck_len (.inl (by have := of_decide_eq_true g1_3; omega))], rfl⟩
  refine TriOps.gT g1_3 ?_
  refine .q .move ?_
  refine TriOps.gT g1_3 ?_
  refine .q (.lenR hC) ?_
  refine TriOps.gT g1_3 ?_
  refine .q .eqI ?_
  refine .q (.pickFh g1_3) ?_
  refine .q .move ?_
  refine TriOps.split (t := 19) rfl (fun g1_8 => ?_) (fun g1_8 => ?_)
  refine TriOps.gF g1_8 ?_
  refine TriOps.gF g1_8 ?_
  refine TriOps.gF g1_8 ?_
  refine .q (.pickTh g1_8) ?_
  refine .q .move ?_
  refine TriOps.gf rfl rfl ?_
  refine TriOps.gf rfl rfl ?_
  refine TriOps.gf rfl rfl ?_
  refine .q .pickT ?_
  refine .nil (seqQ_n ?_)
  refine .condT ?_
  refine .seq (.region ?_)
  refine .q .assign ?_
  refine .nil (seqQ_n ?_)
  refine .ret (seqQ_r (retQ_r _ (.one (.tmp rfl)) (.none _) ?_))
  · exact ⟨by rw [scheck_len (.inr (.inl (by have := eq_of_beq g1_8; omega)))], rfl⟩
  refine TriOps.gT g1_8 ?_
  refine .q .move ?_
  refine TriOps.gT g1_8 ?_
  refine .q (.lenR hM) ?_
  refine TriOps.gT g1_8 ?_
  refine .q .gtr ?_
  refine .q (.pickFh g1_8) ?_
  refine .q .move ?_
  refine TriOps.split (t := 24) rfl (fun g1_13 => ?_) (fun g1_13 => ?_)
  refine TriOps.gF g1_13 ?_
  refine TriOps.gF g1_13 ?_
  refine TriOps.gF g1_13 ?_
  refine .q (.pickTh g1_13) ?_
  refine .nil (seqQ_n ?_)
  refine .condT ?_
  refine .seq (.region ?_)
  refine .q .assign ?_
  refine .nil (seqQ_n ?_)
  refine .ret (seqQ_r (retQ_r _ (.one (.tmp rfl)) (.none _) ?_))
  · exact ⟨by rw [scheck_len (.inr (.inr (.inl (by have := of_decide_eq_true g1_13; omega))))], rfl⟩
  refine TriOps.gT g1_13 ?_
  refine .q .move ?_
  refine TriOps.gT g1_13 ?_
  refine .q (.lenR hN) ?_
  refine TriOps.gT g1_13 ?_
  refine .q .gtr ?_
  refine .q (.pickFh g1_13) ?_
  refine .nil (seqQ_n ?_)
  refine .cond rfl (fun h1 => ?_) (fun h1 => ?_)
  refine .seq (.region ?_)
  refine .q .assign ?_
  refine .nil (seqQ_n ?_)
  refine .ret (seqQ_r (retQ_r _ (.one (.tmp rfl)) (.none _) ?_))
  · exact ⟨by rw [scheck_len (.inr (.inr (.inr (by have := of_decide_eq_true h1; omega))))], rfl⟩
  have hL : ¬ (32 < cs.length ∨ cs.length = 0 ∨ 32 < must.length ∨ 32 < no.length) := by simp_all; try omega
  refine .skip ?_
  refine seqQ_n ?_
  refine .seq ?_
  refine .seq (.region ?_)
  refine .q .move ?_
  refine TriOps.callR (LTP.containsF_spec 55 [] (fun t => !isTpl t) _ must _ hM.rx fun t ht R' hR => odd_spec t (fm t ht) R') (fun u hu => ?_)
  subst hu
  refine .q .move ?_
  refine TriOps.split (t := 31) rfl (fun g3_2 => ?_) (fun g3_2 => ?_)
  refine TriOps.gF g3_2 ?_
  refine TriOps.gF g3_2 ?_
  refine .q (.pickTh g3_2) ?_
  refine .nil (seqQ_n ?_)
  refine .condT ?_
  refine .seq (.region ?_)
  refine .q .assign ?_
  refine .nil (seqQ_n ?_)
  refine .ret (seqQ_r (retQ_r _ (.one (.tmp rfl)) (.none _) ?_))
  · exact ⟨by rw [scheck_name hL (by rw [g3_2]; rfl)], rfl⟩
  refine TriOps.gT g3_2 ?_
  refine .q .move ?_
  refine TriOps.gT g3_2 ?_
  refine TriOps.callR (LTP.containsF_spec 55 [] (fun t => !isTpl t) _ no _ hN.rx fun t ht R' hR => odd_spec t (fn t ht) R') (fun u hu => ?_)
  subst hu
  refine .q (.pickFh g3_2) ?_
  refine .nil (seqQ_n ?_)
  refine .cond rfl (fun h2 => ?_) (fun h2 => ?_)
  refine .seq (.region ?_)
  refine .q .assign ?_
  refine .nil (seqQ_n ?_)
  refine .ret (seqQ_r (retQ_r _ (.one (.tmp rfl)) (.none _) ?_))
  · exact ⟨by rw [scheck_name hL (by rw [h2, Bool.or_true, Bool.true_or])], rfl⟩
  refine .skip ?_
  refine seqQ_n ?_
  refine .seq (.region ?_)
  refine TriOps.makeMap (fun b35 => ?_)
  refine .q .assign ?_
  refine .nil (seqQ_n ?_)
  refine .seq (.region ?_)
  refine .q .assign ?_
  refine .nil (seqQ_n ?_)
  refine .seq ?_
  refine .seq (.region ?_)
  refine .q .move ?_
  refine .q (.lenR hC) ?_
  refine .q .move ?_
  refine .nil (seqQ_n ?_)
  refine .block ?_
  refine .loop (X := Nat × Bool × List (Tpl × Bool) × Seg) (fun y => (y.1 ≤ cs.length ∧ ∀ c ∈ cs.take y.1, isTpl c.t = true) ∧ y.2.1 = !decide ((cs.take y.1).map (·.t)).Nodup ∧ tupMap y.2.2.1 ((cs.take y.1).map (·.t)) ∧ MS (fun k : Tpl => .agg k.enc.toArray) (fun b : Bool => .bool b) (.map (some b35)) y.2.2.1 y.2.2.2) (fun y => [(7, .map (some b35)), (8, .bool y.2.1), (36, .slice pc cs.length kc), (37, .int .i64 (cs.length : Nat)), (38, .int .i64 (y.1 : Nat))]) (fun y => [y.2.2.2]) (fun y => cs.length - y.1) (0, false, [], [(b35, .map #[] 0)]) ⟨⟨Nat.zero_le _, by simp⟩, by simp, fun k => by simp [mget], MS.nil⟩ ((((((EnvLe.nil _).cons rfl).cons rfl).cons rfl).cons rfl).cons rfl) (HLe.refl _) ?_
  rintro ⟨i, tw, M, Tm⟩ ⟨⟨hi, hr⟩, htw, hM2, hMS⟩
  simp only at hi hr htw hM2 hMS ⊢
  refine .seq (.region ?_)
  refine .q .lss ?_
  refine .nil (seqQ_n ?_)
  refine .seq ?_
  refine .cond rfl (fun h3 => ?_) (fun h3 => ?_)
  have hlt : i < cs.length := by have := of_decide_eq_true h3; omega
  obtain ⟨c, hc⟩ : ∃ c, cs[i]? = some c := ⟨_, List.getElem?_eq_getElem hlt⟩
  have hcm := List.mem_of_getElem? hc
  have htk : cs.take (i + 1) = cs.take i ++ [c] := by rw [List.take_add_one, hc]; rfl
  refine .skip ?_
  refine seqQ_n ?_
  refine .seq ?_
  refine .block ?_
  refine .seq (.region ?_)
  refine TriOps.indexR i hC hc (fun p40 => ?_)
  refine .q (.loadA rfl) ?_
  refine TriOps.allocA (fun b10 => ?_)
  refine TriOps.storeA rfl rfl ?_
  refine .nil (seqQ_n ?_)
  refine .seq ?_
  refine .seq (.region ?_)
  refine .q (.fieldAddr rfl) ?_
  refine .q (.loadT rfl) ?_
  refine TriOps.callR (odd_spec c.t (fc c hcm) _) (fun u hu => ?_)
  subst hu
  refine .nil (seqQ_n ?_)
  refine .cond rfl (fun h4 => ?_) (fun h4 => ?_)
  refine .seq (.region ?_)
  refine .q .assign ?_
  refine .nil (seqQ_n ?_)
  refine .ret (seqQ_r (blkQ_r (seqQ_r (loopQ_r (blkQ_r (seqQ_r (retQ_r _ (.one (.tmp rfl)) (.none _) ?_)))))))
  · exact ⟨by rw [scheck_name hL (by rw [List.any_eq_true.2 ⟨c, hcm, h4⟩, Bool.or_true])], rfl⟩
  refine .skip ?_
  refine seqQ_n ?_
  refine .seq (.region ?_)
  refine .q .move ?_
  refine .q .move ?_
  refine TriOps.split (t := 46) rfl (fun g12_1 => ?_) (fun g12_1 => ?_)
  refine TriOps.gF g12_1 ?_
  refine TriOps.gF g12_1 ?_
  refine TriOps.gF g12_1 ?_
  refine TriOps.gF g12_1 ?_
  refine .q (.pickTh g12_1) ?_
  refine .q .assign ?_
  refine .nil (seqQ_n ?_)
  refine .region ?_
  refine .q .move ?_
  refine .q (.fieldAddr rfl) ?_
  refine .q (.loadT rfl) ?_
  refine TriOps.update (key := c.t) (u := true) hMS rfl rfl rfl (fun Tm2 hMS2 _ => ?_)
  refine .nil ?_
  refine blkQ_n (seqQ_n ?_)
  refine .region ?_
  refine .q (.i64 ((i + 1 : Nat) : Int) .add ⟨by omega, by omega, by omega⟩) ?_
  refine .q .move ?_
  refine .nil ?_
  · exact loopQ_i (i + 1, _, mset c.t true M, Tm2) ⟨⟨hlt, fun d hd => by
      rw [htk] at hd
      rcases List.mem_append.1 hd with hd | hd
      · exact hr d hd
      · simp only [List.mem_singleton] at hd
        subst hd; simpa using h4⟩, by
      simp only
      rw [htk, List.map_append, List.map_cons, List.map_nil, nodup_snoc, ← htw]
      first
        | (rw [g12_1]; rfl)
        | (rw [g12_1, Bool.false_or]), by simp only; rw [htk, List.map_append]; exact hM2.add c.t, hMS2⟩ (by simp only; omega) ((((((EnvLe.nil _).cons rfl).cons rfl).cons rfl).cons rfl).cons rfl) (by first | exact HLe.pick [1] _ | exact HLe.refl _)
  refine TriOps.gT g12_1 ?_
  refine .q .move ?_
  refine TriOps.gT g12_1 ?_
  refine .q (.fieldAddr rfl) ?_
  refine TriOps.gT g12_1 ?_
  refine .q (.loadT rfl) ?_
  refine TriOps.gT g12_1 ?_
  refine .q (.lookupE hMS.rx rfl (key := c.t) rfl (show _ = Value.bool (decide (c.t ∈ (cs.take i).map (·.t))) from by rw [hM2 c.t]; split <;> simp_all)) ?_
  refine .q (.pickFh g12_1) ?_
  refine .q .assign ?_
  refine .nil (seqQ_n ?_)
  refine .region ?_
  refine .q .move ?_
  refine .q (.fieldAddr rfl) ?_
  refine .q (.loadT rfl) ?_
  refine TriOps.update (key := c.t) (u := true) hMS rfl rfl rfl (fun Tm2 hMS2 _ => ?_)
  refine .nil ?_
  refine blkQ_n (seqQ_n ?_)
  refine .region ?_
  refine .q (.i64 ((i + 1 : Nat) : Int) .add ⟨by omega, by omega, by omega⟩) ?_
  refine .q .move ?_
  refine .nil ?_
  · exact loopQ_i (i + 1, _, mset c.t true M, Tm2) ⟨⟨hlt, fun d hd => by
      rw [htk] at hd
      rcases List.mem_append.1 hd with hd | hd
      · exact hr d hd
      · simp only [List.mem_singleton] at hd
        subst hd; simpa using h4⟩, by
      simp only
      rw [htk, List.map_append, List.map_cons, List.map_nil, nodup_snoc, ← htw]
      first
        | (rw [g12_1]; rfl)
        | (rw [g12_1, Bool.false_or]), by simp only; rw [htk, List.map_append]; exact hM2.add c.t, hMS2⟩ (by simp only; omega) ((((((EnvLe.nil _).cons rfl).cons rfl).cons rfl).cons rfl).cons rfl) (by first | exact HLe.pick [1] _ | exact HLe.refl _)
  refine .exit (seqQ_x (loopQ_x (blkQ_x ?_)))
  refine seqQ_n ?_
  refine .seq ?_
  refine .seq (.region ?_)
  refine .q .move ?_
  refine .nil (seqQ_n ?_)
  refine .cond rfl (fun h5 => ?_) (fun h5 => ?_)
  refine .seq (.region ?_)
  refine .q .assign ?_
  refine .nil (seqQ_n ?_)
  refine .ret (seqQ_r (retQ_r _ (.one (.tmp rfl)) (.none _) ?_))
  · have hie : i = cs.length := by have := of_decide_eq_false h3; omega
    subst hie
    rw [List.take_length] at hr htw
    exact ⟨by rw [scheck_end hL g3_2 h2 hr tw htw, h5]; rfl, rfl⟩
  refine .skip ?_
  refine seqQ_n ?_
  refine .seq (.region ?_)
  refine .q .assign ?_
  refine .nil (seqQ_n ?_)
  refine .ret (retQ_r _ (.one (.tmp rfl)) (.none _) ?_)
  · have hie : i = cs.length := by have := of_decide_eq_false h3; omega
    subst hie
    rw [List.take_length] at hr htw
    exact ⟨by rw [scheck_end hL g3_2 h2 hr tw htw, h5]; rfl, rfl⟩
end Go.Proofs.YtconfddhmnipjaaGreat
set_option linter.unusedVariables false
set_option linter.unusedSimpArgs false
set_option maxRecDepth 4000
namespace Go.Proofs.YtconfddhmnipjaaGreat
section
variable {R : Rds} {g : Nat} {S : Sto} {ps : List RB} {vf vr : Value} {Mf : List (Obr × (Value × Seg))} {Mr : List (Sub × (Value × Seg))}
theorem there1_spec (h : SV R g S ps vf vr Mf Mr) (q : Nat) [pc : PC R (.pointer (some ⟨q, 0, none⟩)) [.pointer (some ⟨g, 0, none⟩)]] (t : Tpl) :
    Spec Tryz.prog 56 [.agg t.enc.toArray, .pointer (some ⟨q, 0, none⟩)] R [] fun v H' => v = .bool (sthere S.rows t) ∧ H' = [] := by
  refine Spec.body Tryz.func56 rfl Tryz.results56 Tryz.ntmps56 rfl ?_
  refine .seq (.region ?_)
  refine TriOps.boxA rfl (fun b2 => ?_)
  refine .q .assign ?_
  refine .nil (seqQ_n ?_)
  refine .seq (.region ?_)
  refine .q (.load1 rfl) ?_
  refine .q (.loadA rfl) ?_
  refine TriOps.callR (find_spec (h.mono fun b o hb => .inl hb) t) (fun v hv => ?_)
  obtain ⟨o, rfl, ho⟩ := hv.ptr h.eq
  have io : One (.pointer o) := ⟨rfl⟩
  refine .q (.neNilA rfl rfl) ?_
  refine .q .assign ?_
  refine .nil (seqQ_n ?_)
  refine .ret (retQ_r _ (.one (.tmp rfl)) (.none _) ?_)
  · exact ⟨by rw [ho], rfl⟩
theorem away1_spec (h : SV R g S ps vf vr Mf Mr) (q : Nat) [pc : PC R (.pointer (some ⟨q, 0, none⟩)) [.pointer (some ⟨g, 0, none⟩)]] (t : Tpl) :
    Spec Tryz.prog 57 [.agg t.enc.toArray, .pointer (some ⟨q, 0, none⟩)] R [] fun v H' => v = .bool (!sthere S.rows t) ∧ H' = [] := by
  refine Spec.body Tryz.func57 rfl Tryz.results57 Tryz.ntmps57 rfl ?_
  refine .seq (.region ?_)
  refine TriOps.boxA rfl (fun b2 => ?_)
  refine .q .assign ?_
  refine .nil (seqQ_n ?_)
  refine .seq (.region ?_)
  refine .q (.load1 rfl) ?_
  refine .q (.loadA rfl) ?_
  refine TriOps.callR (find_spec (h.mono fun b o hb => .inl hb) t) (fun v hv => ?_)
  obtain ⟨o, rfl, ho⟩ := hv.ptr h.eq
  have io : One (.pointer o) := ⟨rfl⟩
  refine .q (.eqNilA rfl rfl) ?_
  refine .q .assign ?_
  refine .nil (seqQ_n ?_)
  refine .ret (retQ_r _ (.one (.tmp rfl)) (.none _) ?_)
  · exact ⟨by rw [ho, Bool.not_not], rfl⟩
theorem put1_spec (h : SV R g S ps vf vr Mf Mr) (q q2 : Nat) [pc : PC R (.pointer (some ⟨q, 0, none⟩)) [.pointer (some ⟨g, 0, none⟩)]] [pc2 : PC R (.pointer (some ⟨q2, 0, none⟩)) [.func (.func 56) #[] [.pointer (some ⟨q, 0, none⟩)].toArray]] (c : Chg) :
    Spec Tryz.prog 59 [.agg c.enc.toArray, .pointer (some ⟨q2, 0, none⟩)] R [] fun v H' => v = .bool (c.put && sthere S.rows c.t) ∧ H' = [] := by
  refine Spec.body Tryz.func59 rfl Tryz.results59 Tryz.ntmps59 rfl ?_
  refine .seq (.region ?_)
  refine TriOps.boxA rfl (fun b2 => ?_)
  refine .q .assign ?_
  refine .nil (seqQ_n ?_)
  refine .seq (.region ?_)
  refine .q (.fieldAddr rfl) ?_
  refine .q (.load1 rfl) ?_
  refine .q .move ?_
  refine TriOps.split (t := 6) rfl (fun g1_2 => ?_) (fun g1_2 => ?_)
  refine TriOps.gT g1_2 ?_
  refine .q (.load1 rfl) ?_
  refine TriOps.gT g1_2 ?_
  refine .q (.fieldAddr rfl) ?_
  refine TriOps.gT g1_2 ?_
  refine .q (.loadT rfl) ?_
  refine TriOps.gT g1_2 ?_
  refine TriOps.callRV (first := []) (captured := [.pointer (some ⟨q, 0, none⟩)]) (vs := [.agg c.t.enc.toArray]) (there1_spec (h.mono fun b o hb => .inl hb) q c.t) (fun u hu => ?_)
  subst hu
  refine .q (.pickTh g1_2) ?_
  refine .q .assign ?_
  refine .nil (seqQ_n ?_)
  refine .ret (retQ_r _ (.one (.tmp rfl)) (.none _) ?_)
  · refine ⟨congrArg _ ?_, rfl⟩
    simp_all
  refine TriOps.gF g1_2 ?_
  refine TriOps.gF g1_2 ?_
  refine TriOps.gF g1_2 ?_
  refine TriOps.gF g1_2 ?_
  refine .q (.pickFh g1_2) ?_
  refine .q .assign ?_
  refine .nil (seqQ_n ?_)
  refine .ret (retQ_r _ (.one (.tmp rfl)) (.none _) ?_)
  · refine ⟨congrArg _ ?_, rfl⟩
    simp_all
theorem del1_spec (h : SV R g S ps vf vr Mf Mr) (q q2 : Nat) [pc : PC R (.pointer (some ⟨q, 0, none⟩)) [.pointer (some ⟨g, 0, none⟩)]] [pc2 : PC R (.pointer (some ⟨q2, 0, none⟩)) [.func (.func 57) #[] [.pointer (some ⟨q, 0, none⟩)].toArray]] (c : Chg) :
    Spec Tryz.prog 60 [.agg c.enc.toArray, .pointer (some ⟨q2, 0, none⟩)] R [] fun v H' => v = .bool (!c.put && !sthere S.rows c.t) ∧ H' = [] := by
  refine Spec.body Tryz.func60 rfl Tryz.results60 Tryz.ntmps60 rfl ?_
  refine .seq (.region ?_)
  refine TriOps.boxA rfl (fun b2 => ?_)
  refine .q .assign ?_
  refine .nil (seqQ_n ?_)
  refine .seq (.region ?_)
  refine .q (.fieldAddr rfl) ?_
  refine .q (.load1 rfl) ?_
  refine .q .not ?_
  refine .q .move ?_
  refine TriOps.split (t := 7) rfl (fun g1_3 => ?_) (fun g1_3 => ?_)
  refine TriOps.gT g1_3 ?_
  refine .q (.load1 rfl) ?_
  refine TriOps.gT g1_3 ?_
  refine .q (.fieldAddr rfl) ?_
  refine TriOps.gT g1_3 ?_
  refine .q (.loadT rfl) ?_
  refine TriOps.gT g1_3 ?_
  refine TriOps.callRV (first := []) (captured := [.pointer (some ⟨q, 0, none⟩)]) (vs := [.agg c.t.enc.toArray]) (away1_spec (h.mono fun b o hb => .inl hb) q c.t) (fun u hu => ?_)
  subst hu
  refine .q (.pickTh g1_3) ?_
  refine .q .assign ?_
  refine .nil (seqQ_n ?_)
  refine .ret (retQ_r _ (.one (.tmp rfl)) (.none _) ?_)
  · refine ⟨congrArg _ ?_, rfl⟩
    simp_all
  refine TriOps.gF g1_3 ?_
  refine TriOps.gF g1_3 ?_
  refine TriOps.gF g1_3 ?_
  refine TriOps.gF g1_3 ?_
  refine .q (.pickFh g1_3) ?_
  refine .q .assign ?_
  refine .nil (seqQ_n ?_)
  refine .ret (retQ_r _ (.one (.tmp rfl)) (.none _) ?_)
  · refine ⟨congrArg _ ?_, rfl⟩
    simp_all
theorem sputs_next {cs : List Chg} {i : Nat} {c : Chg} (h : cs[i]? = some c) : sputs (cs.take (i + 1)) = sputs (cs.take i) + if c.put then 1 else 0 := by
  have htk : cs.take (i + 1) = cs.take i ++ [c] := by rw [List.take_add_one, h]; rfl
  unfold sputs
  rw [htk, List.filter_append, List.length_append]
  cases hp : c.put <;> simp [List.filter_cons, hp]
theorem fits_spec (h : SV R g S ps vf vr Mf Mr) (hl : S.rows.length ≤ 4096) (vm vn vc : Value) (must no : List Tpl) (cs : List Chg) (hM : RS R 7 Tpl.enc vm must) (hN : RS R 7 Tpl.enc vn no) (hC : RS R 8 Chg.enc vc cs) :
    Spec Tryz.prog 33 [.pointer (some ⟨g, 0, none⟩), vm, vn, vc] R [] fun u H' => u = .int .i64 (sfits S.rows S.head must no cs) ∧ H' = [] := by
  have lm := hM.le
  have ln := hN.le
  have lc := hC.le
  have pc := h.pc
  have iof := h.of
  have ior := h.or
  have hpl : ps.length = S.rows.length := by rw [← h.eq, List.length_map]
  obtain ⟨pm, km, rfl⟩ := hM.val
  obtain ⟨pn, kn, rfl⟩ := hN.val
  obtain ⟨pv, kc, rfl⟩ := hC.val
  refine Spec.body Tryz.func33 rfl Tryz.results33 Tryz.ntmps33 rfl ?_
  refine .seq (.region ?_)
  refine TriOps.box1 rfl (fun b4 => ?_)
  refine .q .assign ?_
  refine .nil (seqQ_n ?_)
  refine .seq (.region ?_)
  refine .q .makeFunc ?_
  refine TriOps.alloc1 (fun b9 => ?_)
  refine TriOps.store1 rfl rfl ?_
  refine .nil (seqQ_n ?_)
  refine .seq (.region ?_)
  refine .q .makeFunc ?_
  refine TriOps.alloc1 (fun b10 => ?_)
  refine TriOps.store1 rfl rfl ?_
  refine .nil (seqQ_n ?_)
  refine .seq ?_
  refine .seq (.region ?_)
  refine .q .move ?_
  refine .q (.load1 rfl) ?_
  refine TriOps.callR (LTP.containsF_spec 57 [.pointer (some ⟨b4, 0, none⟩)] (fun t => !sthere S.rows t) _ must _ hM.rx fun t ht R' hR => by
    have := PC.of (E := 24) (fr := (0, 0)) (R := R') (b := b4) (vs := [.pointer (some ⟨g, 0, none⟩)]) (hR _ _ (.inr (by simp [setL])))
    exact away1_spec (h.mono fun b o hb => hR _ _ (.inl hb)) b4 t) (fun u hu => ?_)
  subst hu
  refine .q .move ?_
  refine TriOps.split (t := 19) rfl (fun g3_3 => ?_) (fun g3_3 => ?_)
  refine TriOps.gF g3_3 ?_
  refine TriOps.gF g3_3 ?_
  refine TriOps.gF g3_3 ?_
  refine .q (.pickTh g3_3) ?_
  refine .nil (seqQ_n ?_)
  refine .condT ?_
  refine .seq (.region ?_)
  refine .q .assign ?_
  refine .nil (seqQ_n ?_)
  refine .ret (seqQ_r (retQ_r _ (.one (.tmp rfl)) (.none _) ?_))
  · exact ⟨by unfold sfits; rw [g3_3, Bool.true_or, if_pos rfl], rfl⟩
  refine TriOps.gT g3_3 ?_
  refine .q .move ?_
  refine TriOps.gT g3_3 ?_
  refine .q (.load1 rfl) ?_
  refine TriOps.gT g3_3 ?_
  refine TriOps.callR (LTP.containsF_spec 56 [.pointer (some ⟨b4, 0, none⟩)] (fun t => sthere S.rows t) _ no _ hN.rx fun t ht R' hR => by
    have := PC.of (E := 24) (fr := (0, 0)) (R := R') (b := b4) (vs := [.pointer (some ⟨g, 0, none⟩)]) (hR _ _ (.inr (by simp [setL])))
    exact there1_spec (h.mono fun b o hb => hR _ _ (.inl hb)) b4 t) (fun u hu => ?_)
  subst hu
  refine .q (.pickFh g3_3) ?_
  refine .nil (seqQ_n ?_)
  refine .cond rfl (fun h1 => ?_) (fun h1 => ?_)
  refine .seq (.region ?_)
  refine .q .assign ?_
  refine .nil (seqQ_n ?_)
  refine .ret (seqQ_r (retQ_r _ (.one (.tmp rfl)) (.none _) ?_))
  · exact ⟨by unfold sfits; rw [h1, Bool.or_true, if_pos rfl], rfl⟩
  refine .skip ?_
  refine seqQ_n ?_
  refine .seq ?_
  refine .seq (.region ?_)
  refine .q .move ?_
  refine .q .makeFunc ?_
  refine TriOps.callR (LCH.containsF_spec 59 [.pointer (some ⟨b9, 0, none⟩)] (fun c => c.put && sthere S.rows c.t) _ cs _ hC.rx fun c ht R' hR => by
    have := PC.of (E := 24) (fr := (0, 0)) (R := R') (b := b4) (vs := [.pointer (some ⟨g, 0, none⟩)]) (hR _ _ (.inr (by simp [setL])))
    have := PC.of (E := 110) (fr := (0, 0)) (R := R') (b := b9) (vs := [.func (.func 56) #[] [.pointer (some ⟨b4, 0, none⟩)].toArray]) (hR _ _ (.inr (by simp [setL])))
    exact put1_spec (h.mono fun b o hb => hR _ _ (.inl hb)) b4 b9 c) (fun u hu => ?_)
  subst hu
  refine .nil (seqQ_n ?_)
  refine .cond rfl (fun h2 => ?_) (fun h2 => ?_)
  refine .seq (.region ?_)
  refine .q .assign ?_
  refine .nil (seqQ_n ?_)
  refine .ret (seqQ_r (retQ_r _ (.one (.tmp rfl)) (.none _) ?_))
  · exact ⟨by unfold sfits; rw [g3_3, h1, Bool.or_false, if_neg (by simp), h2, if_pos rfl], rfl⟩
  refine .skip ?_
  refine seqQ_n ?_
  refine .seq ?_
  refine .seq (.region ?_)
  refine .q .move ?_
  refine .q .makeFunc ?_
  refine TriOps.callR (LCH.containsF_spec 60 [.pointer (some ⟨b10, 0, none⟩)] (fun c => !c.put && !sthere S.rows c.t) _ cs _ hC.rx fun c ht R' hR => by
    have := PC.of (E := 24) (fr := (0, 0)) (R := R') (b := b4) (vs := [.pointer (some ⟨g, 0, none⟩)]) (hR _ _ (.inr (by simp [setL])))
    have := PC.of (E := 110) (fr := (0, 0)) (R := R') (b := b10) (vs := [.func (.func 57) #[] [.pointer (some ⟨b4, 0, none⟩)].toArray]) (hR _ _ (.inr (by simp [setL])))
    exact del1_spec (h.mono fun b o hb => hR _ _ (.inl hb)) b4 b10 c) (fun u hu => ?_)
  subst hu
  refine .nil (seqQ_n ?_)
  refine .cond rfl (fun h3 => ?_) (fun h3 => ?_)
  refine .seq (.region ?_)
  refine .q .assign ?_
  refine .nil (seqQ_n ?_)
  refine .ret (seqQ_r (retQ_r _ (.one (.tmp rfl)) (.none _) ?_))
  · exact ⟨by unfold sfits; rw [g3_3, h1, Bool.or_false, if_neg (by simp), h2, if_neg (by simp), h3, if_pos rfl], rfl⟩
  refine .skip ?_
  refine seqQ_n ?_
  refine .seq (.region ?_)
  refine .q .assign ?_
  refine .nil (seqQ_n ?_)
  refine .seq ?_
  refine .seq (.region ?_)
  refine .q .move ?_
  refine .q (.lenR hC) ?_
  refine .q .move ?_
  refine .nil (seqQ_n ?_)
  refine .block ?_
  refine .loop (X := Nat) (fun i => i ≤ cs.length) (fun i => [(4, .pointer (some ⟨b4, 0, none⟩)), (11, .int .i64 (sputs (cs.take i) : Nat)), (30, .slice pv cs.length kc), (31, .int .i64 (cs.length : Nat)), (32, .int .i64 (i : Nat))]) (fun _ => [[(b4, .cells [.pointer (some ⟨g, 0, none⟩)].toArray 24 (0, 0))]]) (fun i => cs.length - i) 0 (Nat.zero_le _) ((((((EnvLe.nil _).cons rfl).cons rfl).cons rfl).cons rfl).cons rfl) (HLe.pick [2] _) ?_
  rintro i hi
  have hsp : sputs (cs.take i) ≤ i := Nat.le_trans (List.length_filter_le _ _) (by rw [List.length_take]; omega)
  refine .seq (.region ?_)
  refine .q .lss ?_
  refine .nil (seqQ_n ?_)
  refine .seq ?_
  refine .cond rfl (fun h4 => ?_) (fun h4 => ?_)
  have hlt : i < cs.length := by have := of_decide_eq_true h4; omega
  obtain ⟨c, hc⟩ : ∃ c, cs[i]? = some c := ⟨_, List.getElem?_eq_getElem hlt⟩
  have hsn := sputs_next hc
  refine .skip ?_
  refine seqQ_n ?_
  refine .seq ?_
  refine .block ?_
  refine .seq (.region ?_)
  refine TriOps.indexR i hC hc (fun p34 => ?_)
  refine .q (.loadA rfl) ?_
  refine TriOps.allocA (fun b13 => ?_)
  refine TriOps.storeA rfl rfl ?_
  refine .nil (seqQ_n ?_)
  refine .seq (.region ?_)
  refine .q (.fieldAddr rfl) ?_
  refine .q (.load1 rfl) ?_
  refine .nil (seqQ_n ?_)
  refine .cond rfl (fun h5 => ?_) (fun h5 => ?_)
  refine .region ?_
  refine .q .move ?_
  refine .q (.i64 ((sputs (cs.take i) + 1 : Nat) : Int) .add ⟨by omega, by omega, by omega⟩) ?_
  refine .q .assign ?_
  refine .nil ?_
  refine blkQ_n (seqQ_n ?_)
  refine .region ?_
  refine .q (.i64 ((i + 1 : Nat) : Int) .add ⟨by omega, by omega, by omega⟩) ?_
  refine .q .move ?_
  refine .nil ?_
  · first
      | exact loopQ_i (i + 1) hlt (by omega) (by rw [hsn, if_pos h5]; exact (((((EnvLe.nil _).cons rfl).cons rfl).cons rfl).cons rfl).cons rfl) (HLe.pick [1] _)
      | exact loopQ_i (i + 1) hlt (by omega) (by rw [hsn, if_neg (by rw [h5]; simp)]; exact (((((EnvLe.nil _).cons rfl).cons rfl).cons rfl).cons rfl).cons rfl) (HLe.pick [1] _)
  refine .skip ?_
  refine blkQ_n (seqQ_n ?_)
  refine .region ?_
  refine .q (.i64 ((i + 1 : Nat) : Int) .add ⟨by omega, by omega, by omega⟩) ?_
  refine .q .move ?_
  refine .nil ?_
  · first
      | exact loopQ_i (i + 1) hlt (by omega) (by rw [hsn, if_pos h5]; exact (((((EnvLe.nil _).cons rfl).cons rfl).cons rfl).cons rfl).cons rfl) (HLe.pick [1] _)
      | exact loopQ_i (i + 1) hlt (by omega) (by rw [hsn, if_neg (by rw [h5]; simp)]; exact (((((EnvLe.nil _).cons rfl).cons rfl).cons rfl).cons rfl).cons rfl) (HLe.pick [1] _)
  have hie : i = cs.length := by have := of_decide_eq_false h4; omega
  subst hie
  rw [List.take_length]
  refine .exit (seqQ_x (loopQ_x (blkQ_x ?_)))
  refine seqQ_n ?_
  refine .seq ?_
  refine .seq (.region ?_)
  refine .q (.load1 rfl) ?_
  refine .q (.nilCheck rfl) ?_
  refine .q (.fieldAddr rfl) ?_
  refine .q (.load1 rfl) ?_
  refine .q .geq ?_
  refine .q .move ?_
  refine TriOps.split (t := 46) rfl (fun g16_5 => ?_) (fun g16_5 => ?_)
  refine TriOps.gF g16_5 ?_
  refine TriOps.gF g16_5 ?_
  refine TriOps.gF g16_5 ?_
  refine TriOps.gF g16_5 ?_
  refine TriOps.gF g16_5 ?_
  refine TriOps.gF g16_5 ?_
  refine TriOps.gF g16_5 ?_
  refine .q (.pickTh g16_5) ?_
  refine .nil (seqQ_n ?_)
  refine .condT ?_
  refine .seq (.region ?_)
  refine .q .assign ?_
  refine .nil (seqQ_n ?_)
  refine .ret (seqQ_r (retQ_r _ (.one (.tmp rfl)) (.none _) ?_))
  · exact ⟨by unfold sfits; rw [g3_3, h1, Bool.or_false, if_neg (by simp), h2, if_neg (by simp), h3, if_neg (by simp), if_pos (.inl (of_decide_eq_true g16_5))], rfl⟩
  refine TriOps.gT g16_5 ?_
  refine .q .move ?_
  refine TriOps.gT g16_5 ?_
  refine .q (.load1 rfl) ?_
  refine TriOps.gT g16_5 ?_
  refine .q (.nilCheck rfl) ?_
  refine TriOps.gT g16_5 ?_
  refine .q (.fieldAddr rfl) ?_
  refine TriOps.gT g16_5 ?_
  refine .q (.load1 rfl) ?_
  refine TriOps.gT g16_5 ?_
  refine .q (.i64 ((4096 - (ps.length : Nat) : Nat) : Int) .sub ⟨by omega, by omega, by omega⟩) ?_
  refine TriOps.gT g16_5 ?_
  refine .q .gtr ?_
  refine .q (.pickFh g16_5) ?_
  refine .nil (seqQ_n ?_)
  refine .cond rfl (fun h6 => ?_) (fun h6 => ?_)
  refine .seq (.region ?_)
  refine .q .assign ?_
  refine .nil (seqQ_n ?_)
  refine .ret (seqQ_r (retQ_r _ (.one (.tmp rfl)) (.none _) ?_))
  · exact ⟨by unfold sfits; rw [g3_3, h1, Bool.or_false, if_neg (by simp), h2, if_neg (by simp), h3, if_neg (by simp), if_pos (.inr (by have := of_decide_eq_true h6; omega))], rfl⟩
  refine .skip ?_
  refine seqQ_n ?_
  refine .seq (.region ?_)
  refine .q .assign ?_
  refine .nil (seqQ_n ?_)
  refine .ret (retQ_r _ (.one (.tmp rfl)) (.none _) ?_)
  · exact ⟨by unfold sfits; rw [g3_3, h1, Bool.or_false, if_neg (by simp), h2, if_neg (by simp), h3, if_neg (by simp), if_neg (by have h8 := of_decide_eq_false h6; have h9 := of_decide_eq_false g16_5; omega)], rfl⟩
end
end Go.Proofs.YtconfddhmnipjaaGreat
set_option linter.unusedVariables false
set_option linter.unusedSimpArgs false
set_option maxRecDepth 4000
namespace Go.Proofs.YtconfddhmnipjaaGreat
theorem rowSeg_out {ps : List RB} {j : Nat} {b : Nat} {x : SRow} (h : ps[j]? = some (b, x)) : (rowSeg ps).Perm ((b, rowObj x) :: rowSeg (ps.eraseIdx j)) ∧ ∀ y, (rowSeg (ps.set j (b, y))).Perm ((b, rowObj y) :: rowSeg (ps.eraseIdx j)) := by
  obtain ⟨hjl, hjx⟩ := List.getElem?_eq_some_iff.1 h
  have key : ∀ y, (rowSeg (ps.set j (b, y))).Perm ((b, rowObj y) :: rowSeg (ps.eraseIdx j)) := fun y => by
    rw [List.set_eq_take_append_cons_drop, if_pos hjl, List.eraseIdx_eq_take_drop_succ]
    unfold rowSeg
    rw [List.map_append, List.map_cons, List.map_append]
    exact List.perm_middle
  refine ⟨?_, key⟩
  have := key x
  rwa [show ps.set j (b, x) = ps from by rw [← hjx]; exact List.set_getElem_self hjl] at this
theorem SI.viewc {g : Nat} {S : Sto} {T : Seg} {R : Rds} (h : SI g S T) (hR : ∀ p ∈ T, R p.1 p.2) : ∃ ps vf vr Mf Mr, SV R g S ps vf vr Mf Mr ∧
    ∀ b x, (b, x) ∈ ps → ∃ j Rest, S.rows[j]? = some x ∧ T.Perm ((b, rowObj x) :: Rest) ∧ PS Rest (.pointer (some ⟨g, 0, none⟩)) [.bool true, .int .u64 S.head, .int .u64 S.hor, .int .i64 (ps.length : Nat), vf, vr] ∧ ∀ to', ∃ T', T'.Perm ((b, rowObj ⟨x.t, x.fr, to'⟩) :: Rest) ∧ SI g ⟨S.rows.set j ⟨x.t, x.fr, to'⟩, S.head, S.hor⟩ T' := by
  obtain ⟨ps, vf, vr, Mf, Mr, Tf, Tr, Sf, Sr, rfl, h1, h2, h3⟩ := h
  refine ⟨ps, vf, vr, Mf, Mr, ⟨PC.of (E := 62) (fr := (0, 0)) (hR (g, _) (by simp)), h1.ms.one, h2.ms.one, h1.ms.rm fun p hp => hR p (by simp [hp]), h2.ms.rm fun p hp => hR p (by simp [hp]), fun k => h1.look (fun p hp => hR p (by simp [hp])) k, fun k => h2.look (fun p hp => hR p (by simp [hp])) k, h1.al, h1.ms.nd, fun p hp => ?_, h3⟩, fun b x hbx => ?_⟩
  · exact PC.of (E := 77) (fr := (0, 0)) (hR (p.1, rowObj p.2) (by
      have : (p.1, rowObj p.2) ∈ rowSeg ps := List.mem_map.2 ⟨p, hp, rfl⟩
      simp [this]))
  · obtain ⟨j, hj, hjx⟩ := List.mem_iff_getElem.1 hbx
    have hj2 : ps[j]? = some (b, x) := by rw [List.getElem?_eq_getElem hj, hjx]
    obtain ⟨o1, o2⟩ := rowSeg_out hj2
    have mid : ∀ (X : Seg) (y : Blk) (Y : Seg), X.Perm (y :: Y) → ((g, Obj.cells [.bool true, .int .u64 S.head, .int .u64 S.hor, .int .i64 (ps.length : Nat), vf, vr].toArray 62 (0, 0)) :: (Tf ++ (Sf ++ (Tr ++ (Sr ++ X))))).Perm (y :: ((g, Obj.cells [.bool true, .int .u64 S.head, .int .u64 S.hor, .int .i64 (ps.length : Nat), vf, vr].toArray 62 (0, 0)) :: (Tf ++ (Sf ++ (Tr ++ (Sr ++ Y)))))) := fun X y Y hp => by
      refine .trans (.cons _ (.append_left _ (.append_left _ (.append_left _ (.append_left _ hp))))) ?_
      refine .trans (.cons _ ?_) (.swap _ _ _)
      simp only [← List.append_assoc]
      exact List.perm_middle
    refine ⟨j, _, by rw [← h3, List.getElem?_map, hj2]; rfl, mid _ _ _ o1, PS.of (E := 62) (fr := (0, 0)) (by simp), fun to' => ⟨_, mid _ _ _ (o2 ⟨x.t, x.fr, to'⟩), ?_⟩⟩
    have e1 : ∀ {κ : Type} (key : SRow → κ), key ⟨x.t, x.fr, to'⟩ = key x → (ps.set j (b, ⟨x.t, x.fr, to'⟩)).map (fun p => (p.1, key p.2)) = ps.map (fun p => (p.1, key p.2)) := fun key hk => by
      rw [List.map_set]
      have : (ps.map fun p => (p.1, key p.2))[j]? = some (b, key x) := by rw [List.getElem?_map, hj2]; rfl
      simp only [hk]
      rw [← (List.getElem?_eq_some_iff.1 this).2]
      exact List.set_getElem_self _
    refine ⟨ps.set j (b, ⟨x.t, x.fr, to'⟩), vf, vr, Mf, Mr, Tf, Tr, Sf, Sr, by rw [List.length_set], h1.rows (e1 (fun x => x.t.obr) rfl), h2.rows (e1 (fun x => x.t.sub) rfl), ?_⟩
    rw [List.map_set, h3]
theorem SI.cells {g : Nat} {S : Sto} {T : Seg} (h : SI g S T) : ∃ n vf vr Rest, One vf ∧ One vr ∧ T = (g, .cells [.bool true, .int .u64 S.head, .int .u64 S.hor, .int .i64 n, vf, vr].toArray 62 (0, 0)) :: Rest ∧ ∀ head hor, SI g ⟨S.rows, head, hor⟩ ((g, .cells [.bool true, .int .u64 head, .int .u64 hor, .int .i64 n, vf, vr].toArray 62 (0, 0)) :: Rest) := by
  obtain ⟨ps, vf, vr, Mf, Mr, Tf, Tr, Sf, Sr, rfl, h1, h2, h3⟩ := h
  exact ⟨_, vf, vr, _, h1.ms.one, h2.ms.one, rfl, fun head hor => ⟨ps, vf, vr, Mf, Mr, Tf, Tr, Sf, Sr, rfl, h1, h2, h3⟩⟩
theorem scode_fits {S : Sto} {must no : List Tpl} {cs : List Chg} (h : scheck must no cs = 0) : scode S must no cs = sfits S.rows S.head must no cs := by unfold scode; rw [if_neg (by simp [h])]
theorem scode_check {S : Sto} {must no : List Tpl} {cs : List Chg} (h : scheck must no cs ≠ 0) : scode S must no cs = scheck must no cs := by unfold scode; rw [if_pos h]
theorem sapply_put {r : Int} {L : List SRow} {c : Chg} (h : c.put = true) : sapply r L c = L ++ [⟨c.t, r, 0⟩] := by unfold sapply; rw [if_pos h]
theorem sapply_del {r : Int} {L : List SRow} {c : Chg} (h : c.put = false) : sapply r L c = L.map (SRow.close c.t r) := by unfold sapply; rw [if_neg (by rw [h]; simp)]
theorem sapply_next {r : Int} {L : List SRow} {cs : List Chg} {i : Nat} {c : Chg} (h : cs[i]? = some c) : (cs.take (i + 1)).foldl (sapply r) L = sapply r ((cs.take i).foldl (sapply r) L) c := by
  rw [List.take_add_one, h, Option.toList_some, List.foldl_append]; rfl
theorem write_spec (g : Nat) (S : Sto) (T : Seg) (h : SI g S T) (hS : SOK S) (vm vn vc : Value) (must no : List Tpl) (cs : List Chg) (R : Rds) (hM : RS R 7 Tpl.enc vm must) (hN : RS R 7 Tpl.enc vn no) (hC : RS R 8 Chg.enc vc cs) (fm : ∀ t ∈ must, t.fits) (fn : ∀ t ∈ no, t.fits) (fc : ∀ c ∈ cs, c.t.fits) :
    Spec Tryz.prog 13 [.pointer (some ⟨g, 0, none⟩), vm, vn, vc] R [T] fun u H' => ∃ T', H' = [T'] ∧ u = .tuple [.int .u64 (if scode S must no cs = 0 then S.head + 1 else 0), .int .i64 (scode S must no cs)].toArray ∧ SI g (swrite S must no cs) T' := by
  have lm := hM.le
  have ln := hN.le
  have lc := hC.le
  have a0 := hS.h0
  have a1 := hS.h1
  have a2 := hS.h2
  obtain ⟨pm, km, rfl⟩ := hM.val
  obtain ⟨pn, kn, rfl⟩ := hN.val
  obtain ⟨pv, kc, rfl⟩ := hC.val
  obtain ⟨ps, vf, vr, Mf, Mr, hV, _⟩ := h.viewc (R := Rx R [T]) fun p hp => .inr (by simp [hp])
  refine Spec.body Tryz.func13 rfl Tryz.results13 Tryz.ntmps13 rfl ?_
  refine .seq (.region ?_)
  refine .q .assign ?_
  refine .q .assign ?_
  refine .nil (seqQ_n ?_)
  refine .seq ?_
  refine .seq (.region ?_)
  refine .q .move ?_
  refine TriOps.callR hV.ok (fun v hv => ?_)
  subst hv
  refine .q .not ?_
  refine .nil (seqQ_n ?_)
  refine .condF ?_
  refine .skip ?_
  refine seqQ_n ?_
  refine .seq ?_
  refine .seq (.region ?_)
  refine .q .move ?_
  refine .q .move ?_
  refine .q .move ?_
  refine TriOps.callR (check_spec _ _ _ must no cs _ hM.rx hN.rx hC.rx fm fn fc) (fun v hv => ?_)
  subst hv
  refine .q .assign ?_
  refine .nil (seqQ_n ?_)
  refine .seq (.region ?_)
  refine .q .move ?_
  refine .q .neI ?_
  refine .nil (seqQ_n ?_)
  refine .cond rfl (fun h2 => ?_) (fun h2 => ?_)
  have hc0 : scheck must no cs ≠ 0 := by simpa using h2
  refine .seq (.region ?_)
  refine .q .move ?_
  refine .q .assign ?_
  refine .q .assign ?_
  refine .nil (seqQ_n ?_)
  refine .ret (seqQ_r (retQ_r _ (.two (.tmp rfl) (.tmp rfl)) (.one [0] _) ?_))
  · rw [scode_check hc0, swrite_else (by rw [scode_check hc0]; exact hc0), if_neg hc0]
    exact ⟨T, by simp [take], rfl, h⟩
  have hc0 : scheck must no cs = 0 := by simpa using h2
  refine .skip ?_
  refine seqQ_n ?_
  refine .seq ?_
  refine .seq (.region ?_)
  refine .q .move ?_
  refine .q .move ?_
  refine .q .move ?_
  refine .q .move ?_
  refine TriOps.callR (fits_spec hV hS.len _ _ _ must no cs hM.rx hN.rx hC.rx) (fun v hv => ?_)
  subst hv
  refine .q .assign ?_
  refine .nil (seqQ_n ?_)
  refine .seq (.region ?_)
  refine .q .move ?_
  refine .q .neI ?_
  refine .nil (seqQ_n ?_)
  refine .cond rfl (fun h3 => ?_) (fun h3 => ?_)
  have hc1 : sfits S.rows S.head must no cs ≠ 0 := by simpa using h3
  refine .seq (.region ?_)
  refine .q .move ?_
  refine .q .assign ?_
  refine .q .assign ?_
  refine .nil (seqQ_n ?_)
  refine .ret (seqQ_r (retQ_r _ (.two (.tmp rfl) (.tmp rfl)) (.one [0] _) ?_))
  · rw [scode_fits hc0, swrite_else (by rw [scode_fits hc0]; exact hc1), if_neg hc1]
    exact ⟨T, by simp [take], rfl, h⟩
  have hc1 : sfits S.rows S.head must no cs = 0 := by simpa using h3
  have hcode : scode S must no cs = 0 := by rw [scode_fits hc0, hc1]
  have hw := scode_zero hcode
  have hwh := hw.head
  obtain ⟨n, vf2, vr2, Rest, if2, ir2, rfl, hSI⟩ := h.cells
  refine Tri.le (EnvLe.refl _) (H' := [[(g, .cells [.bool true, .int .u64 S.head, .int .u64 S.hor, .int .i64 n, vf2, vr2].toArray 62 (0, 0))], Rest]) (HLe.ofPerm (by simp)) ?_
  refine .skip ?_
  refine seqQ_n ?_
  refine .seq (.region ?_)
  refine .q .move ?_
  refine .q (.nilCheck rfl) ?_
  refine .q (.fieldAddr rfl) ?_
  refine .q (.load1 rfl) ?_
  refine .q (.u64 (S.head + 1) .add ⟨rfl, by omega, by omega⟩) ?_
  refine .q (.nilCheck rfl) ?_
  refine .q (.fieldAddr rfl) ?_
  refine TriOps.store1 rfl rfl ?_
  refine .nil (seqQ_n ?_)
  refine .seq ?_
  refine .seq (.region ?_)
  refine .q .move ?_
  refine .q (.lenR hC) ?_
  refine .q .move ?_
  refine .nil (seqQ_n ?_)
  refine .block ?_
  refine .loop (X := Nat × Seg) (fun y => y.1 ≤ cs.length ∧ SI g ⟨(cs.take y.1).foldl (sapply (S.head + 1)) S.rows, S.head + 1, S.hor⟩ y.2) (fun y => [(0, .pointer (some ⟨g, 0, none⟩)), (39, .slice pv cs.length kc), (40, .int .i64 (cs.length : Nat)), (41, .int .i64 (y.1 : Nat))]) (fun y => [y.2]) (fun y => cs.length - y.1) (0, (g, Obj.cells [Value.bool true, Value.int .u64 (S.head + 1), Value.int .u64 S.hor, Value.int .i64 n, vf2, vr2].toArray 62 (0, 0)) :: Rest) ⟨Nat.zero_le _, hSI (S.head + 1) S.hor⟩ (((((EnvLe.nil _).cons rfl).cons rfl).cons rfl).cons rfl) (HLe.ofPerm (by simp [setL])) ?_
  rintro ⟨i, Ti⟩ ⟨hi, hI⟩
  simp only at hi hI ⊢
  have hSi := hS.fold (hw.take i)
  obtain ⟨psi, vfi, vri, Mfi, Mri, hVi, hcl⟩ := hI.viewc (R := sg Ti) fun p hp => hp
  have ifi := hVi.of
  have iri := hVi.or
  have pxi : PS Ti (.pointer (some ⟨g, 0, none⟩)) [.bool true, .int .u64 (S.head + 1), .int .u64 S.hor, .int .i64 (psi.length : Nat), vfi, vri] := ⟨hVi.pc⟩
  refine .seq (.region ?_)
  refine .q .lss ?_
  refine .nil (seqQ_n ?_)
  refine .seq ?_
  refine .cond rfl (fun h4 => ?_) (fun h4 => ?_)
  have hlt : i < cs.length := by have := of_decide_eq_true h4; omega
  obtain ⟨c, hc⟩ : ∃ c, cs[i]? = some c := ⟨_, List.getElem?_eq_getElem hlt⟩
  have hcm := List.mem_of_getElem? hc
  refine .skip ?_
  refine seqQ_n ?_
  refine .seq ?_
  refine .block ?_
  refine .seq (.region ?_)
  refine TriOps.indexR i hC hc (fun p43 => ?_)
  refine .q (.loadA rfl) ?_
  refine TriOps.allocA (fun b13 => ?_)
  refine TriOps.storeA rfl rfl ?_
  refine .nil (seqQ_n ?_)
  refine .seq (.region ?_)
  refine .q (.fieldAddr rfl) ?_
  refine .q (.load1 rfl) ?_
  refine .nil (seqQ_n ?_)
  refine .cond rfl (fun h5 => ?_) (fun h5 => ?_)
  refine .region_tail 8 mixed (by kernel_rfl) ?_
  conv => arg 6; dsimp only [List.take]
  refine .q .move ?_
  refine .q (.fieldAddr rfl) ?_
  refine .q (.loadT rfl) ?_
  refine .q .move ?_
  refine .q (.nilCheck rfl) ?_
  refine .q (.fieldAddr rfl) ?_
  refine .q (.load1 rfl) ?_
  refine .q .bld ?_
  refine .nil ?_
  refine TriOps.callM (add_spec g _ Ti hI ⟨c.t, S.head + 1, 0⟩ (by have := hSi.len; simp only at this ⊢; omega) _) (fun v T2 hv => ?_)
  obtain ⟨rfl, hI2⟩ := hv
  refine .nil ?_
  refine blkQ_n (seqQ_n ?_)
  refine .region ?_
  refine .q (.i64 ((i + 1 : Nat) : Int) .add ⟨by omega, by omega, by omega⟩) ?_
  refine .q .move ?_
  refine .nil ?_
  · first
      | exact loopQ_i (i + 1, T2) ⟨hlt, by simp only; rw [sapply_next hc, sapply_put h5]; exact hI2⟩ (by simp only; omega) (((((EnvLe.nil _).cons rfl).cons rfl).cons rfl).cons rfl) (HLe.pick [1] _)
      | exact loopQ_i (i + 1, T2) ⟨hlt, by simp only; rw [sapply_next hc]; exact hI2⟩ (by simp only; omega) (((((EnvLe.nil _).cons rfl).cons rfl).cons rfl).cons rfl) ((HLe.pick [1, 1] _).trans (HLe.ofPerm (H' := [T2]) (show List.Perm ((b, rowObj ⟨x.t, x.fr, S.head + 1⟩) :: (Rest2 ++ [])) (T2 ++ []) from by simpa using hT2.symm)))
  refine .region_all [10] mixed ?_
  refine .takeO 0 rfl .move (by kernel_rfl) ?_
  refine .takeO 1 rfl (.fieldAddr rfl) (by kernel_rfl) ?_
  refine .takeO 2 rfl (.loadT rfl) (by kernel_rfl) ?_
  refine .takeO 4 rfl .move (by kernel_rfl) ?_
  refine .takeO 5 rfl (.nilCheck rfl) (by kernel_rfl) ?_
  refine .takeO 6 rfl (.fieldAddr rfl) (by kernel_rfl) ?_
  refine .takeO 7 rfl (.load1 rfl) (by kernel_rfl) ?_
  refine RA.step 3 rfl (by kernel_rfl) rfl ?_
  refine TriOps.callR (find_spec (hVi.mono fun b o hb => .inr (by have hb' : (b, o) ∈ Ti := hb; simp [hb'])) c.t) (fun v hv => ?_)
  have hth : sthere ((cs.take i).foldl (sapply (S.head + 1)) S.rows) c.t = true := by
    rw [sthere_fold _ _ fun hm => ?_]
    · exact hw.there c hcm (by simpa using h5)
    · have hn := hw.nd
      obtain ⟨d, hd, hde⟩ := List.mem_map.1 hm
      obtain ⟨k, hk, hkd⟩ := List.mem_iff_getElem.1 hd
      rw [List.length_take] at hk
      rw [List.getElem_take] at hkd
      have := List.pairwise_iff_getElem.1 hn k i (by simp; omega) (by simp; omega) (by omega)
      rw [List.getElem_map, List.getElem_map, hkd, (List.getElem?_eq_some_iff.1 hc).2] at this
      exact this hde
  obtain ⟨b, x, hbx, hox, rfl⟩ : ∃ b x, (b, x) ∈ psi ∧ x.openOf c.t = true ∧ v = .pointer (some ⟨b, 0, none⟩) := by
    rcases hv with hv | ⟨hv, _⟩
    · exact hv
    · exact absurd hth (by rw [hv]; simp)
  obtain ⟨j, Rest2, hj, hTp, pxr, hcl2⟩ := hcl b x hbx
  obtain ⟨T2, hT2, hI2⟩ := hcl2 (S.head + 1)
  have hI2 : SI g ⟨sapply (S.head + 1) ((cs.take i).foldl (sapply (S.head + 1)) S.rows) c, S.head + 1, S.hor⟩ T2 := by
    rw [sapply_del h5]
    have := close_set hSi.pw hj hox (S.head + 1)
    simp only at this
    rw [this]
    exact hI2
  have pxb : PC (sg Ti) (.pointer (some ⟨b, 0, none⟩)) x.enc := hVi.pr _ hbx
  have pxb2 : PS Ti (.pointer (some ⟨b, 0, none⟩)) x.enc := ⟨pxb⟩
  refine .nil (Next.sub ?_)
  refine .takeO 8 rfl (.nilCheck rfl) (by kernel_rfl) ?_
  refine .takeO 9 rfl (.fieldAddr rfl) (by kernel_rfl) ?_
  refine RA.step 10 rfl (by kernel_rfl) rfl ?_
  refine TriOps.sub (H' := [[(b13, .cells c.enc.toArray 79 (0, 0))], [(b, .cells x.enc.toArray 77 (0, 0))], Rest2]) (HLe.ofPerm (by simp only [List.flatten_cons, List.flatten_nil, List.append_nil, List.cons_append, List.nil_append]; exact .cons _ hTp)) ?_
  refine TriOps.store1 rfl rfl ?_
  refine .nil (Next.mod rfl ?_)
  refine RA.nil (by kernel_rfl) ?_
  refine blkQ_n (seqQ_n ?_)
  refine .region ?_
  refine .q (.i64 ((i + 1 : Nat) : Int) .add ⟨by omega, by omega, by omega⟩) ?_
  refine .q .move ?_
  refine .nil ?_
  · first
      | exact loopQ_i (i + 1, T2) ⟨hlt, by simp only; rw [sapply_next hc, sapply_put h5]; exact hI2⟩ (by simp only; omega) (((((EnvLe.nil _).cons rfl).cons rfl).cons rfl).cons rfl) (HLe.pick [1] _)
      | exact loopQ_i (i + 1, T2) ⟨hlt, by simp only; rw [sapply_next hc]; exact hI2⟩ (by simp only; omega) (((((EnvLe.nil _).cons rfl).cons rfl).cons rfl).cons rfl) ((HLe.pick [1, 1] _).trans (HLe.ofPerm (H' := [T2]) (show List.Perm ((b, rowObj ⟨x.t, x.fr, S.head + 1⟩) :: (Rest2 ++ [])) (T2 ++ []) from by simpa using hT2.symm)))
  refine .exit (seqQ_x (loopQ_x (blkQ_x ?_)))
  refine seqQ_n ?_
  refine .seq (.region ?_)
  refine .q .move ?_
  refine .q (.nilCheck rfl) ?_
  refine .q (.fieldAddr rfl) ?_
  refine .q (.load1 rfl) ?_
  refine .q .assign ?_
  refine .q .assign ?_
  refine .nil (seqQ_n ?_)
  refine .ret (retQ_r _ (.two (.tmp rfl) (.tmp rfl)) (.one [0] _) ?_)
  · have hie : i = cs.length := by have := of_decide_eq_false h4; omega
    subst hie
    rw [List.take_length] at hI
    refine ⟨Ti, by simp [take], by rw [hcode]; rfl, ?_⟩
    unfold swrite
    rw [if_pos hcode]
    exact hI
end Go.Proofs.YtconfddhmnipjaaGreat
set_option linter.unusedVariables false
set_option linter.unusedSimpArgs false
set_option maxRecDepth 4000
namespace Go.Proofs.YtconfddhmnipjaaGreat
structure SCall where
  kind : Int
  wm : Value
  wn : Value
  wc : Value
  f : Tpl
  rev : Int
  must : List Tpl
  no : List Tpl
  cs : List Chg
def SCall.enc (c : SCall) : List Value := [.int .i64 c.kind, c.wm, c.wn, c.wc] ++ c.f.enc ++ [.int .u64 c.rev]
structure SCall.is (R : Rds) (c : SCall) : Prop where
  hm : RS R 7 Tpl.enc c.wm c.must
  hn : RS R 7 Tpl.enc c.wn c.no
  hc : RS R 8 Chg.enc c.wc c.cs
  fm : ∀ t ∈ c.must, t.fits
  fn : ∀ t ∈ c.no, t.fits
  fc : ∀ d ∈ c.cs, d.t.fits
  r0 : 0 ≤ c.rev
  r1 : c.rev ≤ 18446744073709551615
def SCall.few (c : SCall) : Prop := c.must.length ≤ 34 ∧ c.no.length ≤ 34 ∧ c.cs.length ≤ 34
theorem SCall.is.mono {R R' : Rds} {c : SCall} (h : c.is R) (hR : ∀ b o, R b o → R' b o) : c.is R' := ⟨h.hm.mono hR, h.hn.mono hR, h.hc.mono hR, h.fm, h.fn, h.fc, h.r0, h.r1⟩
theorem SCall.is.ones {R : Rds} {c : SCall} (h : c.is R) : Ones c.enc := ⟨by
  obtain ⟨p1, k1, e1⟩ := h.hm.val
  obtain ⟨p2, k2, e2⟩ := h.hn.val
  obtain ⟨p3, k3, e3⟩ := h.hc.val
  simp [SCall.enc, Tpl.enc, e1, e2, e3, oneCell]⟩
theorem few12_spec (v : Value) (cs : List SCall) (n : Nat) (hn : n ≤ 1000) (R RD : Rds) (h : RS R 12 SCall.enc v cs) (hD : ∀ c ∈ cs, c.is RD) :
    Spec Tryz.prog 12 [v, .int .i64 (n : Nat)] R [] fun u H' => ∃ T, H' = [T] ∧ ∃ ds, OS 51 12 SCall.enc u ds T ∧ (∀ d ∈ ds, d.is RD ∧ d.few) ∧ ds.length = min cs.length n := by
  have hl := h.le
  obtain ⟨pv, kv_, rfl⟩ := h.val
  refine Spec.segs (H' := [[]]) (by simp) ?_
  refine Spec.body Tryz.func12 rfl Tryz.results12 Tryz.ntmps12 rfl ?_
  refine .seq (.region ?_)
  refine .q .assign ?_
  refine .nil (seqQ_n ?_)
  refine .seq (.region ?_)
  refine .q .assign ?_
  refine .nil (seqQ_n ?_)
  refine .seq ?_
  refine .seq (.region ?_)
  refine .q .assign ?_
  refine .nil (seqQ_n ?_)
  refine .block ?_
  refine .loop (X := Nat × List SCall × Value × Seg) (fun y => (y.1 ≤ cs.length ∧ y.1 ≤ n ∧ y.2.1.length = y.1) ∧ OS 51 12 SCall.enc y.2.2.1 y.2.1 y.2.2.2 ∧ ∀ d ∈ y.2.1, d.is RD ∧ d.few) (fun y => [(0, .slice pv cs.length kv_), (1, .int .i64 (n : Nat)), (5, y.2.2.1), (6, .int .i64 (y.1 : Nat))]) (fun y => [y.2.2.2]) (fun y => cs.length - y.1) (0, [], .slice none 0 0, []) ⟨⟨Nat.zero_le _, Nat.zero_le _, rfl⟩, OS.nil, by simp⟩ (((((EnvLe.nil _).cons rfl).cons rfl).cons rfl).cons rfl) (HLe.refl _) ?_
  rintro ⟨i, ds, vo, To⟩ ⟨⟨hi, hin, hdl⟩, hO, hds⟩
  simp only at hi hin hdl hO hds ⊢
  have io := hO.oneCell
  refine .seq ?_
  refine .seq (.region ?_)
  refine .q .move ?_
  refine .q .move ?_
  refine .q (.lenR h) ?_
  refine .q .lss ?_
  refine .q .move ?_
  refine TriOps.split (t := 12) rfl (fun g3_4 => ?_) (fun g3_4 => ?_)
  refine TriOps.gT g3_4 ?_
  refine .q .move ?_
  refine TriOps.gT g3_4 ?_
  refine .q .move ?_
  refine TriOps.gT g3_4 ?_
  refine .q .lss ?_
  refine .q (.pickTh g3_4) ?_
  refine .nil (seqQ_n ?_)
  refine .cond rfl (fun h1 => ?_) (fun h1 => ?_)
  have hlt : i < cs.length ∧ i < n := by simp_all
  obtain ⟨c, hc⟩ : ∃ c, cs[i]? = some c := ⟨_, List.getElem?_eq_getElem hlt.1⟩
  have hcis := hD c (List.mem_of_getElem? hc)
  have icn := hcis.ones
  refine .skip ?_
  refine seqQ_n ?_
  refine .seq ?_
  refine .block ?_
  refine .seq (.region ?_)
  refine .q .move ?_
  refine .q .move ?_
  refine TriOps.indexR i h hc (fun p21 => ?_)
  obtain ⟨kd, wm, wn, wc, f, rev, must, no, ss⟩ := c
  have hm : RS RD 7 Tpl.enc wm must := hcis.hm
  have hno : RS RD 7 Tpl.enc wn no := hcis.hn
  have hch : RS RD 8 Chg.enc wc ss := hcis.hc
  obtain ⟨pm, km, rfl⟩ := hm.val
  obtain ⟨pn, kn, rfl⟩ := hno.val
  obtain ⟨pc, kc, rfl⟩ := hch.val
  have ien : Ones (SCall.enc ⟨kd, .slice pm must.length km, .slice pn no.length kn, .slice pc ss.length kc, f, rev, must, no, ss⟩) := hcis.ones
  refine .q (.loadA rfl) ?_
  refine TriOps.allocA (fun b7 => ?_)
  refine TriOps.storeA rfl rfl ?_
  refine .nil (seqQ_n ?_)
  refine .seq ?_
  refine .seq (.region ?_)
  refine .q (.fieldAddr rfl) ?_
  refine .q (.load1 rfl) ?_
  refine .q (.lenR hm) ?_
  refine .q .gtr ?_
  refine .nil (seqQ_n ?_)
  refine Tri.cut (X := SCall) (fun d => d.is RD ∧ d.must.length ≤ 34) (fun d => [(0, .slice pv cs.length kv_), (1, .int .i64 (n : Nat)), (5, vo), (6, .int .i64 (i : Nat)), (7, .pointer (some ⟨b7, 0, none⟩))]) (fun d => [[(b7, .cells d.enc.toArray 51 (0, 0))], To]) ?_ ?_
  refine .cond rfl (fun h2 => ?_) (fun h2 => ?_)
  refine .region ?_
  refine .q (.fieldAddr rfl) ?_
  refine .q (.load1 rfl) ?_
  refine TriOps.sliceR (R' := RD) 0 34 hm rfl ⟨_, rfl⟩ (by omega) (by have := of_decide_eq_true h2; first | omega | (simp only at this; omega)) (fun v2 hv2 => ?_)
  have iv2 := hv2.oneCell
  refine .q (.fieldAddr rfl) ?_
  refine TriOps.store1 rfl rfl ?_
  refine .nil ?_
  · first
      | exact joinQ_n ⟨kd, v2, .slice pn no.length kn, .slice pc ss.length kc, f, rev, (must.drop 0).take (34 - 0), no, ss⟩ ⟨⟨hv2, hno, hch, fun t ht => hcis.fm t (List.mem_of_mem_drop (List.mem_of_mem_take ht)), hcis.fn, hcis.fc, hcis.r0, hcis.r1⟩, by simp; omega⟩ ((((((EnvLe.nil _).cons rfl).cons rfl).cons rfl).cons rfl).cons rfl) (HLe.refl _)
      | exact joinQ_n _ ⟨hcis, by have := of_decide_eq_false h2; first | omega | (simp only at this; omega) | (simp only; omega)⟩ ((((((EnvLe.nil _).cons rfl).cons rfl).cons rfl).cons rfl).cons rfl) (HLe.refl _)
  refine .skip ?_
  · first
      | exact joinQ_n ⟨kd, v2, .slice pn no.length kn, .slice pc ss.length kc, f, rev, (must.drop 0).take (34 - 0), no, ss⟩ ⟨⟨hv2, hno, hch, fun t ht => hcis.fm t (List.mem_of_mem_drop (List.mem_of_mem_take ht)), hcis.fn, hcis.fc, hcis.r0, hcis.r1⟩, by simp; omega⟩ ((((((EnvLe.nil _).cons rfl).cons rfl).cons rfl).cons rfl).cons rfl) (HLe.refl _)
      | exact joinQ_n _ ⟨hcis, by have := of_decide_eq_false h2; first | omega | (simp only at this; omega) | (simp only; omega)⟩ ((((((EnvLe.nil _).cons rfl).cons rfl).cons rfl).cons rfl).cons rfl) (HLe.refl _)
  intro x hx
  clear ien hm hno hch hcis
  obtain ⟨hcis, hl1⟩ := hx
  obtain ⟨kd, wm, wn, wc, f, rev, must, no, ss⟩ := x
  have hm : RS RD 7 Tpl.enc wm must := hcis.hm
  have hno : RS RD 7 Tpl.enc wn no := hcis.hn
  have hch : RS RD 8 Chg.enc wc ss := hcis.hc
  obtain ⟨pm, km, rfl⟩ := hm.val
  obtain ⟨pn, kn, rfl⟩ := hno.val
  obtain ⟨pc, kc, rfl⟩ := hch.val
  have ien : Ones (SCall.enc ⟨kd, .slice pm must.length km, .slice pn no.length kn, .slice pc ss.length kc, f, rev, must, no, ss⟩) := hcis.ones
  refine seqQ_n ?_
  refine .seq ?_
  refine .seq (.region ?_)
  refine .q (.fieldAddr rfl) ?_
  refine .q (.load1 rfl) ?_
  refine .q (.lenR hno) ?_
  refine .q .gtr ?_
  refine .nil (seqQ_n ?_)
  refine Tri.cut (X := SCall) (fun d => d.is RD ∧ d.must.length ≤ 34 ∧ d.no.length ≤ 34) (fun d => [(0, .slice pv cs.length kv_), (1, .int .i64 (n : Nat)), (5, vo), (6, .int .i64 (i : Nat)), (7, .pointer (some ⟨b7, 0, none⟩))]) (fun d => [[(b7, .cells d.enc.toArray 51 (0, 0))], To]) ?_ ?_
  refine .cond rfl (fun h3 => ?_) (fun h3 => ?_)
  refine .region ?_
  refine .q (.fieldAddr rfl) ?_
  refine .q (.load1 rfl) ?_
  refine TriOps.sliceR (R' := RD) 0 34 hno rfl ⟨_, rfl⟩ (by omega) (by have := of_decide_eq_true h3; first | omega | (simp only at this; omega)) (fun v2 hv2 => ?_)
  have iv2 := hv2.oneCell
  refine .q (.fieldAddr rfl) ?_
  refine TriOps.store1 rfl rfl ?_
  refine .nil ?_
  · first
      | exact joinQ_n ⟨kd, .slice pm must.length km, v2, .slice pc ss.length kc, f, rev, must, (no.drop 0).take (34 - 0), ss⟩ ⟨⟨hm, hv2, hch, hcis.fm, fun t ht => hcis.fn t (List.mem_of_mem_drop (List.mem_of_mem_take ht)), hcis.fc, hcis.r0, hcis.r1⟩, hl1, by simp; omega⟩ ((((((EnvLe.nil _).cons rfl).cons rfl).cons rfl).cons rfl).cons rfl) (HLe.refl _)
      | exact joinQ_n _ ⟨hcis, hl1, by have := of_decide_eq_false h3; first | omega | (simp only at this; omega) | (simp only; omega)⟩ ((((((EnvLe.nil _).cons rfl).cons rfl).cons rfl).cons rfl).cons rfl) (HLe.refl _)
  refine .skip ?_
  · first
      | exact joinQ_n ⟨kd, .slice pm must.length km, v2, .slice pc ss.length kc, f, rev, must, (no.drop 0).take (34 - 0), ss⟩ ⟨⟨hm, hv2, hch, hcis.fm, fun t ht => hcis.fn t (List.mem_of_mem_drop (List.mem_of_mem_take ht)), hcis.fc, hcis.r0, hcis.r1⟩, hl1, by simp; omega⟩ ((((((EnvLe.nil _).cons rfl).cons rfl).cons rfl).cons rfl).cons rfl) (HLe.refl _)
      | exact joinQ_n _ ⟨hcis, hl1, by have := of_decide_eq_false h3; first | omega | (simp only at this; omega) | (simp only; omega)⟩ ((((((EnvLe.nil _).cons rfl).cons rfl).cons rfl).cons rfl).cons rfl) (HLe.refl _)
  intro x hx
  clear ien hm hno hch hcis hl1
  obtain ⟨hcis, hl1, hl2⟩ := hx
  obtain ⟨kd, wm, wn, wc, f, rev, must, no, ss⟩ := x
  have hm : RS RD 7 Tpl.enc wm must := hcis.hm
  have hno : RS RD 7 Tpl.enc wn no := hcis.hn
  have hch : RS RD 8 Chg.enc wc ss := hcis.hc
  obtain ⟨pm, km, rfl⟩ := hm.val
  obtain ⟨pn, kn, rfl⟩ := hno.val
  obtain ⟨pc, kc, rfl⟩ := hch.val
  have ien : Ones (SCall.enc ⟨kd, .slice pm must.length km, .slice pn no.length kn, .slice pc ss.length kc, f, rev, must, no, ss⟩) := hcis.ones
  refine seqQ_n ?_
  refine .seq ?_
  refine .seq (.region ?_)
  refine .q (.fieldAddr rfl) ?_
  refine .q (.load1 rfl) ?_
  refine .q (.lenR hch) ?_
  refine .q .gtr ?_
  refine .nil (seqQ_n ?_)
  refine Tri.cut (X := SCall) (fun d => d.is RD ∧ d.few) (fun d => [(0, .slice pv cs.length kv_), (1, .int .i64 (n : Nat)), (5, vo), (6, .int .i64 (i : Nat)), (7, .pointer (some ⟨b7, 0, none⟩))]) (fun d => [[(b7, .cells d.enc.toArray 51 (0, 0))], To]) ?_ ?_
  refine .cond rfl (fun h4 => ?_) (fun h4 => ?_)
  refine .region ?_
  refine .q (.fieldAddr rfl) ?_
  refine .q (.load1 rfl) ?_
  refine TriOps.sliceR (R' := RD) 0 34 hch rfl ⟨_, rfl⟩ (by omega) (by have := of_decide_eq_true h4; first | omega | (simp only at this; omega)) (fun v2 hv2 => ?_)
  have iv2 := hv2.oneCell
  refine .q (.fieldAddr rfl) ?_
  refine TriOps.store1 rfl rfl ?_
  refine .nil ?_
  · first
      | exact joinQ_n ⟨kd, .slice pm must.length km, .slice pn no.length kn, v2, f, rev, must, no, (ss.drop 0).take (34 - 0)⟩ ⟨⟨hm, hno, hv2, hcis.fm, hcis.fn, fun t ht => hcis.fc t (List.mem_of_mem_drop (List.mem_of_mem_take ht)), hcis.r0, hcis.r1⟩, hl1, hl2, by simp; omega⟩ ((((((EnvLe.nil _).cons rfl).cons rfl).cons rfl).cons rfl).cons rfl) (HLe.refl _)
      | exact joinQ_n _ ⟨hcis, hl1, hl2, by have := of_decide_eq_false h4; first | omega | (simp only at this; omega) | (simp only; omega)⟩ ((((((EnvLe.nil _).cons rfl).cons rfl).cons rfl).cons rfl).cons rfl) (HLe.refl _)
  refine .skip ?_
  · first
      | exact joinQ_n ⟨kd, .slice pm must.length km, .slice pn no.length kn, v2, f, rev, must, no, (ss.drop 0).take (34 - 0)⟩ ⟨⟨hm, hno, hv2, hcis.fm, hcis.fn, fun t ht => hcis.fc t (List.mem_of_mem_drop (List.mem_of_mem_take ht)), hcis.r0, hcis.r1⟩, hl1, hl2, by simp; omega⟩ ((((((EnvLe.nil _).cons rfl).cons rfl).cons rfl).cons rfl).cons rfl) (HLe.refl _)
      | exact joinQ_n _ ⟨hcis, hl1, hl2, by have := of_decide_eq_false h4; first | omega | (simp only at this; omega) | (simp only; omega)⟩ ((((((EnvLe.nil _).cons rfl).cons rfl).cons rfl).cons rfl).cons rfl) (HLe.refl _)
  intro x hx
  clear ien hm hno hch hcis hl1 hl2
  obtain ⟨hcis, hfew⟩ := hx
  have ix := hcis.ones
  refine seqQ_n ?_
  refine .region ?_
  refine .q .move ?_
  refine .q (.loadA rfl) ?_
  refine TriOps.buildSlice1A (fun b49 => ?_)
  refine TriOps.append hO (RS.lits (xs := [x]) rfl (by simp [SCall.enc, Tpl.enc]) (by have := ix.h; simpa using this)) (by simp; omega) (fun v7 T7 hO7 => ?_)
  have i7 := hO7.oneCell
  refine .q .assign ?_
  refine .nil ?_
  refine blkQ_n (seqQ_n ?_)
  refine .region ?_
  refine .q .move ?_
  refine .q (.i64 ((i + 1 : Nat) : Int) .add ⟨by omega, by omega, by omega⟩) ?_
  refine .q .assign ?_
  refine .nil ?_
  · exact loopQ_i (i + 1, ds ++ [x], v7, T7) ⟨⟨hlt.1, hlt.2, by simp [hdl]⟩, hO7, fun d hd => by
      rcases List.mem_append.1 hd with hd | hd
      · exact hds d hd
      · simp only [List.mem_singleton] at hd
        subst hd
        exact ⟨hcis, hfew⟩⟩ (by simp only; omega) (((((EnvLe.nil _).cons rfl).cons rfl).cons rfl).cons rfl) (HLe.pick [2] _)
  refine .exit (seqQ_x (loopQ_x (blkQ_x ?_)))
  refine seqQ_n ?_
  refine .seq (.region ?_)
  refine .q .move ?_
  refine .q .assign ?_
  refine .nil (seqQ_n ?_)
  refine .ret (retQ_r _ (.one (.tmp rfl)) (.one [0] _) ?_)
  · refine ⟨To, by simp [take], ds, hO, hds, ?_⟩
    simp_all
    omega
  refine TriOps.gF g3_4 ?_
  refine TriOps.gF g3_4 ?_
  refine TriOps.gF g3_4 ?_
  refine .q (.pickFh g3_4) ?_
  refine .nil (seqQ_n ?_)
  refine .condF ?_
  refine .exit (seqQ_x (loopQ_x (blkQ_x ?_)))
  refine seqQ_n ?_
  refine .seq (.region ?_)
  refine .q .move ?_
  refine .q .assign ?_
  refine .nil (seqQ_n ?_)
  refine .ret (retQ_r _ (.one (.tmp rfl)) (.one [0] _) ?_)
  · refine ⟨To, by simp [take], ds, hO, hds, ?_⟩
    simp_all
    omega
end Go.Proofs.YtconfddhmnipjaaGreat
set_option linter.unusedVariables false
set_option linter.unusedSimpArgs false
set_option maxRecDepth 4000
namespace Go.Proofs.YtconfddhmnipjaaGreat
theorem SOK.new : SOK ⟨[], 0, 0⟩ := ⟨by simp, by simp, by simp, by simp, by simp, by simp⟩
theorem bob_ok : isTpl (⟨⟨#[100, 111, 99]⟩, ⟨#[97]⟩, ⟨#[118, 105, 101, 119, 101, 114]⟩, ⟨#[98, 111, 98]⟩, ⟨#[]⟩, ⟨#[]⟩, ⟨#[]⟩⟩ : Tpl) = true := by decide
theorem bob_code : scode ⟨[], 0, 0⟩ [] [] [⟨true, (⟨⟨#[100, 111, 99]⟩, ⟨#[97]⟩, ⟨#[118, 105, 101, 119, 101, 114]⟩, ⟨#[98, 111, 98]⟩, ⟨#[]⟩, ⟨#[]⟩, ⟨#[]⟩⟩ : Tpl)⟩] = 0 := by
  unfold scode
  have h1 : scheck [] [] [⟨true, (⟨⟨#[100, 111, 99]⟩, ⟨#[97]⟩, ⟨#[118, 105, 101, 119, 101, 114]⟩, ⟨#[98, 111, 98]⟩, ⟨#[]⟩, ⟨#[]⟩, ⟨#[]⟩⟩ : Tpl)⟩] = 0 := by
    rw [scheck_end (by simp) (by simp) (by simp) (by simp [bob_ok]) false (by simp)]; rfl
  rw [if_neg (by simp [h1])]
  unfold sfits sthere sputs
  simp
end Go.Proofs.YtconfddhmnipjaaGreat
set_option linter.unusedVariables false
set_option linter.unusedSimpArgs false
set_option maxRecDepth 4000
namespace Go.Proofs.YtconfddhmnipjaaGreat
theorem prune1_spec (b : Nat) (x : SRow) (h : Int) (q : Nat) (R : Rds) [pb : PC R (.pointer (some ⟨b, 0, none⟩)) x.enc] [pq : PC R (.pointer (some ⟨q, 0, none⟩)) [.int .u64 h]] :
    Spec Tryz.prog 66 [.pointer (some ⟨b, 0, none⟩), .pointer (some ⟨q, 0, none⟩)] R [] fun v H' => v = .bool (!skeep h x) ∧ H' = [] := by
  obtain ⟨⟨a1, a2, a3, a4, a5, a6, a7⟩, fr, to⟩ := x
  refine Spec.body Tryz.func66 rfl Tryz.results66 Tryz.ntmps66 rfl ?_
  refine .seq (.region ?_)
  refine .q .assign ?_
  refine .nil (seqQ_n ?_)
  refine .seq ?_
  refine .region_still mixed (by kernel_rfl) ?_
  refine .q .move ?_
  refine .q (.nilCheck rfl) ?_
  refine .q (.fieldAddr rfl) ?_
  refine .q (.load1 rfl) ?_
  refine .q .neI ?_
  refine .q .move ?_
  refine TriOps.split (t := 9) rfl (fun g1_5 => ?_) (fun g1_5 => ?_)
  refine TriOps.gT g1_5 ?_
  refine .q .move ?_
  refine TriOps.gT g1_5 ?_
  refine .q (.nilCheck rfl) ?_
  refine TriOps.gT g1_5 ?_
  refine .q (.fieldAddr rfl) ?_
  refine TriOps.gT g1_5 ?_
  refine .q (.load1 rfl) ?_
  refine TriOps.gT g1_5 ?_
  refine .q (.load1 rfl) ?_
  refine TriOps.gT g1_5 ?_
  refine .q .leq ?_
  refine .q (.pickTh g1_5) ?_
  refine .q .assign ?_
  refine .nil (seqQ_n ?_)
  refine .ret (retQ_r _ (.one (.tmp rfl)) (.none _) ?_)
  · refine ⟨congrArg _ ?_, rfl⟩
    unfold skeep
    rw [Bool.eq_iff_iff]
    simp_all
    try omega
  refine TriOps.gF g1_5 ?_
  refine TriOps.gF g1_5 ?_
  refine TriOps.gF g1_5 ?_
  refine TriOps.gF g1_5 ?_
  refine TriOps.gF g1_5 ?_
  refine TriOps.gF g1_5 ?_
  refine .q (.pickFh g1_5) ?_
  refine .q .assign ?_
  refine .nil (seqQ_n ?_)
  refine .ret (retQ_r _ (.one (.tmp rfl)) (.none _) ?_)
  · refine ⟨congrArg _ ?_, rfl⟩
    unfold skeep
    rw [Bool.eq_iff_iff]
    simp_all
    try omega
theorem prune_spec (v : Value) (F : List RB) (h : Int) (R : Rds) (hF : RS R 1 encRB v F) (hp : ∀ p ∈ F, PC R (.pointer (some ⟨p.1, 0, none⟩)) p.2.enc) (hl : F.length ≤ 5000) :
    Spec Tryz.prog 40 [v, .int .u64 h] R [] fun u H' => ∃ T, H' = [T] ∧ OS 91 1 encRB u (F.filter fun p => skeep h p.2) T := by
  obtain ⟨pv, kv_, rfl⟩ := hF.val
  refine Spec.body Tryz.func40 rfl Tryz.results40 Tryz.ntmps40 rfl ?_
  refine .seq (.region ?_)
  refine TriOps.box1 rfl (fun b3 => ?_)
  refine .q .assign ?_
  refine .nil (seqQ_n ?_)
  refine .seq (.region ?_)
  refine .q .move ?_
  refine TriOps.callN (LRP.clone_spec _ F _ hF.rx (by omega)) (fun u T1 hO => ?_)
  have iu := hO.oneCell
  refine .q .makeFunc ?_
  refine TriOps.callW (LRP.delF_spec 66 [.pointer (some ⟨b3, 0, none⟩)] (fun p : RB => !skeep h p.2) u F T1 _ hO fun p hp2 R' hR => by
    have i1 := PC.of (E := 23) (fr := (0, 0)) (R := R') (b := b3) (vs := [.int .u64 h]) (hR _ _ (.inr (by simp)))
    have i2 : PC R' (.pointer (some ⟨p.1, 0, none⟩)) p.2.enc := (hp p hp2).mono fun b o hb => hR _ _ (.inl hb)
    exact prune1_spec p.1 p.2 h b3 R') (fun u2 T2 hO2 => ?_)
  have iu2 := hO2.oneCell
  refine .q .assign ?_
  refine .nil (seqQ_n ?_)
  refine .ret (retQ_r _ (.one (.tmp rfl)) (.one [0] _) ?_)
  · refine ⟨T2, by simp [take], ?_⟩
    simpa using hO2
section
variable {κ : Type} [DecidableEq κ] {encK : κ → Value} {key : SRow → κ}
/-- A map half collected: at the keys that are to come stands what stood; at the others what is kept. -/
structure CX (encK : κ → Value) (key : SRow → κ) (qs : List RB) (vm : Value) (M0 M1 : List (κ × (Value × Seg))) (todo : List κ) (Tm Sn : Seg) : Prop where
  ms : MS encK (fun p : Value × Seg => p.1) vm M1 Tm
  td : ∀ k ∈ todo, mget k M1 = mget k M0
  nd : todo.Nodup
  dn : ∀ p ∈ M1, p.1 ∉ todo → OS 91 1 encPt p.2.1 (ids key p.1 qs) p.2.2 ∧ ids key p.1 qs ≠ []
  al : ∀ x ∈ qs, key x.2 ∉ todo → key x.2 ∈ M1.map (·.1)
  pm : Sn.Perm ((M1.filter fun p => decide (p.1 ∉ todo)).flatMap fun p => p.2.2)
theorem CX.start {ps qs : List RB} {vm : Value} {M : List (κ × (Value × Seg))} {Tm Ts : Seg} (h : MFx encK key ps vm M Tm Ts) (hq : ∀ x ∈ qs, x ∈ ps) : CX encK key qs vm M M (M.map (·.1)) Tm [] :=
  ⟨h.ms, fun _ _ => rfl, h.ms.nd, fun p hp hn => absurd (List.mem_map.2 ⟨p, hp, rfl⟩) hn, fun x hx hn => absurd (h.al x (hq x hx)) hn, by
    rw [List.filter_eq_nil_iff.2 fun p hp hd => (of_decide_eq_true hd) (List.mem_map.2 ⟨p, hp, rfl⟩)]; exact .refl _⟩
theorem CX.done {qs : List RB} {vm : Value} {M0 M1 : List (κ × (Value × Seg))} {Tm Sn : Seg} (h : CX encK key qs vm M0 M1 [] Tm Sn) : MFx encK key qs vm M1 Tm Sn :=
  ⟨h.ms, by have := h.pm; rwa [List.filter_eq_self.2 fun p _ => by simp] at this, fun p hp => (h.dn p hp (by simp)).1, fun p hp => (h.dn p hp (by simp)).2, fun x hx => h.al x hx (by simp)⟩
theorem out_filter {todo : List κ} {k : κ} (hk : k ∈ todo) (M : List (κ × (Value × Seg))) : (kdel k M).filter (fun p => decide (p.1 ∉ todo.filter fun k' => decide (k' ≠ k))) = M.filter fun p => decide (p.1 ∉ todo) := by
  unfold kdel
  rw [List.filter_filter]
  refine List.filter_congr fun p _ => ?_
  by_cases e : p.1 = k
  · rw [e]; simp [hk]
  · simp [e]
theorem CX.keep {qs : List RB} {vm : Value} {M0 M1 : List (κ × (Value × Seg))} {todo : List κ} {Tm Sn : Seg} (h : CX encK key qs vm M0 M1 todo Tm Sn) {k : κ} (hk : k ∈ todo) {v' : Value} {T' Tm' : Seg} (hms : MS encK (fun p : Value × Seg => p.1) vm (mset k (v', T') M1) Tm') (hos : OS 91 1 encPt v' (ids key k qs) T') (hne : ids key k qs ≠ []) :
    CX encK key qs vm M0 (mset k (v', T') M1) (todo.filter fun k' => decide (k' ≠ k)) Tm' (T' ++ Sn) := by
  have hn := h.ms.nd
  refine ⟨hms, fun j hj => ?_, h.nd.sublist List.filter_sublist, fun p hp hn2 => ?_, fun x hx hn2 => ?_, ?_⟩
  · have := List.mem_filter.1 hj
    rw [mget_mset, if_neg (by simpa using this.2)]
    exact h.td j this.1
  · by_cases e : p.1 = k
    · have h1 : mget p.1 (mset k (v', T') M1) = some p.2 := mget_of_mem hms.nd (by exact hp)
      rw [mget_mset, if_pos e] at h1
      have h2 := Option.some.inj h1
      rw [e, ← h2]
      exact ⟨hos, hne⟩
    · rcases mset_mem hn hp with hp | hp
      · exact h.dn p hp fun hm => hn2 (List.mem_filter.2 ⟨hm, by simp [e]⟩)
      · exact absurd (by rw [hp]) e
  · rw [mset_keys]
    by_cases e : key x.2 = k
    · split
      · rw [e]; assumption
      · simp [e]
    · have := h.al x hx fun hm => hn2 (List.mem_filter.2 ⟨hm, by simp [e]⟩)
      split <;> simp [this]
  · have h1 : ((mset k (v', T') M1).filter fun p => decide (p.1 ∉ todo.filter fun k' => decide (k' ≠ k))).Perm ((k, (v', T')) :: M1.filter fun p => decide (p.1 ∉ todo)) := by
      refine ((mset_perm hn).filter _).trans ?_
      unfold kset
      rw [List.filter_append, out_filter hk]
      refine (List.perm_append_comm).trans ?_
      rw [List.filter_cons, if_pos (by simp)]
      exact .refl _
    refine .trans ?_ (h1.flatMap_right _).symm
    rw [List.flatMap_cons]
    exact .append_left _ h.pm
theorem CX.drop {qs : List RB} {vm : Value} {M0 M1 : List (κ × (Value × Seg))} {todo : List κ} {Tm Sn : Seg} (h : CX encK key qs vm M0 M1 todo Tm Sn) {k : κ} (hk : k ∈ todo) {x : Value × Seg} {Tm' : Seg} (hms : MS encK (fun p : Value × Seg => p.1) vm (mdel k (mset k x M1)) Tm') (hne : ids key k qs = []) :
    CX encK key qs vm M0 (mdel k (mset k x M1)) (todo.filter fun k' => decide (k' ≠ k)) Tm' Sn := by
  have hn := h.ms.nd
  have hn2 := mset_nodup (k := k) (x := x) hn
  have hp1 : (mdel k (mset k x M1)).Perm (kdel k M1) := by
    rw [mdel_kdel hn2]
    refine (kdel_perm (mset_perm hn)).trans ?_
    unfold kset kdel
    rw [List.filter_append, List.filter_filter, List.filter_cons, if_neg (by simp)]
    simp
  have hmem : ∀ p, p ∈ mdel k (mset k x M1) ↔ p ∈ M1 ∧ p.1 ≠ k := fun p => by
    rw [hp1.mem_iff]
    unfold kdel
    rw [List.mem_filter]
    simp
  refine ⟨hms, fun j hj => ?_, h.nd.sublist List.filter_sublist, fun p hp hn3 => ?_, fun y hy hn3 => ?_, ?_⟩
  · have hj2 := List.mem_filter.1 hj
    rw [mget_mdel hn2, if_neg (by simpa using hj2.2), mget_mset, if_neg (by simpa using hj2.2)]
    exact h.td j hj2.1
  · obtain ⟨h1, h2⟩ := (hmem p).1 hp
    exact h.dn p h1 fun hm => hn3 (List.mem_filter.2 ⟨hm, by simp [h2]⟩)
  · by_cases e : key y.2 = k
    · have : y.1 ∈ ids key k qs := ids_mem.2 ⟨y.2, hy, e⟩
      rw [hne] at this
      cases this
    · obtain ⟨p, hp, hpe⟩ := List.mem_map.1 (h.al y hy fun hm => hn3 (List.mem_filter.2 ⟨hm, by simp [e]⟩))
      exact List.mem_map.2 ⟨p, (hmem p).2 ⟨hp, by rw [hpe]; exact e⟩, hpe⟩
  · refine h.pm.trans ((List.Perm.flatMap_right _ ?_))
    rw [← out_filter hk]
    exact (hp1.filter _).symm
end
end Go.Proofs.YtconfddhmnipjaaGreat
