/- Texts in order; the library's comparisons. No condition. -/
import Derived.Test.YtkepgbimlolemaaFacts
import Derived.Test.YtkepgbimlolemaaMot3
import Derived.Test.YtkepgbimlolemaaShelf
set_option linter.unusedVariables false
namespace Go.Proofs.Ytkepgbimlolemaa

theorem Spec.ofCalls {P : Program} {f : FuncId} {args : List Value} {v : Value} (h : ∀ w, Calls P f args.toArray w fun e w' => e = .returned v ∧ w' = w) (R : Rds) : Spec P f args R [] fun u H' => u = v ∧ H' = [] :=
  fun w _ _ => (h w).mono fun e w' ⟨h1, h2⟩ => ⟨v, [], h1, ⟨rfl, rfl⟩, by subst h2; exact ⟨by simp, by simp⟩, by subst h2; exact .refl _ _⟩

/-! ### Texts in order -/
def scmp (a b : ByteArray) : Int := Lib.compareBytes a.data.toList b.data.toList
theorem cb_lt : ∀ (a b : List UInt8), Lib.compareBytes a b < 0 ↔ Op.bytesLess a b = true
  | [], [] => by simp [Lib.compareBytes, Op.bytesLess]
  | [], _ :: _ => by simp [Lib.compareBytes, Op.bytesLess]
  | _ :: _, [] => by simp [Lib.compareBytes, Op.bytesLess]
  | x :: a, y :: b => by
    have ih := cb_lt a b
    simp only [Lib.compareBytes, Op.bytesLess, Bool.or_eq_true, Bool.and_eq_true, decide_eq_true_eq, beq_iff_eq]
    by_cases h1 : x < y
    · simp [h1]
    · by_cases h2 : y < x
      · have : x ≠ y := fun e => by subst e; exact UInt8.lt_irrefl _ h2
        simp [h1, h2, this]
      · have : x = y := UInt8.le_antisymm (UInt8.not_lt.1 h2) (UInt8.not_lt.1 h1)
        subst this
        simp [h1, ih]
theorem cb_gt : ∀ (a b : List UInt8), 0 < Lib.compareBytes a b ↔ Op.bytesLess b a = true
  | [], [] => by simp [Lib.compareBytes, Op.bytesLess]
  | [], _ :: _ => by simp [Lib.compareBytes, Op.bytesLess]
  | _ :: _, [] => by simp [Lib.compareBytes, Op.bytesLess]
  | x :: a, y :: b => by
    have ih := cb_gt a b
    simp only [Lib.compareBytes, Op.bytesLess, Bool.or_eq_true, Bool.and_eq_true, decide_eq_true_eq, beq_iff_eq]
    by_cases h1 : x < y
    · have h2 : ¬ y < x := fun h => UInt8.lt_irrefl _ (UInt8.lt_trans h1 h)
      have : ¬ y = x := fun e => by subst e; exact UInt8.lt_irrefl _ h1
      simp [h1, h2, this]
    · by_cases h2 : y < x
      · simp [h1, h2]
      · have : x = y := UInt8.le_antisymm (UInt8.not_lt.1 h2) (UInt8.not_lt.1 h1)
        subst this
        simp [h1, ih]
theorem cb_eq : ∀ (a b : List UInt8), Lib.compareBytes a b = 0 ↔ a = b
  | [], [] => by simp [Lib.compareBytes]
  | [], _ :: _ => by simp [Lib.compareBytes]
  | _ :: _, [] => by simp [Lib.compareBytes]
  | x :: a, y :: b => by
    have ih := cb_eq a b
    simp only [Lib.compareBytes, List.cons.injEq]
    by_cases h1 : x < y
    · have : ¬ x = y := fun e => by subst e; exact UInt8.lt_irrefl _ h1
      simp [h1, this]
    · by_cases h2 : y < x
      · have : ¬ x = y := fun e => by subst e; exact UInt8.lt_irrefl _ h2
        simp [h1, h2, this]
      · have : x = y := UInt8.le_antisymm (UInt8.not_lt.1 h2) (UInt8.not_lt.1 h1)
        subst this
        simp [h1, ih]
theorem bl_trans : ∀ (a b c : List UInt8), Op.bytesLess a b = true → Op.bytesLess b c = true → Op.bytesLess a c = true
  | _, [], _, h, _ => by simp [Op.bytesLess] at h
  | _, _ :: _, [], _, h => by simp [Op.bytesLess] at h
  | [], _ :: _, _ :: _, _, _ => by simp [Op.bytesLess]
  | x :: a, y :: b, z :: c, h1, h2 => by
    simp only [Op.bytesLess, Bool.or_eq_true, Bool.and_eq_true, decide_eq_true_eq, beq_iff_eq] at h1 h2 ⊢
    rcases h1 with h1 | ⟨rfl, h1⟩
    · rcases h2 with h2 | ⟨rfl, h2⟩
      · exact .inl (UInt8.lt_trans h1 h2)
      · exact .inl h1
    · rcases h2 with h2 | ⟨rfl, h2⟩
      · exact .inl h2
      · exact .inr ⟨rfl, bl_trans a b c h1 h2⟩
theorem sLt_iff {a b : ByteArray} : sLt a b = true ↔ scmp a b < 0 := by
  unfold sLt scmp; rw [ByteArray.toList_eq, ByteArray.toList_eq, cb_lt]
theorem sLt_iff' {a b : ByteArray} : sLt b a = true ↔ 0 < scmp a b := by
  unfold sLt scmp; rw [ByteArray.toList_eq, ByteArray.toList_eq, cb_gt]
theorem scmp_eq {a b : ByteArray} : scmp a b = 0 ↔ a = b := by
  unfold scmp
  rw [cb_eq]
  exact ⟨fun h => ByteArray.ext (Array.toList_inj.1 h), fun h => by rw [h]⟩
theorem sLt_irr (a : ByteArray) : sLt a a = false := by
  cases h : sLt a a with
  | false => rfl
  | true => have := sLt_iff.1 h; rw [scmp_eq.2 rfl] at this; omega
theorem sLt_trans {a b c : ByteArray} (h1 : sLt a b = true) (h2 : sLt b c = true) : sLt a c = true := by
  unfold sLt at *; exact bl_trans _ _ _ h1 h2
theorem sLt_conn {a b : ByteArray} (h1 : sLt a b = false) (h2 : sLt b a = false) : a = b := by
  refine scmp_eq.1 ?_
  rcases Int.lt_trichotomy (scmp a b) 0 with h | h | h
  · rw [sLt_iff.2 h] at h1; cases h1
  · exact h
  · rw [sLt_iff'.2 h] at h2; cases h2
theorem sLt_so : SO sLt := ⟨sLt_irr, fun _ _ _ => sLt_trans, fun x y z h1 h2 => by
  cases h : sLt x z with
  | false => rfl
  | true =>
    cases h3 : sLt y x with
    | true => rw [sLt_trans h3 h] at h2; cases h2
    | false => have := sLt_conn h1 h3; subst this; rw [h] at h2; cases h2⟩
theorem compare_spec (a b : ByteArray) (R : Rds) : Spec Try.prog 56 [.string a, .string b] R [] fun v H' => v = .int .i64 (scmp a b) ∧ H' = [] :=
  Spec.ofCalls (Try.strings_Compare a b) R

/-! ### The library's comparisons -/
def icmp (a b : Int) : Int := if a < b then -1 else if b < a then 1 else 0
def orI : List Int → Int
  | [] => 0
  | x :: l => if x = 0 then orI l else x
def encI (x : Int) : List Value := [.int .i64 x]
def encS (s : ByteArray) : List Value := [.string s]
instance decMemS (s : ByteArray) (l : List ByteArray) : Decidable (s ∈ l) := decidable_of_iff (l.any (fun x => decide (x = s)) = true) (by simp)
instance keyS : KeyT Try.prog 9 (fun s : ByteArray => .string s) := KeyT.str fU9 fA9
theorem orI_skip {l : List Int} {i : Nat} (h : ∀ j x, j < i → l[j]? = some x → x = 0) : orI l = orI (l.drop i) := by
  induction i generalizing l with
  | zero => simp
  | succ i ih =>
    cases l with
    | nil => simp
    | cons x l =>
      have : x = 0 := h 0 x (by omega) rfl
      subst this
      simp only [orI, if_true, List.drop_succ_cons]
      exact ih fun j x hj hx => h (j + 1) x (by omega) (by simpa using hx)
theorem or_spec (v : Value) (l : List Int) (R : Rds) (h : RS R 1 encI v l) : Spec Try.prog 109 [v] R [] fun u H' => u = .int .i64 (orI l) ∧ H' = [] := by
  have hle := h.le
  refine Spec.body Try.func109 rfl Try.results109 Try.ntmps109 rfl ?_
  refine .seq ?_
  refine .region ?_
  refine TriOps.q .assign ?_
  refine .nil ?_
  refine seqQ_n ?_
  refine .seq ?_
  refine .region ?_
  refine TriOps.q .assign ?_
  refine .nil ?_
  refine seqQ_n ?_
  refine .seq ?_
  refine .seq ?_
  refine .region ?_
  refine TriOps.q .move ?_
  refine TriOps.q (.lenR h) ?_
  refine TriOps.q .move ?_
  refine .nil ?_
  refine seqQ_n ?_
  refine .block ?_
  refine .loop (X := Nat) (fun i => i ≤ l.length ∧ ∀ j x, j < i → l[j]? = some x → x = 0) (fun i => [(3, .int .i64 0), (6, v), (7, .int .i64 l.length), (8, .int .i64 (i : Nat))]) (fun _ => []) (fun i => l.length - i) 0 ⟨by omega, by omega⟩ (((((EnvLe.nil _).cons rfl).cons rfl).cons rfl).cons rfl) (HLe.refl _) ?_
  rintro i ⟨hi, hz⟩
  refine .seq ?_
  refine .region ?_
  refine TriOps.q .lss ?_
  refine .nil ?_
  refine seqQ_n ?_
  refine .seq ?_
  refine .cond rfl (fun h1 => ?_) (fun h1 => ?_)
  · skip
    have hlt : i < l.length := by simp at h1; omega
    obtain ⟨z, hzz⟩ : ∃ z, l[i]? = some z := ⟨_, List.getElem?_eq_getElem hlt⟩
    refine .skip ?_
    refine seqQ_n ?_
    refine .seq ?_
    refine .block ?_
    refine .seq ?_
    refine .region ?_
    refine TriOps.indexR i h hzz (fun pz => ?_)
    refine TriOps.q (.load1 rfl) ?_
    refine TriOps.q .assign ?_
    refine .nil ?_
    refine seqQ_n ?_
    refine .seq ?_
    refine .region ?_
    refine TriOps.q .move ?_
    refine TriOps.q .move ?_
    refine TriOps.q .neI ?_
    refine .nil ?_
    refine seqQ_n ?_
    refine .cond rfl (fun h2 => ?_) (fun h2 => ?_)
    · skip
      refine .seq ?_
      refine .region ?_
      refine TriOps.q .move ?_
      refine TriOps.q .assign ?_
      refine .nil ?_
      refine seqQ_n ?_
      refine .ret (blkQ_r (seqQ_r (loopQ_r (blkQ_r (seqQ_r (retQ_r _ (.one (.tmp rfl)) (.none _) ?_))))))
      refine ⟨?_, rfl⟩
      have h2' : z ≠ 0 := by simpa using h2
      rw [orI_skip hz, List.drop_eq_getElem_cons hlt]
      rw [List.getElem?_eq_getElem hlt] at hzz
      cases hzz
      simp [orI, h2']
    · skip
      refine .skip ?_
      refine blkQ_n (seqQ_n ?_)
      refine .region ?_
      refine TriOps.q (.inc (n := i) (by omega)) ?_
      refine TriOps.q .move ?_
      refine .nil ?_
      exact loopQ_i (i + 1) ⟨by omega, fun j x hj hx => by
        rcases Nat.lt_or_ge j i with hh | hh
        · exact hz j x hh hx
        · obtain rfl : j = i := by omega
          rw [hzz] at hx; cases hx; simpa using h2⟩ (by omega) (((((EnvLe.nil _).cons rfl).cons rfl).cons rfl).cons rfl) (HLe.refl _)
  · skip
    refine .exit (seqQ_x (loopQ_x (blkQ_x ?_)))
    refine seqQ_n ?_
    refine .seq ?_
    refine .region ?_
    refine TriOps.q .move ?_
    refine TriOps.q .assign ?_
    refine .nil ?_
    refine seqQ_n ?_
    refine .ret (retQ_r _ (.one (.tmp rfl)) (.none _) ?_)
    refine ⟨?_, rfl⟩
    have : i = l.length := by simp at h1; omega
    rw [orI_skip hz, this]; simp [orI]
theorem isNaN64_spec (a : Int) (R : Rds) : Spec Try.prog 199 [.int .i64 a] R [] fun u H' => u = .bool false ∧ H' = [] := by
  refine Spec.body Try.func199 rfl Try.results199 Try.ntmps199 rfl ?_
  refine .seq ?_
  refine .region ?_
  refine TriOps.q .assign ?_
  refine .nil ?_
  refine seqQ_n ?_
  refine .seq ?_
  refine .region ?_
  refine TriOps.q .move ?_
  refine TriOps.q .move ?_
  refine TriOps.q .neI ?_
  refine TriOps.q .assign ?_
  refine .nil ?_
  refine seqQ_n ?_
  refine .ret (retQ_r _ (.one (.tmp rfl)) (.none _) ?_)
  exact ⟨by simp, rfl⟩
theorem compare64_spec (a b : Int) (R : Rds) : Spec Try.prog 198 [.int .i64 a, .int .i64 b] R [] fun u H' => u = .int .i64 (icmp a b) ∧ H' = [] := by
  refine Spec.body Try.func198 rfl Try.results198 Try.ntmps198 rfl ?_
  refine .seq ?_
  refine .region ?_
  refine TriOps.q .assign ?_
  refine .nil ?_
  refine seqQ_n ?_
  refine .seq ?_
  refine .region ?_
  refine TriOps.q .move ?_
  refine TriOps.callR (isNaN64_spec a _) (fun v hv => ?_)
  subst hv
  refine TriOps.q .assign ?_
  refine .nil ?_
  refine seqQ_n ?_
  refine .seq ?_
  refine .region ?_
  refine TriOps.q .move ?_
  refine TriOps.callR (isNaN64_spec b _) (fun v hv => ?_)
  subst hv
  refine TriOps.q .assign ?_
  refine .nil ?_
  refine seqQ_n ?_
  refine .seq ?_
  refine .seq ?_
  refine .region ?_
  refine TriOps.q .move ?_
  refine .nil ?_
  refine seqQ_n ?_
  refine .condF ?_
  refine .skip ?_
  refine seqQ_n ?_
  refine .seq ?_
  refine .seq ?_
  refine .region ?_
  refine TriOps.q .move ?_
  refine .nil ?_
  refine seqQ_n ?_
  refine .condF ?_
  refine .skip ?_
  refine seqQ_n ?_
  refine .seq ?_
  refine .seq ?_
  refine .region ?_
  refine TriOps.q .move ?_
  refine TriOps.q .move ?_
  refine TriOps.q .lss ?_
  refine .nil ?_
  refine seqQ_n ?_
  refine .cond rfl (fun h4 => ?_) (fun h4 => ?_)
  · skip
    refine .seq ?_
    refine .region ?_
    refine TriOps.q .assign ?_
    refine .nil ?_
    refine seqQ_n ?_
    refine .ret (seqQ_r (retQ_r _ (.one (.tmp rfl)) (.none _) ?_))
    refine ⟨?_, rfl⟩
    simp at h4
    try simp at h5
    unfold icmp
    congr 1
    split
    · first | rfl | omega
    · first | rfl | (exfalso; omega) | (split <;> first | rfl | omega)
  · skip
    refine .skip ?_
    refine seqQ_n ?_
    refine .seq ?_
    refine .seq ?_
    refine .region ?_
    refine TriOps.q .move ?_
    refine TriOps.q .move ?_
    refine TriOps.q .gtr ?_
    refine .nil ?_
    refine seqQ_n ?_
    refine .cond rfl (fun h5 => ?_) (fun h5 => ?_)
    · skip
      refine .seq ?_
      refine .region ?_
      refine TriOps.q .assign ?_
      refine .nil ?_
      refine seqQ_n ?_
      refine .ret (seqQ_r (retQ_r _ (.one (.tmp rfl)) (.none _) ?_))
      refine ⟨?_, rfl⟩
      simp at h4
      try simp at h5
      unfold icmp
      congr 1
      split
      · first | rfl | omega
      · first | rfl | (exfalso; omega) | (split <;> first | rfl | omega)
    · skip
      refine .skip ?_
      refine seqQ_n ?_
      refine .seq ?_
      refine .region ?_
      refine TriOps.q .assign ?_
      refine .nil ?_
      refine seqQ_n ?_
      refine .ret (retQ_r _ (.one (.tmp rfl)) (.none _) ?_)
      refine ⟨?_, rfl⟩
      simp at h4
      try simp at h5
      unfold icmp
      congr 1
      split
      · first | rfl | omega
      · first | rfl | (exfalso; omega) | (split <;> first | rfl | omega)
end Go.Proofs.Ytkepgbimlolemaa
