/- Names: which texts are ids, which are words; the program's and the document's. No condition. -/
import Derived.Test.YtkepgbimlolemaaStr
set_option linter.unusedVariables false
set_option maxRecDepth 4000
namespace Go.Proofs.Ytkepgbimlolemaa

def bAll (s : ByteArray) (p : Int → Bool) : Bool := s.data.toList.all fun c => p (c.toNat : Int)
theorem bAll_true {s : ByteArray} {p : Int → Bool} (h : ∀ j (hj : j < s.size), p (s[j]'hj).toNat = true) : bAll s p = true := by
  unfold bAll
  rw [List.all_eq_true]
  intro c hc
  obtain ⟨j, hj, rfl⟩ := List.mem_iff_getElem.1 hc
  exact h j (by simpa using hj)
theorem bAll_false {s : ByteArray} {p : Int → Bool} {j : Nat} (hj : j < s.size) (h : p (s[j]'hj).toNat = false) : bAll s p = false := by
  unfold bAll
  rw [List.all_eq_false]
  refine ⟨s[j], ?_, by rw [h]; simp⟩
  have : s[j] = s.data.toList[j]'(by simpa using hj) := by simp [ByteArray.getElem_eq_getElem_data]
  rw [this]
  exact List.getElem_mem _
theorem bAll_get {s : ByteArray} {p : Int → Bool} (h : bAll s p = true) {j : Nat} (hj : j < s.size) : p (s[j]'hj).toNat = true := by
  cases hp : p (s[j]'hj).toNat with
  | true => rfl
  | false => rw [bAll_false hj hp] at h; cases h
def zSmall (z : Int) : Bool := decide (97 ≤ z) && decide (z ≤ 122)
def zFig (z : Int) : Bool := (decide (48 ≤ z) && decide (z ≤ 57)) || z == 95
def zId (z : Int) : Bool := zSmall z || zFig z || (decide (65 ≤ z) && decide (z ≤ 90)) || z == 46 || z == 45
def zWord (z : Int) : Bool := zSmall z || zFig z
def isID (s : ByteArray) : Bool := bAll s zId && decide (1 ≤ s.size) && decide (s.size ≤ 32)
def reserved (s : ByteArray) : Bool := decide (s = ⟨#[117, 115, 101, 114]⟩) || decide (s = ⟨#[116, 104, 105, 115]⟩) || decide (s = ⟨#[110, 97, 109, 101, 115, 112, 97, 99, 101]⟩) || decide (s = ⟨#[114, 101, 108, 97, 116, 105, 111, 110]⟩) || decide (s = ⟨#[115, 99, 111, 112, 101]⟩)
def isWord (s : ByteArray) : Bool := !reserved s && (bAll s zWord && decide (1 ≤ s.size) && decide (s.size ≤ 32)) && (if h : 0 < s.size then zSmall (s[0]'h).toNat else false)

theorem small_spec (z : Int) (R : Rds) : Spec Try.prog 173 [.int .u8 z] R [] fun v H' => v = .bool (zSmall z) ∧ H' = [] := by
  refine Spec.body Try.func173 rfl Try.results173 Try.ntmps173 rfl ?_
  refine .seq ?_
  refine .region ?_
  refine TriOps.q .assign ?_
  refine .nil ?_
  refine seqQ_n ?_
  refine .seq ?_
  refine .region ?_
  refine TriOps.q .move ?_
  refine TriOps.q .geq ?_
  refine TriOps.q .move ?_
  refine TriOps.split (t := 5) rfl (fun g1_2 => ?_) (fun g1_2 => ?_)
  · skip
    refine TriOps.gT g1_2 ?_
    refine TriOps.q .move ?_
    refine TriOps.gT g1_2 ?_
    refine TriOps.q .leq ?_
    refine TriOps.q (.pickTh g1_2) ?_
    refine TriOps.q .assign ?_
    refine .nil ?_
    refine seqQ_n ?_
    refine .ret (retQ_r _ (.one (.tmp rfl)) (.none _) ?_)
    exact ⟨by simp_all [zSmall] <;> omega, rfl⟩
  · skip
    refine TriOps.gF g1_2 ?_
    refine TriOps.gF g1_2 ?_
    refine TriOps.q (.pickFh g1_2) ?_
    refine TriOps.q .assign ?_
    refine .nil ?_
    refine seqQ_n ?_
    refine .ret (retQ_r _ (.one (.tmp rfl)) (.none _) ?_)
    exact ⟨by simp_all [zSmall] <;> omega, rfl⟩
theorem figure_spec (z : Int) (R : Rds) : Spec Try.prog 174 [.int .u8 z] R [] fun v H' => v = .bool (zFig z) ∧ H' = [] := by
  refine Spec.body Try.func174 rfl Try.results174 Try.ntmps174 rfl ?_
  refine .seq ?_
  refine .region ?_
  refine TriOps.q .assign ?_
  refine .nil ?_
  refine seqQ_n ?_
  refine .seq ?_
  refine .region ?_
  refine TriOps.q .move ?_
  refine TriOps.q .geq ?_
  refine TriOps.q .move ?_
  refine TriOps.split (t := 5) rfl (fun g1_2 => ?_) (fun g1_2 => ?_)
  · skip
    refine TriOps.gT g1_2 ?_
    refine TriOps.q .move ?_
    refine TriOps.gT g1_2 ?_
    refine TriOps.q .leq ?_
    refine TriOps.q (.pickTh g1_2) ?_
    refine TriOps.q .move ?_
    refine TriOps.split (t := 9) rfl (fun g1_6 => ?_) (fun g1_6 => ?_)
    · skip
      refine TriOps.gF g1_6 ?_
      refine TriOps.gF g1_6 ?_
      refine TriOps.q (.pickTh g1_6) ?_
      refine TriOps.q .assign ?_
      refine .nil ?_
      refine seqQ_n ?_
      refine .ret (retQ_r _ (.one (.tmp rfl)) (.none _) ?_)
      exact ⟨by simp_all [zFig] <;> omega, rfl⟩
    · skip
      refine TriOps.gT g1_6 ?_
      refine TriOps.q .move ?_
      refine TriOps.gT g1_6 ?_
      refine TriOps.q .eqI ?_
      refine TriOps.q (.pickFh g1_6) ?_
      refine TriOps.q .assign ?_
      refine .nil ?_
      refine seqQ_n ?_
      refine .ret (retQ_r _ (.one (.tmp rfl)) (.none _) ?_)
      exact ⟨by simp_all [zFig] <;> omega, rfl⟩
  · skip
    refine TriOps.gF g1_2 ?_
    refine TriOps.gF g1_2 ?_
    refine TriOps.q (.pickFh g1_2) ?_
    refine TriOps.q .move ?_
    refine TriOps.gt rfl ?_
    refine TriOps.q .move ?_
    refine TriOps.gt rfl ?_
    refine TriOps.q .eqI ?_
    refine TriOps.q .pickF ?_
    refine TriOps.q .assign ?_
    refine .nil ?_
    refine seqQ_n ?_
    refine .ret (retQ_r _ (.one (.tmp rfl)) (.none _) ?_)
    exact ⟨by simp_all [zFig] <;> omega, rfl⟩
theorem id1_spec (z : Int) (R : Rds) : Spec Try.prog 176 [.int .u8 z] R [] fun v H' => v = .bool (zId z) ∧ H' = [] := by
  refine Spec.body Try.func176 rfl Try.results176 Try.ntmps176 rfl ?_
  refine .seq ?_
  refine .region ?_
  refine TriOps.q .assign ?_
  refine .nil ?_
  refine seqQ_n ?_
  refine .seq ?_
  refine .region ?_
  refine TriOps.q .move ?_
  refine TriOps.callR (small_spec z _) (fun v hv => ?_)
  subst hv
  refine TriOps.q .move ?_
  refine TriOps.split (t := 5) rfl (fun g1_2 => ?_) (fun g1_2 => ?_)
  · skip
    refine TriOps.gF g1_2 ?_
    refine TriOps.gF g1_2 ?_
    refine TriOps.q (.pickTh g1_2) ?_
    refine TriOps.q .move ?_
    refine TriOps.gf rfl rfl ?_
    refine TriOps.gf rfl rfl ?_
    refine TriOps.gf rfl rfl ?_
    refine TriOps.gfU rfl ?_
    refine TriOps.gfU rfl ?_
    refine TriOps.gf rfl rfl ?_
    refine TriOps.q .pickT ?_
    refine TriOps.q .move ?_
    refine TriOps.gf rfl rfl ?_
    refine TriOps.gf rfl rfl ?_
    refine TriOps.q .pickT ?_
    refine TriOps.q .move ?_
    refine TriOps.gf rfl rfl ?_
    refine TriOps.gf rfl rfl ?_
    refine TriOps.q .pickT ?_
    refine TriOps.q .assign ?_
    refine .nil ?_
    refine seqQ_n ?_
    refine .ret (retQ_r _ (.one (.tmp rfl)) (.none _) ?_)
    exact ⟨by simp_all [zId] <;> omega, rfl⟩
  · skip
    refine TriOps.gT g1_2 ?_
    refine TriOps.q .move ?_
    refine TriOps.gT g1_2 ?_
    refine TriOps.callR (figure_spec z _) (fun v hv => ?_)
    subst hv
    refine TriOps.q (.pickFh g1_2) ?_
    refine TriOps.q .move ?_
    refine TriOps.split (t := 9) rfl (fun g1_6 => ?_) (fun g1_6 => ?_)
    · skip
      refine TriOps.gF g1_6 ?_
      refine TriOps.gF g1_6 ?_
      refine TriOps.gF g1_6 ?_
      refine TriOps.gfU rfl ?_
      refine TriOps.gfU rfl ?_
      refine TriOps.gF g1_6 ?_
      refine TriOps.q (.pickTh g1_6) ?_
      refine TriOps.q .move ?_
      refine TriOps.gf rfl rfl ?_
      refine TriOps.gf rfl rfl ?_
      refine TriOps.q .pickT ?_
      refine TriOps.q .move ?_
      refine TriOps.gf rfl rfl ?_
      refine TriOps.gf rfl rfl ?_
      refine TriOps.q .pickT ?_
      refine TriOps.q .assign ?_
      refine .nil ?_
      refine seqQ_n ?_
      refine .ret (retQ_r _ (.one (.tmp rfl)) (.none _) ?_)
      exact ⟨by simp_all [zId] <;> omega, rfl⟩
    · skip
      refine TriOps.gT g1_6 ?_
      refine TriOps.q .move ?_
      refine TriOps.gT g1_6 ?_
      refine TriOps.q .geq ?_
      refine TriOps.gT g1_6 ?_
      refine TriOps.q .move ?_
      refine TriOps.split (t := 12) rfl (fun g1_9 => ?_) (fun g1_9 => ?_)
      · skip
        refine TriOps.gT g1_9 ?_
        refine TriOps.q .move ?_
        refine TriOps.gT g1_9 ?_
        refine TriOps.q .leq ?_
        refine TriOps.gT g1_6 ?_
        refine TriOps.q (.pickTh g1_9) ?_
        refine TriOps.q (.pickFh g1_6) ?_
        refine TriOps.q .move ?_
        refine TriOps.split (t := 17) rfl (fun g1_14 => ?_) (fun g1_14 => ?_)
        · skip
          refine TriOps.gF g1_14 ?_
          refine TriOps.gF g1_14 ?_
          refine TriOps.q (.pickTh g1_14) ?_
          refine TriOps.q .move ?_
          refine TriOps.gf rfl rfl ?_
          refine TriOps.gf rfl rfl ?_
          refine TriOps.q .pickT ?_
          refine TriOps.q .assign ?_
          refine .nil ?_
          refine seqQ_n ?_
          refine .ret (retQ_r _ (.one (.tmp rfl)) (.none _) ?_)
          exact ⟨by simp_all [zId] <;> omega, rfl⟩
        · skip
          refine TriOps.gT g1_14 ?_
          refine TriOps.q .move ?_
          refine TriOps.gT g1_14 ?_
          refine TriOps.q .eqI ?_
          refine TriOps.q (.pickFh g1_14) ?_
          refine TriOps.q .move ?_
          refine TriOps.split (t := 21) rfl (fun g1_18 => ?_) (fun g1_18 => ?_)
          · skip
            refine TriOps.gF g1_18 ?_
            refine TriOps.gF g1_18 ?_
            refine TriOps.q (.pickTh g1_18) ?_
            refine TriOps.q .assign ?_
            refine .nil ?_
            refine seqQ_n ?_
            refine .ret (retQ_r _ (.one (.tmp rfl)) (.none _) ?_)
            exact ⟨by simp_all [zId] <;> omega, rfl⟩
          · skip
            refine TriOps.gT g1_18 ?_
            refine TriOps.q .move ?_
            refine TriOps.gT g1_18 ?_
            refine TriOps.q .eqI ?_
            refine TriOps.q (.pickFh g1_18) ?_
            refine TriOps.q .assign ?_
            refine .nil ?_
            refine seqQ_n ?_
            refine .ret (retQ_r _ (.one (.tmp rfl)) (.none _) ?_)
            exact ⟨by simp_all [zId] <;> omega, rfl⟩
      · skip
        refine TriOps.gF g1_9 ?_
        refine TriOps.gF g1_9 ?_
        refine TriOps.gT g1_6 ?_
        refine TriOps.q (.pickFh g1_9) ?_
        refine TriOps.q (.pickFh g1_6) ?_
        refine TriOps.q .move ?_
        refine TriOps.gt rfl ?_
        refine TriOps.q .move ?_
        refine TriOps.gt rfl ?_
        refine TriOps.q .eqI ?_
        refine TriOps.q .pickF ?_
        refine TriOps.q .move ?_
        refine TriOps.split (t := 21) rfl (fun g1_18 => ?_) (fun g1_18 => ?_)
        · skip
          refine TriOps.gF g1_18 ?_
          refine TriOps.gF g1_18 ?_
          refine TriOps.q (.pickTh g1_18) ?_
          refine TriOps.q .assign ?_
          refine .nil ?_
          refine seqQ_n ?_
          refine .ret (retQ_r _ (.one (.tmp rfl)) (.none _) ?_)
          exact ⟨by simp_all [zId] <;> omega, rfl⟩
        · skip
          refine TriOps.gT g1_18 ?_
          refine TriOps.q .move ?_
          refine TriOps.gT g1_18 ?_
          refine TriOps.q .eqI ?_
          refine TriOps.q (.pickFh g1_18) ?_
          refine TriOps.q .assign ?_
          refine .nil ?_
          refine seqQ_n ?_
          refine .ret (retQ_r _ (.one (.tmp rfl)) (.none _) ?_)
          exact ⟨by simp_all [zId] <;> omega, rfl⟩
theorem word1_spec (z : Int) (R : Rds) : Spec Try.prog 172 [.int .u8 z] R [] fun v H' => v = .bool (zWord z) ∧ H' = [] := by
  refine Spec.body Try.func172 rfl Try.results172 Try.ntmps172 rfl ?_
  refine .seq ?_
  refine .region ?_
  refine TriOps.q .assign ?_
  refine .nil ?_
  refine seqQ_n ?_
  refine .seq ?_
  refine .region ?_
  refine TriOps.q .move ?_
  refine TriOps.callR (small_spec z _) (fun v hv => ?_)
  subst hv
  refine TriOps.q .move ?_
  refine TriOps.split (t := 5) rfl (fun g1_2 => ?_) (fun g1_2 => ?_)
  · skip
    refine TriOps.gF g1_2 ?_
    refine TriOps.gF g1_2 ?_
    refine TriOps.q (.pickTh g1_2) ?_
    refine TriOps.q .assign ?_
    refine .nil ?_
    refine seqQ_n ?_
    refine .ret (retQ_r _ (.one (.tmp rfl)) (.none _) ?_)
    exact ⟨by simp_all [zWord] <;> omega, rfl⟩
  · skip
    refine TriOps.gT g1_2 ?_
    refine TriOps.q .move ?_
    refine TriOps.gT g1_2 ?_
    refine TriOps.callR (figure_spec z _) (fun v hv => ?_)
    subst hv
    refine TriOps.q (.pickFh g1_2) ?_
    refine TriOps.q .assign ?_
    refine .nil ?_
    refine seqQ_n ?_
    refine .ret (retQ_r _ (.one (.tmp rfl)) (.none _) ?_)
    exact ⟨by simp_all [zWord] <;> omega, rfl⟩
theorem all_spec (s : ByteArray) (f : FuncId) [e : Ent Try.prog f] (p : Int → Bool) (hf : ∀ z R, Spec Try.prog f [.int .u8 z] R [] fun v H' => v = .bool (p z) ∧ H' = []) (hs : s.size ≤ 9223372036854775807) (R : Rds) :
    Spec Try.prog 171 [.string s, .func (.func f) #[] #[]] R [] fun v H' => v = .bool (bAll s p && decide (1 ≤ s.size) && decide (s.size ≤ 32)) ∧ H' = [] := by
  refine Spec.body Try.func171 rfl Try.results171 Try.ntmps171 rfl ?_
  refine .seq ?_
  refine .region ?_
  refine TriOps.q .assign ?_
  refine .nil ?_
  refine seqQ_n ?_
  refine .seq ?_
  refine .seq ?_
  refine .region ?_
  refine TriOps.q .move ?_
  refine TriOps.q .lenS ?_
  refine TriOps.q .move ?_
  refine .nil ?_
  refine seqQ_n ?_
  refine .block ?_
  refine .loop (X := Nat) (fun i => i ≤ s.size ∧ ∀ j (hj : j < s.size), j < i → p (s[j]'hj).toNat = true) (fun i => [(0, .string s), (1, .func (.func f) #[] #[]), (7, .int .i64 (s.size : Nat)), (8, .int .i64 (i : Nat))]) (fun _ => []) (fun i => s.size - i) 0 ⟨by omega, by omega⟩ (((((EnvLe.nil _).cons rfl).cons rfl).cons rfl).cons rfl) (HLe.refl _) ?_
  rintro i ⟨hi, hp⟩
  refine .seq ?_
  refine .region ?_
  refine TriOps.q .lss ?_
  refine .nil ?_
  refine seqQ_n ?_
  refine .seq ?_
  refine .cond rfl (fun h1 => ?_) (fun h1 => ?_)
  · skip
    have hlt : i < s.size := by simp at h1; omega
    refine .skip ?_
    refine seqQ_n ?_
    refine .seq ?_
    refine .block ?_
    refine .seq ?_
    refine .region ?_
    refine TriOps.q .move ?_
    refine TriOps.q .assign ?_
    refine .nil ?_
    refine seqQ_n ?_
    refine .seq ?_
    refine .region ?_
    refine TriOps.q .move ?_
    refine TriOps.q .move ?_
    refine TriOps.q .move ?_
    refine TriOps.q (.indexS i hlt) ?_
    refine TriOps.callRV (first := []) (captured := []) (vs := [.int .u8 (s[i]'hlt).toNat]) (hf _ _) (fun v hv => ?_)
    subst hv
    refine TriOps.q .not ?_
    refine .nil ?_
    refine seqQ_n ?_
    refine .cond rfl (fun h2 => ?_) (fun h2 => ?_)
    · skip
      refine .seq ?_
      refine .region ?_
      refine TriOps.q .assign ?_
      refine .nil ?_
      refine seqQ_n ?_
      refine .ret (blkQ_r (seqQ_r (loopQ_r (blkQ_r (seqQ_r (retQ_r _ (.one (.tmp rfl)) (.none _) ?_))))))
      have := bAll_false hlt (p := p) (by simpa using h2)
      exact ⟨by simp [this], rfl⟩
    · skip
      refine .skip ?_
      refine blkQ_n (seqQ_n ?_)
      refine .region ?_
      refine TriOps.q (.inc (n := i) (by omega)) ?_
      refine TriOps.q .move ?_
      refine .nil ?_
      exact loopQ_i (i + 1) ⟨by omega, fun j hj hji => by
        rcases Nat.lt_or_ge j i with hh | hh
        · exact hp j hj hh
        · obtain rfl : j = i := by omega
          simpa using h2⟩ (by omega) (((((EnvLe.nil _).cons rfl).cons rfl).cons rfl).cons rfl) (HLe.refl _)
  · skip
    have hb : bAll s p = true := bAll_true fun j hj => hp j hj (by simp at h1; omega)
    refine .exit (seqQ_x (loopQ_x (blkQ_x ?_)))
    refine seqQ_n ?_
    refine .seq ?_
    refine .region ?_
    refine TriOps.q .move ?_
    refine TriOps.q .lenS ?_
    refine TriOps.q .geq ?_
    refine TriOps.q .move ?_
    refine TriOps.split (t := 21) rfl (fun g7_3 => ?_) (fun g7_3 => ?_)
    · skip
      refine TriOps.gT g7_3 ?_
      refine TriOps.q .move ?_
      refine TriOps.gT g7_3 ?_
      refine TriOps.q .lenS ?_
      refine TriOps.gT g7_3 ?_
      refine TriOps.q .leq ?_
      refine TriOps.q (.pickTh g7_3) ?_
      refine TriOps.q .assign ?_
      refine .nil ?_
      refine seqQ_n ?_
      refine .ret (retQ_r _ (.one (.tmp rfl)) (.none _) ?_)
      exact ⟨by rw [Value.bool.injEq, Bool.eq_iff_iff]; simp [hb] at *; omega, rfl⟩
    · skip
      refine TriOps.gF g7_3 ?_
      refine TriOps.gF g7_3 ?_
      refine TriOps.gF g7_3 ?_
      refine TriOps.q (.pickFh g7_3) ?_
      refine TriOps.q .assign ?_
      refine .nil ?_
      refine seqQ_n ?_
      refine .ret (retQ_r _ (.one (.tmp rfl)) (.none _) ?_)
      exact ⟨by rw [Value.bool.injEq, Bool.eq_iff_iff]; simp [hb] at *; omega, rfl⟩
theorem id_spec (s : ByteArray) (hs : s.size ≤ 9223372036854775807) (R : Rds) : Spec Try.prog 170 [.string s] R [] fun v H' => v = .bool (isID s) ∧ H' = [] := by
  refine Spec.body Try.func170 rfl Try.results170 Try.ntmps170 rfl ?_
  refine .seq ?_
  refine .region ?_
  refine TriOps.q .assign ?_
  refine .nil ?_
  refine seqQ_n ?_
  refine .seq ?_
  refine .region ?_
  refine TriOps.q .move ?_
  refine TriOps.callR (all_spec s 176 zId id1_spec hs _) (fun v hv => ?_)
  subst hv
  refine TriOps.q .assign ?_
  refine .nil ?_
  refine seqQ_n ?_
  refine .ret (retQ_r _ (.one (.tmp rfl)) (.none _) ?_)
  exact ⟨rfl, rfl⟩
theorem word_spec (s : ByteArray) (hs : s.size ≤ 9223372036854775807) (R : Rds) : Spec Try.prog 162 [.string s] R [] fun v H' => v = .bool (isWord s) ∧ H' = [] := by
  refine Spec.body Try.func162 rfl Try.results162 Try.ntmps162 rfl ?_
  refine .seq ?_
  refine .region ?_
  refine TriOps.q .assign ?_
  refine .nil ?_
  refine seqQ_n ?_
  refine .seq ?_
  refine .seq ?_
  refine .region ?_
  refine TriOps.q .move ?_
  refine .nil ?_
  refine seqQ_n ?_
  refine .block ?_
  refine .seq ?_
  refine .seq ?_
  refine .region ?_
  refine TriOps.q .eqS ?_
  refine TriOps.q .assign ?_
  refine .nil ?_
  refine seqQ_n ?_
  refine Tri.cut (X := Unit) (fun _ => True) (fun _ => [(0, .string s), (4, .bool (reserved s))]) (fun _ => []) ?_ ?_
  ·
    refine .cond rfl (fun h1 => ?_) (fun h1 => ?_)
    · skip
      refine .skip ?_
      refine joinQ_n () trivial ?_ (HLe.refl _)
      first
        | (simp only [reserved, h1, h2, h3, h4, Bool.false_or]; exact (((EnvLe.nil _).cons rfl).cons rfl))
        | (simp only [reserved, h1, h2, h3, h4, Bool.false_or, Bool.true_or]; exact (((EnvLe.nil _).cons rfl).cons rfl))
        | (simp only [reserved, h1, h2, h3, Bool.false_or, Bool.true_or]; exact (((EnvLe.nil _).cons rfl).cons rfl))
        | (simp only [reserved, h1, h2, Bool.false_or, Bool.true_or]; exact (((EnvLe.nil _).cons rfl).cons rfl))
        | (simp only [reserved, h1, Bool.true_or]; exact (((EnvLe.nil _).cons rfl).cons rfl))
    · skip
      refine .seq ?_
      refine .region ?_
      refine TriOps.q .eqS ?_
      refine TriOps.q .assign ?_
      refine .nil ?_
      refine seqQ_n ?_
      refine .cond rfl (fun h2 => ?_) (fun h2 => ?_)
      · skip
        refine .skip ?_
        refine joinQ_n () trivial ?_ (HLe.refl _)
        first
          | (simp only [reserved, h1, h2, h3, h4, Bool.false_or]; exact (((EnvLe.nil _).cons rfl).cons rfl))
          | (simp only [reserved, h1, h2, h3, h4, Bool.false_or, Bool.true_or]; exact (((EnvLe.nil _).cons rfl).cons rfl))
          | (simp only [reserved, h1, h2, h3, Bool.false_or, Bool.true_or]; exact (((EnvLe.nil _).cons rfl).cons rfl))
          | (simp only [reserved, h1, h2, Bool.false_or, Bool.true_or]; exact (((EnvLe.nil _).cons rfl).cons rfl))
          | (simp only [reserved, h1, Bool.true_or]; exact (((EnvLe.nil _).cons rfl).cons rfl))
      · skip
        refine .seq ?_
        refine .region ?_
        refine TriOps.q .eqS ?_
        refine TriOps.q .assign ?_
        refine .nil ?_
        refine seqQ_n ?_
        refine .cond rfl (fun h3 => ?_) (fun h3 => ?_)
        · skip
          refine .skip ?_
          refine joinQ_n () trivial ?_ (HLe.refl _)
          first
            | (simp only [reserved, h1, h2, h3, h4, Bool.false_or]; exact (((EnvLe.nil _).cons rfl).cons rfl))
            | (simp only [reserved, h1, h2, h3, h4, Bool.false_or, Bool.true_or]; exact (((EnvLe.nil _).cons rfl).cons rfl))
            | (simp only [reserved, h1, h2, h3, Bool.false_or, Bool.true_or]; exact (((EnvLe.nil _).cons rfl).cons rfl))
            | (simp only [reserved, h1, h2, Bool.false_or, Bool.true_or]; exact (((EnvLe.nil _).cons rfl).cons rfl))
            | (simp only [reserved, h1, Bool.true_or]; exact (((EnvLe.nil _).cons rfl).cons rfl))
        · skip
          refine .seq ?_
          refine .region ?_
          refine TriOps.q .eqS ?_
          refine TriOps.q .assign ?_
          refine .nil ?_
          refine seqQ_n ?_
          refine .cond rfl (fun h4 => ?_) (fun h4 => ?_)
          · skip
            refine .skip ?_
            refine joinQ_n () trivial ?_ (HLe.refl _)
            first
              | (simp only [reserved, h1, h2, h3, h4, Bool.false_or]; exact (((EnvLe.nil _).cons rfl).cons rfl))
              | (simp only [reserved, h1, h2, h3, h4, Bool.false_or, Bool.true_or]; exact (((EnvLe.nil _).cons rfl).cons rfl))
              | (simp only [reserved, h1, h2, h3, Bool.false_or, Bool.true_or]; exact (((EnvLe.nil _).cons rfl).cons rfl))
              | (simp only [reserved, h1, h2, Bool.false_or, Bool.true_or]; exact (((EnvLe.nil _).cons rfl).cons rfl))
              | (simp only [reserved, h1, Bool.true_or]; exact (((EnvLe.nil _).cons rfl).cons rfl))
          · skip
            refine .region ?_
            refine TriOps.q .eqS ?_
            refine TriOps.q .assign ?_
            refine .nil ?_
            refine joinQ_n () trivial ?_ (HLe.refl _)
            first
              | (simp only [reserved, h1, h2, h3, h4, Bool.false_or]; exact (((EnvLe.nil _).cons rfl).cons rfl))
              | (simp only [reserved, h1, h2, h3, h4, Bool.false_or, Bool.true_or]; exact (((EnvLe.nil _).cons rfl).cons rfl))
              | (simp only [reserved, h1, h2, h3, Bool.false_or, Bool.true_or]; exact (((EnvLe.nil _).cons rfl).cons rfl))
              | (simp only [reserved, h1, h2, Bool.false_or, Bool.true_or]; exact (((EnvLe.nil _).cons rfl).cons rfl))
              | (simp only [reserved, h1, Bool.true_or]; exact (((EnvLe.nil _).cons rfl).cons rfl))
  · intro x hx
    refine seqQ_n ?_
    refine .cond rfl (fun h5 => ?_) (fun h5 => ?_)
    · skip
      refine .seq ?_
      refine .region ?_
      refine TriOps.q .assign ?_
      refine .nil ?_
      refine seqQ_n ?_
      refine .ret (blkQ_r (seqQ_r (retQ_r _ (.one (.tmp rfl)) (.none _) ?_)))
      refine ⟨?_, rfl⟩
      first
        | (simp [isWord, h5]; done)
        | (rw [isWord, h5, g8_2, dif_pos hpos, Bool.not_false, Bool.true_and, Bool.true_and])
        | (rw [isWord, g8_2, Bool.and_false, Bool.false_and])
    · skip
      refine .skip ?_
      refine blkQ_n (seqQ_n ?_)
      refine .seq ?_
      refine .region ?_
      refine TriOps.q .move ?_
      refine TriOps.callR (all_spec s 172 zWord word1_spec hs _) (fun v hv => ?_)
      subst hv
      refine TriOps.q .move ?_
      refine TriOps.split (t := 12) rfl (fun g8_2 => ?_) (fun g8_2 => ?_)
      · skip
        refine TriOps.gT g8_2 ?_
        refine TriOps.q .move ?_
        refine TriOps.gT g8_2 ?_
        have hpos : 0 < s.size := by simp at g8_2; omega
        refine TriOps.q (.indexS 0 hpos) ?_
        refine TriOps.gT g8_2 ?_
        refine TriOps.callR (small_spec _ _) (fun v hv => ?_)
        subst hv
        refine TriOps.q (.pickTh g8_2) ?_
        refine TriOps.q .assign ?_
        refine .nil ?_
        refine seqQ_n ?_
        refine .ret (retQ_r _ (.one (.tmp rfl)) (.none _) ?_)
        refine ⟨?_, rfl⟩
        first
          | (simp [isWord, h5]; done)
          | (rw [isWord, h5, g8_2, dif_pos hpos, Bool.not_false, Bool.true_and, Bool.true_and])
          | (rw [isWord, g8_2, Bool.and_false, Bool.false_and])
      · skip
        refine TriOps.gF g8_2 ?_
        refine TriOps.gF g8_2 ?_
        refine TriOps.gF g8_2 ?_
        refine TriOps.q (.pickFh g8_2) ?_
        refine TriOps.q .assign ?_
        refine .nil ?_
        refine seqQ_n ?_
        refine .ret (retQ_r _ (.one (.tmp rfl)) (.none _) ?_)
        refine ⟨?_, rfl⟩
        first
          | (simp [isWord, h5]; done)
          | (rw [isWord, h5, g8_2, dif_pos hpos, Bool.not_false, Bool.true_and, Bool.true_and])
          | (rw [isWord, g8_2, Bool.and_false, Bool.false_and])
theorem isWord_short {s : ByteArray} (h : s.size < 1 ∨ 32 < s.size) : isWord s = false := by
  unfold isWord
  rcases h with h | h
  · have : decide (1 ≤ s.size) = false := decide_eq_false (by omega)
    simp [this]
  · have : decide (s.size ≤ 32) = false := decide_eq_false (by omega)
    simp [this]
theorem isWord_first {s : ByteArray} (hp : 0 < s.size) (h : zSmall (s[0]'hp).toNat = false) : isWord s = false := by
  unfold isWord
  rw [dif_pos hp, h, Bool.and_false]
theorem isWord_all {s : ByteArray} (h : bAll s zWord = false) : isWord s = false := by
  unfold isWord
  simp [h]
theorem isWord_of {s : ByteArray} (hp : 0 < s.size) (h1 : s.size ≤ 32) (h2 : zSmall (s[0]'hp).toNat = true) (h3 : bAll s zWord = true) : isWord s = !reserved s := by
  unfold isWord
  have e1 : decide (1 ≤ s.size) = true := decide_eq_true (by omega)
  have e2 : decide (s.size ≤ 32) = true := decide_eq_true h1
  rw [dif_pos hp, h2, h3, e1, e2]
  simp
end Go.Proofs.Ytkepgbimlolemaa
