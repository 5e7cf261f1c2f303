/- What the law 'GrantLoads' uses of this prover's engine, facts and walks. No condition. -/
import Derived.Test.YtpmhgpjcladbkaaGreatDoorKGrantLoadsB
import Derived.Test.YtpmhgpjcladbkaaGreatDoorKGrantLoadsF
import Derived.Test.YtpmhgpjcladbkaaGreatDoorKGrantLoadsG
set_option linter.unusedVariables false
namespace Go.Proofs.YtpmhgpjcladbkaaGreatDoor
theorem Spec.ofCalls {P : Program} {f : FuncId} {args : List Value} {v : Value} (h : ∀ w, Calls P f args.toArray w fun e w' => e = .returned v ∧ w' = w) (R : Rds) : Spec P f args R [] fun u H' => u = v ∧ H' = [] :=
  fun w _ _ => (h w).mono fun e w' ⟨h1, h2⟩ => ⟨v, [], h1, ⟨rfl, rfl⟩, by subst h2; exact ⟨by simp, by simp⟩, by subst h2; exact .refl _ _⟩
def scmp (a b : ByteArray) : Int := Lib.compareBytes a.data.toList b.data.toList
theorem cb_lt : ∀ (a b : List UInt8), Lib.compareBytes a b < 0 ↔ Op.bytesLess a b = true
  | [], [] => by simp [Lib.compareBytes, Op.bytesLess]
  | [], _ :: _ => by simp [Lib.compareBytes, Op.bytesLess]
  | _ :: _, [] => by simp [Lib.compareBytes, Op.bytesLess]
  | x :: a, y :: b => by
    have ih := cb_lt a b
    simp only [Lib.compareBytes, Op.bytesLess, Bool.or_eq_true, Bool.and_eq_true, decide_eq_true_eq, beq_iff_eq]
    by_cases h1 : x < y
    · simp [h1]
    · by_cases h2 : y < x
      · have : x ≠ y := fun e => by subst e; exact UInt8.lt_irrefl _ h2
        simp [h1, h2, this]
      · have : x = y := UInt8.le_antisymm (UInt8.not_lt.1 h2) (UInt8.not_lt.1 h1)
        subst this
        simp [h1, ih]
theorem cb_gt : ∀ (a b : List UInt8), 0 < Lib.compareBytes a b ↔ Op.bytesLess b a = true
  | [], [] => by simp [Lib.compareBytes, Op.bytesLess]
  | [], _ :: _ => by simp [Lib.compareBytes, Op.bytesLess]
  | _ :: _, [] => by simp [Lib.compareBytes, Op.bytesLess]
  | x :: a, y :: b => by
    have ih := cb_gt a b
    simp only [Lib.compareBytes, Op.bytesLess, Bool.or_eq_true, Bool.and_eq_true, decide_eq_true_eq, beq_iff_eq]
    by_cases h1 : x < y
    · have h2 : ¬ y < x := fun h => UInt8.lt_irrefl _ (UInt8.lt_trans h1 h)
      have : ¬ y = x := fun e => by subst e; exact UInt8.lt_irrefl _ h1
      simp [h1, h2, this]
    · by_cases h2 : y < x
      · simp [h1, h2]
      · have : x = y := UInt8.le_antisymm (UInt8.not_lt.1 h2) (UInt8.not_lt.1 h1)
        subst this
        simp [h1, ih]
theorem cb_eq : ∀ (a b : List UInt8), Lib.compareBytes a b = 0 ↔ a = b
  | [], [] => by simp [Lib.compareBytes]
  | [], _ :: _ => by simp [Lib.compareBytes]
  | _ :: _, [] => by simp [Lib.compareBytes]
  | x :: a, y :: b => by
    have ih := cb_eq a b
    simp only [Lib.compareBytes, List.cons.injEq]
    by_cases h1 : x < y
    · have : ¬ x = y := fun e => by subst e; exact UInt8.lt_irrefl _ h1
      simp [h1, this]
    · by_cases h2 : y < x
      · have : ¬ x = y := fun e => by subst e; exact UInt8.lt_irrefl _ h2
        simp [h1, h2, this]
      · have : x = y := UInt8.le_antisymm (UInt8.not_lt.1 h2) (UInt8.not_lt.1 h1)
        subst this
        simp [h1, ih]
theorem bl_trans : ∀ (a b c : List UInt8), Op.bytesLess a b = true → Op.bytesLess b c = true → Op.bytesLess a c = true
  | _, [], _, h, _ => by simp [Op.bytesLess] at h
  | _, _ :: _, [], _, h => by simp [Op.bytesLess] at h
  | [], _ :: _, _ :: _, _, _ => by simp [Op.bytesLess]
  | x :: a, y :: b, z :: c, h1, h2 => by
    simp only [Op.bytesLess, Bool.or_eq_true, Bool.and_eq_true, decide_eq_true_eq, beq_iff_eq] at h1 h2 ⊢
    rcases h1 with h1 | ⟨rfl, h1⟩
    · rcases h2 with h2 | ⟨rfl, h2⟩
      · exact .inl (UInt8.lt_trans h1 h2)
      · exact .inl h1
    · rcases h2 with h2 | ⟨rfl, h2⟩
      · exact .inl h2
      · exact .inr ⟨rfl, bl_trans a b c h1 h2⟩
theorem sLt_iff {a b : ByteArray} : sLt a b = true ↔ scmp a b < 0 := by
  unfold sLt scmp; rw [ByteArray.toList_eq, ByteArray.toList_eq, cb_lt]
theorem sLt_iff' {a b : ByteArray} : sLt b a = true ↔ 0 < scmp a b := by
  unfold sLt scmp; rw [ByteArray.toList_eq, ByteArray.toList_eq, cb_gt]
theorem scmp_eq {a b : ByteArray} : scmp a b = 0 ↔ a = b := by
  unfold scmp
  rw [cb_eq]
  exact ⟨fun h => ByteArray.ext (Array.toList_inj.1 h), fun h => by rw [h]⟩
theorem sLt_irr (a : ByteArray) : sLt a a = false := by
  cases h : sLt a a with
  | false => rfl
  | true => have := sLt_iff.1 h; rw [scmp_eq.2 rfl] at this; omega
theorem sLt_trans {a b c : ByteArray} (h1 : sLt a b = true) (h2 : sLt b c = true) : sLt a c = true := by
  unfold sLt at *; exact bl_trans _ _ _ h1 h2
theorem sLt_conn {a b : ByteArray} (h1 : sLt a b = false) (h2 : sLt b a = false) : a = b := by
  refine scmp_eq.1 ?_
  rcases Int.lt_trichotomy (scmp a b) 0 with h | h | h
  · rw [sLt_iff.2 h] at h1; cases h1
  · exact h
  · rw [sLt_iff'.2 h] at h2; cases h2
theorem sLt_so : SO sLt := ⟨sLt_irr, fun _ _ _ => sLt_trans, fun x y z h1 h2 => by
  cases h : sLt x z with
  | false => rfl
  | true =>
    cases h3 : sLt y x with
    | true => rw [sLt_trans h3 h] at h2; cases h2
    | false => have := sLt_conn h1 h3; subst this; rw [h] at h2; cases h2⟩
theorem compare_spec (a b : ByteArray) (R : Rds) : Spec Tryz.prog 70 [.string a, .string b] R [] fun v H' => v = .int .i64 (scmp a b) ∧ H' = [] :=
  Spec.ofCalls (Tryz.strings_Compare a b) R
def icmp (a b : Int) : Int := if a < b then -1 else if b < a then 1 else 0
def orI : List Int → Int
  | [] => 0
  | x :: l => if x = 0 then orI l else x
def encI (x : Int) : List Value := [.int .i64 x]
def encS (s : ByteArray) : List Value := [.string s]
instance keyS : KeyT Tryz.prog 9 (fun s : ByteArray => .string s) := KeyT.str fU9 fA9
theorem orI_skip {l : List Int} {i : Nat} (h : ∀ j x, j < i → l[j]? = some x → x = 0) : orI l = orI (l.drop i) := by
  induction i generalizing l with
  | zero => simp
  | succ i ih =>
    cases l with
    | nil => simp
    | cons x l =>
      have : x = 0 := h 0 x (by omega) rfl
      subst this
      simp only [orI, if_true, List.drop_succ_cons]
      exact ih fun j x hj hx => h (j + 1) x (by omega) (by simpa using hx)
theorem or_spec (v : Value) (l : List Int) (R : Rds) (h : RS R 1 encI v l) : Spec Tryz.prog 106 [v] R [] fun u H' => u = .int .i64 (orI l) ∧ H' = [] := by
  have hle := h.le
  refine Spec.body Tryz.func106 rfl Tryz.results106 Tryz.ntmps106 rfl ?_
  refine .seq (.region ?_)
  refine .q .assign ?_
  refine .nil (seqQ_n ?_)
  refine .seq (.region ?_)
  refine .q .assign ?_
  refine .nil (seqQ_n ?_)
  refine .seq ?_
  refine .seq (.region ?_)
  refine .q .move ?_
  refine .q (.lenR h) ?_
  refine .q .move ?_
  refine .nil (seqQ_n ?_)
  refine .block ?_
  refine .loop (X := Nat) (fun i => i ≤ l.length ∧ ∀ j x, j < i → l[j]? = some x → x = 0) (fun i => [(3, .int .i64 0), (6, v), (7, .int .i64 l.length), (8, .int .i64 (i : Nat))]) (fun _ => []) (fun i => l.length - i) 0 ⟨by omega, by omega⟩ (((((EnvLe.nil _).cons rfl).cons rfl).cons rfl).cons rfl) (HLe.refl _) ?_
  rintro i ⟨hi, hz⟩
  refine .seq (.region ?_)
  refine .q .lss ?_
  refine .nil (seqQ_n ?_)
  refine .seq ?_
  refine .cond rfl (fun h1 => ?_) (fun h1 => ?_)
  have hlt : i < l.length := by simp at h1; omega
  obtain ⟨z, hzz⟩ : ∃ z, l[i]? = some z := ⟨_, List.getElem?_eq_getElem hlt⟩
  refine .skip ?_
  refine seqQ_n ?_
  refine .seq ?_
  refine .block ?_
  refine .seq (.region ?_)
  refine TriOps.indexR i h hzz (fun pz => ?_)
  refine .q (.load1 rfl) ?_
  refine .q .assign ?_
  refine .nil (seqQ_n ?_)
  refine .seq (.region ?_)
  refine .q .move ?_
  refine .q .move ?_
  refine .q .neI ?_
  refine .nil (seqQ_n ?_)
  refine .cond rfl (fun h2 => ?_) (fun h2 => ?_)
  refine .seq (.region ?_)
  refine .q .move ?_
  refine .q .assign ?_
  refine .nil (seqQ_n ?_)
  refine .ret (blkQ_r (seqQ_r (loopQ_r (blkQ_r (seqQ_r (retQ_r _ (.one (.tmp rfl)) (.none _) ?_))))))
  · refine ⟨?_, rfl⟩
    have h2' : z ≠ 0 := by simpa using h2
    rw [orI_skip hz, List.drop_eq_getElem_cons hlt]
    rw [List.getElem?_eq_getElem hlt] at hzz
    cases hzz
    simp [orI, h2']
  refine .skip ?_
  refine blkQ_n (seqQ_n ?_)
  refine .region ?_
  refine .q (.inc (n := i) (by omega)) ?_
  refine .q .move ?_
  refine .nil ?_
  · exact loopQ_i (i + 1) ⟨by omega, fun j x hj hx => by
      rcases Nat.lt_or_ge j i with hh | hh
      · exact hz j x hh hx
      · obtain rfl : j = i := by omega
        rw [hzz] at hx; cases hx; simpa using h2⟩ (by omega) (((((EnvLe.nil _).cons rfl).cons rfl).cons rfl).cons rfl) (HLe.refl _)
  refine .exit (seqQ_x (loopQ_x (blkQ_x ?_)))
  refine seqQ_n ?_
  refine .seq (.region ?_)
  refine .q .move ?_
  refine .q .assign ?_
  refine .nil (seqQ_n ?_)
  refine .ret (retQ_r _ (.one (.tmp rfl)) (.none _) ?_)
  · refine ⟨?_, rfl⟩
    have : i = l.length := by simp at h1; omega
    rw [orI_skip hz, this]; simp [orI]
theorem isNaN64_spec (a : Int) (R : Rds) : Spec Tryz.prog 343 [.int .i64 a] R [] fun u H' => u = .bool false ∧ H' = [] := by
  refine Spec.body Tryz.func343 rfl Tryz.results343 Tryz.ntmps343 rfl ?_
  refine .seq (.region ?_)
  refine .q .assign ?_
  refine .nil (seqQ_n ?_)
  refine .seq (.region ?_)
  refine .q .move ?_
  refine .q .move ?_
  refine .q .neI ?_
  refine .q .assign ?_
  refine .nil (seqQ_n ?_)
  refine .ret (retQ_r _ (.one (.tmp rfl)) (.none _) ?_)
  · exact ⟨by simp, rfl⟩
theorem compare64_spec (a b : Int) (R : Rds) : Spec Tryz.prog 342 [.int .i64 a, .int .i64 b] R [] fun u H' => u = .int .i64 (icmp a b) ∧ H' = [] := by
  refine Spec.body Tryz.func342 rfl Tryz.results342 Tryz.ntmps342 rfl ?_
  refine .seq (.region ?_)
  refine .q .assign ?_
  refine .nil (seqQ_n ?_)
  refine .seq (.region ?_)
  refine .q .move ?_
  refine TriOps.callR (isNaN64_spec a _) (fun v hv => ?_)
  subst hv
  refine .q .assign ?_
  refine .nil (seqQ_n ?_)
  refine .seq (.region ?_)
  refine .q .move ?_
  refine TriOps.callR (isNaN64_spec b _) (fun v hv => ?_)
  subst hv
  refine .q .assign ?_
  refine .nil (seqQ_n ?_)
  refine .seq ?_
  refine .seq (.region ?_)
  refine .q .move ?_
  refine .nil (seqQ_n ?_)
  refine .condF ?_
  refine .skip ?_
  refine seqQ_n ?_
  refine .seq ?_
  refine .seq (.region ?_)
  refine .q .move ?_
  refine .nil (seqQ_n ?_)
  refine .condF ?_
  refine .skip ?_
  refine seqQ_n ?_
  refine .seq ?_
  refine .seq (.region ?_)
  refine .q .move ?_
  refine .q .move ?_
  refine .q .lss ?_
  refine .nil (seqQ_n ?_)
  refine .cond rfl (fun h4 => ?_) (fun h4 => ?_)
  refine .seq (.region ?_)
  refine .q .assign ?_
  refine .nil (seqQ_n ?_)
  refine .ret (seqQ_r (retQ_r _ (.one (.tmp rfl)) (.none _) ?_))
  · refine ⟨?_, rfl⟩
    simp at h4
    try simp at h5
    unfold icmp
    congr 1
    split
    · first | rfl | omega
    · first | rfl | (exfalso; omega) | (split <;> first | rfl | omega)
  refine .skip ?_
  refine seqQ_n ?_
  refine .seq ?_
  refine .seq (.region ?_)
  refine .q .move ?_
  refine .q .move ?_
  refine .q .gtr ?_
  refine .nil (seqQ_n ?_)
  refine .cond rfl (fun h5 => ?_) (fun h5 => ?_)
  refine .seq (.region ?_)
  refine .q .assign ?_
  refine .nil (seqQ_n ?_)
  refine .ret (seqQ_r (retQ_r _ (.one (.tmp rfl)) (.none _) ?_))
  · refine ⟨?_, rfl⟩
    simp at h4
    try simp at h5
    unfold icmp
    congr 1
    split
    · first | rfl | omega
    · first | rfl | (exfalso; omega) | (split <;> first | rfl | omega)
  refine .skip ?_
  refine seqQ_n ?_
  refine .seq (.region ?_)
  refine .q .assign ?_
  refine .nil (seqQ_n ?_)
  refine .ret (retQ_r _ (.one (.tmp rfl)) (.none _) ?_)
  · refine ⟨?_, rfl⟩
    simp at h4
    try simp at h5
    unfold icmp
    congr 1
    split
    · first | rfl | omega
    · first | rfl | (exfalso; omega) | (split <;> first | rfl | omega)
end Go.Proofs.YtpmhgpjcladbkaaGreatDoor
set_option linter.unusedVariables false
namespace Go.Proofs.YtpmhgpjcladbkaaGreatDoor
section
variable {κ β : Type} [DecidableEq κ]
def kdel (k : κ) (A : List (κ × β)) : List (κ × β) := A.filter fun p => decide (p.1 ≠ k)
def kset (k : κ) (x : β) (A : List (κ × β)) : List (κ × β) := kdel k A ++ [(k, x)]
theorem kdel_perm {k : κ} {A B : List (κ × β)} (h : A.Perm B) : (kdel k A).Perm (kdel k B) := h.filter _
theorem kset_perm {k : κ} {x : β} {A B : List (κ × β)} (h : A.Perm B) : (kset k x A).Perm (kset k x B) := (kdel_perm h).append_right _
theorem kdel_none {k : κ} {A : List (κ × β)} (h : k ∉ A.map (·.1)) : kdel k A = A := by
  unfold kdel
  rw [List.filter_eq_self]
  intro p hp
  simp only [decide_eq_true_eq]
  exact fun e => h (e ▸ List.mem_map_of_mem hp)
theorem kdel_cons {k : κ} {x : β} {A : List (κ × β)} (h : k ∉ A.map (·.1)) : kdel k ((k, x) :: A) = A := by
  have := kdel_none h
  unfold kdel at *
  rw [List.filter_cons, if_neg (by simp)]
  exact this
theorem kdel_mid {k : κ} {x : β} {A B : List (κ × β)} (hn : ((A ++ (k, x) :: B).map (·.1)).Nodup) : kdel k (A ++ (k, x) :: B) = A ++ B := by
  simp only [List.map_append, List.map_cons, List.nodup_append, List.nodup_cons, List.mem_cons] at hn
  obtain ⟨_, ⟨h2, _⟩, h3⟩ := hn
  have e1 : kdel k A = A := kdel_none fun hm => h3 k hm k (.inl rfl) rfl
  have e2 : kdel k ((k, x) :: B) = B := kdel_cons h2
  unfold kdel at *
  rw [List.filter_append, e1, e2]
theorem kset_mid {k : κ} {x x' : β} {A B : List (κ × β)} (hn : ((A ++ (k, x) :: B).map (·.1)).Nodup) : (A ++ (k, x') :: B).Perm (kset k x' (A ++ (k, x) :: B)) := by
  unfold kset
  rw [kdel_mid hn]
  have h1 : (A ++ (k, x') :: B).Perm ((k, x') :: (A ++ B)) := List.perm_middle
  have h2 : ((A ++ B) ++ [(k, x')]).Perm ((k, x') :: (A ++ B)) := by simpa using (List.perm_middle (a := (k, x')) (l₁ := A ++ B) (l₂ := []))
  exact h1.trans h2.symm
theorem mget_perm {k : κ} {A B : List (κ × β)} (h : A.Perm B) (hn : (A.map (·.1)).Nodup) : mget k A = mget k B := by
  have hn' : (B.map (·.1)).Nodup := (h.map (·.1)).nodup_iff.1 hn
  cases h1 : mget k A with
  | some x => exact (mget_of_mem hn' (h.mem_iff.1 (mget_some h1))).symm
  | none =>
    rw [mget_none] at h1
    refine (mget_none.2 fun hm => h1 ?_).symm
    exact (h.map (·.1)).mem_iff.2 hm
end
end Go.Proofs.YtpmhgpjcladbkaaGreatDoor
set_option linter.unusedVariables false
namespace Go.Proofs.YtpmhgpjcladbkaaGreatDoor
structure XE where
  b : Nat
  key : ByteArray
  at_ : Int
def XE.cells (e : XE) (i : Nat) : List Value := [.string e.key, .int .i64 e.at_, .int .i64 i]
def XE.obj (e : XE) (i : Nat) : Obj := .cells (e.cells i).toArray 182 (0, 0)
abbrev XE.ptr (e : XE) : Value := .pointer (some ⟨e.b, 0, none⟩)
def encP (e : XE) : List Value := [e.ptr]
def entSeg (L : List XE) : Seg := L.zipIdx.map fun p => (p.1.b, p.1.obj p.2)
def ecmp (e f : XE) : Int := orI [icmp e.at_ f.at_, scmp e.key f.key]
def elt (e f : XE) : Bool := decide (ecmp e f < 0)
theorem entSeg_get (L : List XE) (j : Nat) : (entSeg L)[j]? = L[j]?.map fun e => (e.b, e.obj j) := by
  simp [entSeg, List.getElem?_zipIdx]
  cases L[j]? <;> rfl
theorem entSeg_length (L : List XE) : (entSeg L).length = L.length := by simp [entSeg]
theorem entSeg_mem {L : List XE} {i : Nat} {e : XE} (h : L[i]? = some e) : (e.b, e.obj i) ∈ entSeg L := by
  refine List.mem_of_getElem? (i := i) ?_
  rw [entSeg_get, h]; rfl
theorem entSeg_ids (L : List XE) : (entSeg L).map (·.1) = L.map (·.b) := by
  apply List.ext_getElem?
  intro j
  rw [List.getElem?_map, entSeg_get, List.getElem?_map]
  cases L[j]? <;> rfl
/-- The tree's memory: its field, its places, its entries. -/
def TI (q : Nat) (vm : Value) (L : List XE) (T : Seg) : Prop := ∃ vt Tt Te, T = (q, .cells [vt, vm].toArray 188 (0, 0)) :: (Tt ++ Te) ∧ OS 183 1 encP vt L Tt ∧ Te.Perm (entSeg L) ∧ L.length ≤ 1000000000
theorem ecmp_spec (e f : XE) (i k : Nat) (R : Rds) (he : R e.b (e.obj i)) (hf : R f.b (f.obj k)) : Spec Tryz.prog 338 [e.ptr, f.ptr] R [] fun v H' => v = .int .i64 (ecmp e f) ∧ H' = [] := by
  have p1 : PC R (.pointer (some ⟨e.b, 0, none⟩)) (e.cells i) := PC.of he
  have p2 : PC R (.pointer (some ⟨f.b, 0, none⟩)) (f.cells k) := PC.of hf
  refine Spec.body Tryz.func338 rfl Tryz.results338 Tryz.ntmps338 rfl ?_
  refine .seq (.region ?_)
  refine .q .assign ?_
  refine .nil (seqQ_n ?_)
  refine .seq ?_
  refine .region_all [] mixed ?_
  refine .takeO 0 rfl .move (by kernel_rfl) ?_
  refine .takeO 1 rfl (.nilCheck rfl) (by kernel_rfl) ?_
  refine .takeO 2 rfl (.fieldAddr rfl) (by kernel_rfl) ?_
  refine .takeO 3 rfl (.load1 rfl) (by kernel_rfl) ?_
  refine .takeO 4 rfl .move (by kernel_rfl) ?_
  refine .takeO 5 rfl (.nilCheck rfl) (by kernel_rfl) ?_
  refine .takeO 6 rfl (.fieldAddr rfl) (by kernel_rfl) ?_
  refine .takeO 7 rfl (.load1 rfl) (by kernel_rfl) ?_
  refine .takeO 9 rfl .move (by kernel_rfl) ?_
  refine .takeO 10 rfl (.nilCheck rfl) (by kernel_rfl) ?_
  refine .takeO 11 rfl (.fieldAddr rfl) (by kernel_rfl) ?_
  refine .takeO 12 rfl (.load1 rfl) (by kernel_rfl) ?_
  refine .takeO 13 rfl .move (by kernel_rfl) ?_
  refine .takeO 14 rfl (.nilCheck rfl) (by kernel_rfl) ?_
  refine .takeO 15 rfl (.fieldAddr rfl) (by kernel_rfl) ?_
  refine .takeO 16 rfl (.load1 rfl) (by kernel_rfl) ?_
  refine RA.step 8 rfl (by kernel_rfl) rfl ?_
  refine TriOps.callR (compare64_spec e.at_ f.at_ _) (fun v hv => ?_)
  subst hv
  refine .nil (Next.sub ?_)
  refine RA.step 17 rfl (by kernel_rfl) rfl ?_
  refine TriOps.callR (compare_spec e.key f.key _) (fun v hv => ?_)
  subst hv
  refine .nil (Next.sub ?_)
  refine RA.step 18 rfl (by kernel_rfl) rfl ?_
  refine TriOps.buildSliceN1 [_, _] (fun b23 => ?_)
  refine .nil (Next.sub ?_)
  refine RA.step 19 rfl (by kernel_rfl) rfl ?_
  refine TriOps.callR (or_spec _ [icmp e.at_ f.at_, scmp e.key f.key] _ (RS.lits rfl (by simp [encI]) (by simp [encI, oneCell]))) (fun v hv => ?_)
  subst hv
  refine .nil (Next.sub ?_)
  refine .takeO 20 rfl .assign (by kernel_rfl) ?_
  refine RA.nil (by kernel_rfl) ?_
  refine seqQ_n ?_
  refine .ret (retQ_r _ (.one (.tmp rfl)) (.none _) ?_)
  · exact ⟨rfl, rfl⟩
theorem tlen_spec (vt : Value) (L : List XE) (R : Rds) (h : RS R 1 encP vt L) : Spec Tryz.prog 339 [vt] R [] fun v H' => v = .int .i64 L.length ∧ H' = [] := by
  refine Spec.body Tryz.func339 rfl Tryz.results339 Tryz.ntmps339 rfl ?_
  refine .seq (.region ?_)
  refine .q .assign ?_
  refine .nil (seqQ_n ?_)
  refine .seq (.region ?_)
  refine .q .move ?_
  refine .q (.lenR h) ?_
  refine .q .assign ?_
  refine .nil (seqQ_n ?_)
  refine .ret (retQ_r _ (.one (.tmp rfl)) (.none _) ?_)
  · exact ⟨rfl, rfl⟩
theorem tless_spec (vt : Value) (L : List XE) (R : Rds) (h : RS R 1 encP vt L) (i k : Nat) (e f : XE) (he : L[i]? = some e) (hf : L[k]? = some f) (hr1 : R e.b (e.obj i)) (hr2 : R f.b (f.obj k)) :
    Spec Tryz.prog 340 [vt, .int .i64 i, .int .i64 k] R [] fun v H' => v = .bool (elt e f) ∧ H' = [] := by
  refine Spec.body Tryz.func340 rfl Tryz.results340 Tryz.ntmps340 rfl ?_
  refine .seq (.region ?_)
  refine .q .assign ?_
  refine .nil (seqQ_n ?_)
  refine .seq ?_
  refine .region_tail 8 mixed (by kernel_rfl) ?_
  conv => arg 6; dsimp only [List.take]
  refine .q .move ?_
  refine .q .move ?_
  refine TriOps.indexR i h he (fun p1 => ?_)
  refine .q (.load1 rfl) ?_
  refine .q .move ?_
  refine .q .move ?_
  refine TriOps.indexR k h hf (fun p2 => ?_)
  refine .q (.load1 rfl) ?_
  refine .nil ?_
  refine TriOps.callR (ecmp_spec e f i k _ (.inl hr1) (.inl hr2)) (fun v hv => ?_)
  subst hv
  refine .q .lss ?_
  refine .q .assign ?_
  refine .nil (seqQ_n ?_)
  refine .ret (retQ_r _ (.one (.tmp rfl)) (.none _) ?_)
  · exact ⟨rfl, rfl⟩
theorem ent_inj {L : List XE} (hn : (L.map (·.b)).Nodup) {i k : Nat} {x y : XE} (hx : L[i]? = some x) (hy : L[k]? = some y) (he : x.b = y.b) : i = k := by
  obtain ⟨hi, rfl⟩ := List.getElem?_eq_some_iff.1 hx
  obtain ⟨hk, rfl⟩ := List.getElem?_eq_some_iff.1 hy
  exact (List.getElem_inj (xs := L.map fun e : XE => e.b) (i := i) (j := k) (h₀ := by simpa using hi) (h₁ := by simpa using hk) hn).1 (by simpa using he)
theorem ent_swap {L : List XE} {Te : Seg} (hE : Te.Perm (entSeg L)) (hn : (L.map (·.b)).Nodup) {i k : Nat} {x y : XE} (hx : L[i]? = some x) (hy : L[k]? = some y) :
    (upB (upB Te y.b (y.obj i)) x.b (x.obj k)).Perm (entSeg (swp L i k)) := by
  have hi := (List.getElem?_eq_some_iff.1 hx).1
  have hk := (List.getElem?_eq_some_iff.1 hy).1
  refine (upB_perm (upB_perm hE)).trans ?_
  have hx2 : (swp L i k)[k]? = some x := by rw [swp_get hi hk, if_pos rfl, hx]
  have hy2 : (swp L i k)[i]? = some y := by
    rw [swp_get hi hk]
    split
    · rename_i e; subst e; rw [hx] at hy; cases hy; exact hx
    · rw [if_pos rfl, hy]
  have key : upB (upB (entSeg L) y.b (y.obj i)) x.b (x.obj k) = swp (entSeg (swp L i k)) i k := by
    apply List.ext_getElem?
    intro j
    rw [upB_get, upB_get, entSeg_get, swp_get (by rw [entSeg_length, swp_length]; exact hi) (by rw [entSeg_length, swp_length]; exact hk)]
    simp only [entSeg_get]
    by_cases h1 : j = k
    · subst h1
      rw [if_pos rfl, hy2, hy]
      simp only [Option.map_some, if_true, Option.some.injEq]
      split
      · rename_i e
        have := ent_inj hn hy hx e
        subst this
        rw [hx] at hy; cases hy; rfl
      · rfl
    · rw [if_neg h1]
      by_cases h2 : j = i
      · subst h2
        rw [if_pos rfl, hx2, hx]
        have : x.b ≠ y.b := fun e => h1 (ent_inj hn hx hy e)
        simp [this]
      · rw [if_neg h2, swp_get hi hk, if_neg h1, if_neg h2]
        cases he : L[j]? with
        | none => rfl
        | some e =>
          have e1 : e.b ≠ y.b := fun h => h1 (ent_inj hn he hy h)
          have e2 : e.b ≠ x.b := fun h => h2 (ent_inj hn he hx h)
          simp [e1, e2]
  rw [key]
  exact swp_perm
theorem tswap_spec (vt : Value) (L : List XE) (Tt Te : Seg) (R : Rds) (h : OS 183 1 encP vt L Tt) (hE : Te.Perm (entSeg L)) (i k : Nat) (hi : i < L.length) (hk : k < L.length) :
    Spec Tryz.prog 341 [vt, .int .i64 i, .int .i64 k] R [Tt, Te] fun v H' => ∃ Tt' Te', H' = [Tt', Te'] ∧ OS 183 1 encP vt (swp L i k) Tt' ∧ Te'.Perm (entSeg (swp L i k)) := by
  refine Spec.nodup fun hnd => ?_
  have hn : (L.map (·.b)).Nodup := by
    rw [← entSeg_ids, ← (hE.map (·.1)).nodup_iff]
    simp only [List.flatten_cons, List.flatten_nil, List.append_nil, List.map_append, List.nodup_append] at hnd
    exact hnd.2.1
  obtain ⟨x, hx⟩ : ∃ x, L[i]? = some x := ⟨_, List.getElem?_eq_getElem hi⟩
  obtain ⟨y, hy⟩ : ∃ y, L[k]? = some y := ⟨_, List.getElem?_eq_getElem hk⟩
  obtain ⟨_, hx'⟩ : ∃ u, (L.set k x)[i]? = some u := ⟨_, List.getElem?_eq_getElem (by simpa using hi)⟩
  obtain ⟨_, hy'⟩ : ∃ u, (L.set i y)[k]? = some u := ⟨_, List.getElem?_eq_getElem (by simpa using hk)⟩
  have i1 := h.oneCell
  refine Spec.body Tryz.func341 rfl Tryz.results341 Tryz.ntmps341 rfl ?_
  refine .seq ?_
  refine .region_all [13, 15] mixed ?_
  refine .takeO 0 rfl .move (by kernel_rfl) ?_
  refine .takeO 1 rfl .move (by kernel_rfl) ?_
  refine .take 2 rfl .move (by kernel_rfl) ?_
  refine .take 3 rfl .move (by kernel_rfl) ?_
  refine .takeO 4 rfl .move (by kernel_rfl) ?_
  refine .takeO 5 rfl .move (by kernel_rfl) ?_
  refine RA.indexO 6 rfl k h hy rfl rfl rfl (by kernel_rfl) (fun p1 => ?_)
  refine .takeO 7 rfl (.load1 rfl) (by kernel_rfl) ?_
  refine .takeO 8 rfl .move (by kernel_rfl) ?_
  refine .takeO 9 rfl .move (by kernel_rfl) ?_
  refine RA.indexO 10 rfl i h hx rfl rfl rfl (by kernel_rfl) (fun p2 => ?_)
  refine .takeO 11 rfl (.load1 rfl) (by kernel_rfl) ?_
  refine RA.indexO 12 rfl i h hx rfl rfl rfl (by kernel_rfl) (fun p3 => ?_)
  refine RA.step 13 rfl (by kernel_rfl) rfl ?_
  first
    | refine TriOps.storeO1 i h15 hx' y (fun Tt2 h13 => ?_)
    | refine TriOps.storeO1 i h hx y (fun Tt1 h13 => ?_)
  refine .nil (Next.mod rfl ?_)
  refine RA.indexO 14 rfl k h hy rfl rfl rfl (by kernel_rfl) (fun p4 => ?_)
  refine RA.step 15 rfl (by kernel_rfl) rfl ?_
  first
    | refine TriOps.storeO1 k h13 hy' x (fun Tt2 h15 => ?_)
    | refine TriOps.storeO1 k h hy x (fun Tt1 h15 => ?_)
  refine .nil (Next.mod rfl ?_)
  refine RA.nil (by kernel_rfl) ?_
  have hx2 : (swp L i k)[k]? = some x := by rw [swp_get hi hk, if_pos rfl, hx]
  have hy2 : (swp L i k)[i]? = some y := by
    rw [swp_get hi hk]
    split
    · rename_i e; subst e; rw [hx] at hy; cases hy; exact hx
    · rw [if_pos rfl, hy]
  rw [← swp_eq hx hy] at h15
  have mx := hE.mem_iff.2 (entSeg_mem hx)
  have my := hE.mem_iff.2 (entSeg_mem hy)
  have px : PS Te (.pointer (some ⟨x.b, 0, none⟩)) (x.cells i) := PS.of mx
  have py : PS Te (.pointer (some ⟨y.b, 0, none⟩)) (y.cells k) := PS.of my
  refine seqQ_n ?_
  refine .region_all [12, 15] mixed ?_
  refine .takeO 0 rfl .move (by kernel_rfl) ?_
  refine .takeO 1 rfl .move (by kernel_rfl) ?_
  refine RA.indexO 2 rfl i h15 hy2 rfl rfl rfl (by kernel_rfl) (fun p5 => ?_)
  refine .takeO 3 rfl (.load1 rfl) (by kernel_rfl) ?_
  refine .takeO 4 rfl .move (by kernel_rfl) ?_
  refine .takeO 5 rfl .move (by kernel_rfl) ?_
  refine RA.indexO 6 rfl k h15 hx2 rfl rfl rfl (by kernel_rfl) (fun p6 => ?_)
  refine .takeO 7 rfl (.load1 rfl) (by kernel_rfl) ?_
  refine .takeO 8 rfl .move (by kernel_rfl) ?_
  refine .take 9 rfl .move (by kernel_rfl) ?_
  refine .takeO 10 rfl (.nilCheck rfl) (by kernel_rfl) ?_
  refine .takeO 11 rfl (.fieldAddr rfl) (by kernel_rfl) ?_
  refine RA.step 12 rfl (by kernel_rfl) rfl ?_
  refine TriOps.storeB (vs := y.cells k) (off := 2) my ?_
  rw [show Obj.cells (setL (y.cells k) 2 [.int .i64 (i : Nat)]).toArray 182 (0, 0) = y.obj i from rfl]
  refine .nil (Next.mod rfl ?_)
  refine .take 13 rfl (.nilCheckA rfl) (by kernel_rfl) ?_
  refine .take 14 rfl (.fieldAddrA rfl) (by kernel_rfl) ?_
  refine RA.step 15 rfl (by kernel_rfl) rfl ?_
  have mx2 : (x.b, x.obj i) ∈ upB Te y.b (y.obj i) := by
    by_cases e : x.b = y.b
    · have hik := ent_inj hn hx hy e
      subst hik
      rw [hx] at hy; cases hy
      exact upB_self mx
    · exact upB_mem mx e
  refine TriOps.storeB (vs := x.cells i) (off := 2) mx2 ?_
  rw [show Obj.cells (setL (x.cells i) 2 [.int .i64 (k : Nat)]).toArray 182 (0, 0) = x.obj k from rfl]
  refine .nil (Next.mod rfl ?_)
  refine RA.nil (by kernel_rfl) ?_
  refine retQ_n _ .none (HLe.refl _) ?_
  · exact ⟨Tt2, _, rfl, h15, ent_swap hE hn hx hy⟩
end Go.Proofs.YtpmhgpjcladbkaaGreatDoor
set_option linter.unusedVariables false
namespace Go.Proofs.YtpmhgpjcladbkaaGreatDoor
theorem ecmp_lt {e f : XE} : elt e f = true ↔ e.at_ < f.at_ ∨ e.at_ = f.at_ ∧ sLt e.key f.key = true := by
  unfold elt ecmp
  rw [decide_eq_true_eq, sLt_iff]
  unfold icmp
  simp only [orI]
  by_cases h1 : e.at_ < f.at_
  · simp [h1]
  · by_cases h2 : f.at_ < e.at_
    · have : ¬ e.at_ = f.at_ := by omega
      simp [h1, h2, this]
    · have : e.at_ = f.at_ := by omega
      simp only [this, if_true, Int.lt_irrefl, if_false, false_or, true_and]
      split
      · rename_i h; rw [h]
      · rfl
theorem elt_so : SO elt := by
  have tr : ∀ x y z, elt x y = true → elt y z = true → elt x z = true := fun x y z h1 h2 => by
    rw [ecmp_lt] at *
    rcases h1 with h1 | ⟨h1, h3⟩ <;> rcases h2 with h2 | ⟨h2, h4⟩
    · exact .inl (by omega)
    · exact .inl (by omega)
    · exact .inl (by omega)
    · exact .inr ⟨by omega, sLt_trans h3 h4⟩
  have irr : ∀ x, elt x x = false := fun x => by
    rw [Bool.eq_false_iff]; intro h
    rw [ecmp_lt, sLt_irr] at h
    rcases h with h | ⟨_, h⟩
    · omega
    · cases h
  refine ⟨irr, tr, fun x y z h1 h2 => ?_⟩
  rw [Bool.eq_false_iff] at *
  rw [ne_eq, ecmp_lt] at *
  rintro (h | ⟨h, h3⟩)
  · simp only [not_or] at h1 h2; omega
  · simp only [not_or, not_and] at h1 h2
    have e1 : x.at_ = y.at_ := by omega
    have e2 : y.at_ = z.at_ := by omega
    have := sLt_so.ntr x.key y.key z.key (by simpa using h1.2 e1) (by simpa using h2.2 e2)
    rw [this] at h3; cases h3
theorem tpush_spec (q : Nat) (vm : Value) (L : List XE) (T : Seg) (h : TI q vm L T) (e : XE) (hl : L.length < 1000000000) (R : Rds) :
    Spec Tryz.prog 345 [.pointer (some ⟨q, 0, none⟩), .iface 183 e.ptr] R [T ++ [(e.b, e.obj 0)]] fun v H' => ∃ T', H' = [T'] ∧ TI q vm (L ++ [e]) T' := by
  obtain ⟨vt, Tt, Te, rfl, hO, hE, _⟩ := h
  refine Spec.segs (H' := [[(q, .cells [vt, vm].toArray 188 (0, 0))], Tt, Te, [(e.b, .cells (e.cells 0).toArray 182 (0, 0))]]) (by simp [XE.obj]) ?_
  have i1 := hO.oneCell
  refine Spec.body Tryz.func345 rfl Tryz.results345 Tryz.ntmps345 rfl ?_
  refine .seq (.region ?_)
  refine .q .move ?_
  refine .q (.assertC) ?_
  refine .q .assign ?_
  refine .nil (seqQ_n ?_)
  refine .seq (.region ?_)
  refine .q .move ?_
  refine .q .move ?_
  refine .q (.nilCheck rfl) ?_
  refine .q (.load1 rfl) ?_
  refine .q (.lenO hO) ?_
  refine .q (.nilCheck rfl) ?_
  refine .q (.fieldAddr rfl) ?_
  refine TriOps.store1 rfl rfl ?_
  refine .nil (seqQ_n ?_)
  refine .region ?_
  refine .q .move ?_
  refine .q .move ?_
  refine .q (.nilCheck rfl) ?_
  refine .q (.load1 rfl) ?_
  refine .q .move ?_
  refine TriOps.buildSlice11 (fun b19 => ?_)
  refine TriOps.append hO (RS.lits (xs := [e]) rfl (by simp [encP]) (by simp [encP, oneCell])) (by simp; omega) (fun v2 T2 hO2 => ?_)
  have i2 := hO2.oneCell
  refine .q (.nilCheck rfl) ?_
  refine TriOps.store1 rfl rfl ?_
  refine .nil ?_
  refine retQ_n _ .none (.one [1, 1, 1, 1] _) ?_
  · refine ⟨_, rfl, v2, T2, Te ++ [(e.b, e.obj L.length)], by simp [take, dropAt]; exact ⟨rfl, rfl⟩, hO2, ?_, by simp; omega⟩
    have : entSeg (L ++ [e]) = entSeg L ++ [(e.b, e.obj L.length)] := by simp [entSeg, List.zipIdx_append]
    rw [this]
    exact hE.append_right _
theorem mLen : ∀ w, (typeInfo 190).run Tryz.prog w = .ok Tryz.t190 w := Tryz.typeInfo190
theorem tree_hi (q : Nat) (vm : Value) (R : Rds) : HI Tryz.prog R 190 (.pointer (some ⟨q, 0, none⟩)) elt (TI q vm) where
  bnd L T h := by obtain ⟨vt, Tt, Te, rfl, hO, hE, hl⟩ := h; exact hl
  len L T h := by
    obtain ⟨vt, Tt, Te, rfl, hO, hE, hl⟩ := h
    have hr : RS (Rx R [(q, .cells [vt, vm].toArray 188 (0, 0)) :: (Tt ++ Te)]) 1 encP vt L := hO.rs fun p hp => .inr (by simp [hp])
    refine (ISpec.keep (r := vt) (f := 339) (MthAt.val mLen (by kernel_rfl) inferInstance (by kernel_rfl) inferInstance (PC.of (vs := [vt, vm]) (E := 188) (fr := (0, 0)) (.inr (by simp)))) (tlen_spec vt L _ hr)).mono fun u T' hu => ?_
    obtain ⟨rfl, rfl⟩ := hu
    exact ⟨rfl, vt, Tt, Te, rfl, hO, hE, hl⟩
  less L T i k x y h hx hy := by
    obtain ⟨vt, Tt, Te, rfl, hO, hE, hl⟩ := h
    have hr : RS (Rx R [(q, .cells [vt, vm].toArray 188 (0, 0)) :: (Tt ++ Te)]) 1 encP vt L := hO.rs fun p hp => .inr (by simp [hp])
    have m1 := hE.mem_iff.2 (entSeg_mem hx)
    have m2 := hE.mem_iff.2 (entSeg_mem hy)
    refine (ISpec.keep (r := vt) (f := 340) (MthAt.val mLen (by kernel_rfl) inferInstance (by kernel_rfl) inferInstance (PC.of (vs := [vt, vm]) (E := 188) (fr := (0, 0)) (.inr (by simp)))) (tless_spec vt L _ hr i k x y hx hy (.inr (by simp [m1])) (.inr (by simp [m2])))).mono fun u T' hu => ?_
    obtain ⟨rfl, rfl⟩ := hu
    exact ⟨rfl, vt, Tt, Te, rfl, hO, hE, hl⟩
  swap L T i k h hi hk := by
    obtain ⟨vt, Tt, Te, rfl, hO, hE, hl⟩ := h
    refine ⟨341, vt, MthAt.val mLen (by kernel_rfl) inferInstance (by kernel_rfl) inferInstance (PC.of (vs := [vt, vm]) (E := 188) (fr := (0, 0)) (.inr (by simp))), inferInstance, ?_⟩
    refine Spec.segs (H' := [[(q, .cells [vt, vm].toArray 188 (0, 0))], Tt, Te]) (by simp) ?_
    refine Spec.flat ((Spec.lend [1, 1] (tswap_spec vt L Tt Te _ hO hE i k hi hk)).mono fun v H' hv => ?_)
    obtain ⟨H1, rfl, Tt', Te', rfl, hO', hE'⟩ := hv
    refine ⟨_, (q, .cells [vt, vm].toArray 188 (0, 0)) :: (Tt' ++ Te'), rfl, ?_, _, rfl, vt, Tt', Te', rfl, hO', hE', by rw [swp_length]; exact hl⟩
    simp only [rest, dropAt, List.flatten_append, List.flatten_cons, List.flatten_nil, List.append_nil]
    exact List.perm_append_comm
theorem tree_push (q : Nat) (vm : Value) (L : List XE) (T : Seg) (h : TI q vm L T) (e : XE) (hl : L.length < 1000000000) (R : Rds) : ISpec Tryz.prog 190 (.pointer (some ⟨q, 0, none⟩)) "Push" [.iface 183 e.ptr] R (T ++ [(e.b, e.obj 0)]) fun _ T' => TI q vm (L ++ [e]) T' :=
  ⟨345, _, MthAt.ptr mLen (by kernel_rfl) inferInstance (by kernel_rfl), inferInstance, tpush_spec q vm L T h e hl R⟩
end Go.Proofs.YtpmhgpjcladbkaaGreatDoor
set_option linter.unusedVariables false
namespace Go.Proofs.YtpmhgpjcladbkaaGreatDoor
abbrev ptrV (b : Nat) : Value := .pointer (some ⟨b, 0, none⟩)
def XE.kb (e : XE) : ByteArray × Nat := (e.key, e.b)
def XE.ka (e : XE) : ByteArray × Int := (e.key, e.at_)
/-- A queue: its keys with their times. -/
def QI (q : Nat) (A : List (ByteArray × Int)) (T : Seg) : Prop := ∃ L vm M T1 Tm, T = T1 ++ Tm ∧ TI q vm L T1 ∧ MS (fun s : ByteArray => .string s) ptrV vm M Tm ∧
  M.Perm (L.map XE.kb) ∧ Heap elt L L.length ∧ (L.map XE.ka).Perm A
theorem QI.nodup {q : Nat} {A : List (ByteArray × Int)} {T : Seg} (h : QI q A T) : (A.map (·.1)).Nodup := by
  obtain ⟨L, vm, M, T1, Tm, rfl, hT, hM, hp, hh, hA⟩ := h
  have h1 := (hp.map (·.1)).nodup_iff.1 hM.nd
  have h2 := (hA.map (·.1)).nodup_iff.1 (by rw [List.map_map] at h1 ⊢; exact h1)
  exact h2
theorem QI.perm {q : Nat} {A B : List (ByteArray × Int)} {T : Seg} (h : QI q A T) (hp : A.Perm B) : QI q B T := by
  obtain ⟨L, vm, M, T1, Tm, h1, h2, h3, h4, h5, h6⟩ := h
  exact ⟨L, vm, M, T1, Tm, h1, h2, h3, h4, h5, h6.trans hp⟩
theorem qnew_spec (R : Rds) : Spec Tryz.prog 91 [] R [] fun v H' => ∃ T, H' = [T] ∧ ∃ q, v = .pointer (some ⟨q, 0, none⟩) ∧ QI q [] T := by
  refine Spec.body Tryz.func91 rfl Tryz.results91 Tryz.ntmps91 rfl ?_
  refine .seq (.region ?_)
  refine .q .assign ?_
  refine .nil (seqQ_n ?_)
  refine .seq (.region ?_)
  refine TriOps.makeMap (fun b1 => ?_)
  refine .q .bld ?_
  refine TriOps.boxA rfl (fun b3 => ?_)
  refine .q .assign ?_
  refine .nil (seqQ_n ?_)
  refine .ret (retQ_r _ (.one (.tmp rfl)) (.one [0, 0] _) ?_)
  · exact ⟨_, rfl, _, rfl, [], _, [], [(b3, .cells [.slice none 0 0, .map (some b1)].toArray 188 (0, 0))], _, rfl, ⟨_, [], [], rfl, OS.nil, .refl _, by simp⟩, MS.nil, .refl _, fun k h0 hk => by simp at hk, .refl _⟩
theorem qok_spec (q : Nat) (vt : Value) (b : Nat) (R : Rds) [pc : PC R (.pointer (some ⟨q, 0, none⟩)) [vt, .map (some b)]] :
    Spec Tryz.prog 114 [.pointer (some ⟨q, 0, none⟩)] R [] fun v H' => v = .bool true ∧ H' = [] := by
  refine Spec.body Tryz.func114 rfl Tryz.results114 Tryz.ntmps114 rfl ?_
  refine .seq (.region ?_)
  refine .q .assign ?_
  refine .nil (seqQ_n ?_)
  refine .seq (.region ?_)
  refine .q .move ?_
  refine .q (.neNilP rfl rfl) ?_
  refine .q .move ?_
  refine TriOps.gt rfl ?_
  refine .q .move ?_
  refine TriOps.gt rfl ?_
  refine .q (.nilCheck rfl) ?_
  refine TriOps.gt rfl ?_
  refine .q (.fieldAddr rfl) ?_
  refine TriOps.gt rfl ?_
  refine .q (.load1 rfl) ?_
  refine TriOps.gt rfl ?_
  refine .q (.neNilM rfl rfl) ?_
  refine .q .pickT ?_
  refine .q .assign ?_
  refine .nil (seqQ_n ?_)
  refine .ret (retQ_r _ (.one (.tmp rfl)) (.none _) ?_)
  · exact ⟨rfl, rfl⟩
theorem at_get {L : List XE} {M : List (ByteArray × Nat)} {A : List (ByteArray × Int)} (hn : (M.map (·.1)).Nodup) (hp : M.Perm (L.map XE.kb)) (hA : (L.map XE.ka).Perm A) (key : ByteArray) :
    (mget key M = none ∧ mget key A = none ∧ ∀ e ∈ L, e.key ≠ key) ∨ ∃ (i : Nat) (e : XE), L[i]? = some e ∧ e.key = key ∧ mget key M = some e.b ∧ mget key A = some e.at_ := by
  have hnL : ((L.map XE.kb).map (·.1)).Nodup := (hp.map (·.1)).nodup_iff.1 hn
  have hnA : (A.map (·.1)).Nodup := (hA.map (·.1)).nodup_iff.1 (by rw [List.map_map] at hnL ⊢; exact hnL)
  cases hm : mget key M with
  | none =>
    have h1 := mget_none.1 hm
    have h2 : ∀ e ∈ L, e.key ≠ key := fun e he hk => h1 (by
      rw [(hp.map (·.1)).mem_iff, List.map_map]
      exact List.mem_map.2 ⟨e, he, hk⟩)
    refine .inl ⟨rfl, mget_none.2 fun hc => ?_, h2⟩
    rw [← (hA.map (·.1)).mem_iff, List.map_map] at hc
    obtain ⟨e, he, hk⟩ := List.mem_map.1 hc
    exact h2 e he hk
  | some b =>
    have h1 := hp.mem_iff.1 (mget_some hm)
    obtain ⟨e, he, hk⟩ := List.mem_map.1 h1
    simp only [XE.kb, Prod.mk.injEq] at hk
    obtain ⟨i, hi, hie⟩ := List.mem_iff_getElem.1 he
    refine .inr ⟨i, e, by rw [List.getElem?_eq_getElem hi, hie], hk.1, by rw [hk.2], mget_of_mem hnA (hA.mem_iff.1 (List.mem_map.2 ⟨e, he, ?_⟩))⟩
    simp [XE.ka, hk.1]
end Go.Proofs.YtpmhgpjcladbkaaGreatDoor
set_option linter.unusedVariables false
set_option maxRecDepth 4000
namespace Go.Proofs.YtpmhgpjcladbkaaGreatDoor
theorem OS.congr {α β : Type} {E sz : Nat} {enc : α → List Value} {enc' : β → List Value} {v : Value} {xs : List α} {ys : List β} {T : Seg} (h : OS E sz enc v xs T) (he : ys.map enc' = xs.map enc) : OS E sz enc' v ys T := by
  have hl : ys.length = xs.length := by simpa using congrArg List.length he
  have hf : ys.flatMap enc' = xs.flatMap enc := by rw [List.flatMap_def, List.flatMap_def, he]
  have hm : ∀ y ∈ ys, ∃ x ∈ xs, enc' y = enc x := fun y hy => by
    have : enc' y ∈ xs.map enc := he ▸ List.mem_map_of_mem hy
    obtain ⟨x, hx, e⟩ := List.mem_map.1 this
    exact ⟨x, hx, e.symm⟩
  refine ⟨fun y hy => ?_, fun y hy => ?_, ?_⟩
  · obtain ⟨x, hx, e⟩ := hm y hy; rw [e]; exact h.len x hx
  · obtain ⟨x, hx, e⟩ := hm y hy; rw [e]; exact h.one x hx
  · rcases h.h with ⟨h1, h2, h3⟩ | ⟨b, off, c, cap, h1, h2, h3, h4, h5, h6⟩
    · exact .inl ⟨h1, List.length_eq_zero_iff.1 (by rw [hl, h2]; rfl), h3⟩
    · exact .inr ⟨b, off, c, cap, by rw [hl]; exact h1, h2, by omega, h4, h5, by rw [hf]; exact h6⟩
theorem TI.set {q : Nat} {vm : Value} {L : List XE} {T : Seg} (h : TI q vm L T) (hn : (T.map (·.1)).Nodup) {i : Nat} {e e' : XE} (hi : L[i]? = some e) (hb : e'.b = e.b) : TI q vm (L.set i e') (upB T e.b (e'.obj i)) := by
  obtain ⟨vt, Tt, Te, rfl, hO, hE, hl⟩ := h
  have hm := hE.mem_iff.2 (entSeg_mem hi)
  have hn' := hn
  simp only [List.map_cons, List.map_append, List.nodup_cons, List.nodup_append, List.mem_append] at hn
  obtain ⟨h1, h2, h3, h4⟩ := hn
  have hbT : e.b ∈ Te.map (·.1) := List.mem_map_of_mem hm
  have hq : q ≠ e.b := fun hh => h1 (.inr (hh ▸ hbT))
  have ht : upB Tt e.b (e'.obj i) = Tt := upB_old fun p hp hh => h4 p.1 (List.mem_map_of_mem hp) e.b hbT hh
  have hnL : (L.map (·.b)).Nodup := by rw [← entSeg_ids, ← (hE.map (·.1)).nodup_iff]; exact h3
  refine ⟨vt, Tt, upB Te e.b (e'.obj i), ?_, hO.congr ?_, ?_, by simpa using hl⟩
  · have : upB ((q, Obj.cells [vt, vm].toArray 188 (0, 0)) :: (Tt ++ Te)) e.b (e'.obj i) = (q, Obj.cells [vt, vm].toArray 188 (0, 0)) :: (upB Tt e.b (e'.obj i) ++ upB Te e.b (e'.obj i)) := by simp [upB, hq]
    rw [this, ht]
  · apply List.ext_getElem?
    intro j
    rw [List.getElem?_map, List.getElem?_map, List.getElem?_set]
    by_cases hij : i = j
    · subst hij
      have : i < L.length := (List.getElem?_eq_some_iff.1 hi).1
      rw [if_pos rfl, if_pos this, hi]
      simp [encP, XE.ptr, hb]
    · simp [hij]
  · refine (upB_perm hE).trans ?_
    have : upB (entSeg L) e.b (e'.obj i) = entSeg (L.set i e') := by
      apply List.ext_getElem?
      intro j
      rw [upB_get, entSeg_get, entSeg_get, List.getElem?_set]
      by_cases hij : i = j
      · subst hij
        have : i < L.length := (List.getElem?_eq_some_iff.1 hi).1
        rw [if_pos rfl, if_pos this, hi]
        simp [hb]
      · simp only [hij, if_false]
        cases hj : L[j]? with
        | none => rfl
        | some u =>
          have : u.b ≠ e.b := fun hh => hij (ent_inj hnL hj hi hh).symm
          simp [this]
    rw [this]
theorem TI.ps {q : Nat} {vm : Value} {L : List XE} {T : Seg} (h : TI q vm L T) : ∃ vt, One vt ∧ PS T (.pointer (some ⟨q, 0, none⟩)) [vt, vm] := by
  obtain ⟨vt, Tt, Te, rfl, hO, hE, hl⟩ := h
  exact ⟨vt, hO.oneCell, PS.of (E := 188) (fr := (0, 0)) (by simp)⟩
theorem TI.mem {q : Nat} {vm : Value} {L : List XE} {T : Seg} (h : TI q vm L T) {i : Nat} {e : XE} (hi : L[i]? = some e) : (e.b, e.obj i) ∈ T := by
  obtain ⟨vt, Tt, Te, rfl, hO, hE, hl⟩ := h
  have := hE.mem_iff.2 (entSeg_mem hi)
  simp [this]
theorem set_split {L : List XE} {i : Nat} {e : XE} (hi : L[i]? = some e) : ∃ L1 L2, L = L1 ++ e :: L2 ∧ ∀ e', L.set i e' = L1 ++ e' :: L2 := by
  obtain ⟨h, rfl⟩ := List.getElem?_eq_some_iff.1 hi
  refine ⟨L.take i, L.drop (i + 1), ?_, fun e' => ?_⟩
  · rw [List.getElem_cons_drop, List.take_append_drop]
  · rw [List.set_eq_take_append_cons_drop, if_pos h]
theorem qset_spec (q : Nat) (A : List (ByteArray × Int)) (T : Seg) (h : QI q A T) (key : ByteArray) (at_ : Int) (hl : A.length < 1000000000) (R : Rds) :
    Spec Tryz.prog 107 [.pointer (some ⟨q, 0, none⟩), .string key, .int .i64 at_] R [T] fun v H' => ∃ T', H' = [T'] ∧ v = .tuple #[] ∧ QI q (kset key at_ A) T' := by
  have hnA := h.nodup
  obtain ⟨L, vm, M, T1, Tm, rfl, hT, hM, hp, hh, hA⟩ := h
  obtain ⟨bm, rfl⟩ : ∃ b, vm = .map (some b) := by obtain ⟨b, es, clock, h1, _⟩ := hM; exact ⟨b, h1⟩
  obtain ⟨vt, i1, ps⟩ := hT.ps
  have hg := at_get hM.nd hp hA key
  have hLl : L.length = A.length := by simpa using hA.length_eq
  refine Spec.segs (H' := [T1, Tm]) (by simp) ?_
  refine Spec.body Tryz.func107 rfl Tryz.results107 Tryz.ntmps107 rfl ?_
  refine .seq ?_
  refine .seq (.region ?_)
  refine .q .move ?_
  refine TriOps.callR (qok_spec q vt bm _) (fun v hv => ?_)
  subst hv
  refine .q .not ?_
  refine .nil (seqQ_n ?_)
  refine .condF ?_
  refine .skip ?_
  refine seqQ_n ?_
  refine .seq ?_
  refine .seq (.region ?_)
  refine .q .move ?_
  refine .q (.nilCheck rfl) ?_
  refine .q (.fieldAddr rfl) ?_
  refine .q (.load1 rfl) ?_
  refine .q .move ?_
  refine .q (.lookup2 hM.rx rfl (show _ = some (Value.string key) from rfl)) ?_
  refine .q .move ?_
  refine .q .extract ?_
  refine .q .extract ?_
  refine .q .assign ?_
  refine .q .assign ?_
  refine .nil (seqQ_n ?_)
  refine .seq (.region ?_)
  refine .q .move ?_
  refine .nil (seqQ_n ?_)
  refine .cond rfl (fun h2 => ?_) (fun h2 => ?_)
  obtain ⟨i, e, hi, hk, hm, ha⟩ : ∃ (i : Nat) (e : XE), L[i]? = some e ∧ e.key = key ∧ mget key M = some e.b ∧ mget key A = some e.at_ := by
    rcases hg with ⟨h3, _⟩ | h3
    · rw [h3] at h2; simp at h2
    · exact h3
  have me := hT.mem hi
  have pe : PS T1 (.pointer (some ⟨e.b, 0, none⟩)) (e.cells i) := PS.of me
  obtain ⟨e', he'⟩ : ∃ e' : XE, e' = ⟨e.b, e.key, at_⟩ := ⟨_, rfl⟩
  rw [hm]
  simp only [Option.map_some, Option.getD_some]
  refine .seq (.region ?_)
  refine .q .move ?_
  refine .q .move ?_
  refine .q (.nilCheck rfl) ?_
  refine .q (.fieldAddr rfl) ?_
  refine TriOps.nodup fun hnd => ?_
  have hnT : (T1.map (·.1)).Nodup := by
    simp only [List.flatten_cons, List.map_append, List.nodup_append] at hnd
    exact hnd.1
  refine TriOps.storeB (vs := e.cells i) (off := 1) me ?_
  rw [show Obj.cells (setL (e.cells i) 1 [.int .i64 at_]).toArray 182 (0, 0) = e'.obj i from by rw [he']; rfl]
  have hT' := hT.set hnT hi (e' := e') (by rw [he'])
  have pe' : PS (upB T1 e.b (e'.obj i)) (.pointer (some ⟨e.b, 0, none⟩)) (e'.cells i) := PS.of (upB_self me)
  generalize upB T1 e.b (e'.obj i) = T1' at hT' pe' ⊢
  obtain ⟨vt', i1', ps'⟩ := hT'.ps
  clear pe ps
  have hil : i < L.length := (List.getElem?_eq_some_iff.1 hi).1
  have hhole : Hole elt (L.set i e') (L.set i e').length i := by
    rw [List.length_set]
    exact hh.hole elt_so (Nat.le_refl _) fun k hk hki => by rw [List.getElem?_set_ne (Ne.symm hki)]
  refine .nil (seqQ_n ?_)
  refine .seq ?_
  refine .region_tail 8 mixed (by kernel_rfl) ?_
  conv => arg 6; dsimp only [List.take]
  refine .q .move ?_
  refine .q (.nilCheck rfl) ?_
  refine .q (.fieldAddr rfl) ?_
  refine .q .makeInterface ?_
  refine .q .move ?_
  refine .q (.nilCheck rfl) ?_
  refine .q (.fieldAddr rfl) ?_
  refine .q (.load1 rfl) ?_
  refine .nil ?_
  refine TriOps.callM (fix_spec (tree_hi q (.map (some bm)) _) elt_so _ _ hT' i (by simpa using hil) hhole) (fun v T2 hv => ?_)
  obtain ⟨rfl, L2, hT2, hp2, hh2⟩ := hv
  refine .nil (seqQ_n ?_)
  refine .ret (seqQ_r (retQ_r _ .none (HLe.merge [0, 0] _) ?_))
  · obtain ⟨L1, L3, hs1, hs2⟩ := set_split hi
    have hs := hs2 e'
    have hkb : e'.kb = e.kb := by rw [he']; rfl
    refine ⟨T2 ++ Tm, by simp [take, rest, dropAt], rfl, L2, _, M, T2, Tm, rfl, hT2, hM, ?_, hh2, ?_⟩
    · refine hp.trans ?_
      have : (L.set i e').map XE.kb = L.map XE.kb := by rw [hs, hs1]; simp [hkb]
      rw [← this]
      exact (hp2.map _).symm
    · refine ((hp2.map _).trans ?_).trans (kset_perm hA)
      have hnL : ((L.map XE.ka).map (·.1)).Nodup := (hA.map (·.1)).nodup_iff.2 hnA
      rw [hs, hs1] at *
      simp only [List.map_append, List.map_cons] at hnL ⊢
      have e1 : e'.ka = (key, at_) := by rw [he']; simp [XE.ka, hk]
      have e2 : e.ka = (key, e.at_) := by simp [XE.ka, hk]
      rw [e1, e2]
      exact kset_mid (by rw [← e2]; simpa using hnL)
  have hnone : mget key M = none ∧ mget key A = none ∧ ∀ e ∈ L, e.key ≠ key := by
    rcases hg with h3 | ⟨i, e, _, _, h3, _⟩
    · exact h3
    · rw [h3] at h2; simp at h2
  refine .skip ?_
  refine seqQ_n ?_
  refine .seq (.region ?_)
  refine .q .move ?_
  refine .q .move ?_
  refine .q .bld ?_
  refine TriOps.boxA rfl (fun b38 => ?_)
  refine .q .assign ?_
  refine .nil (seqQ_n ?_)
  refine .seq (.region ?_)
  refine .q .move ?_
  refine .q (.nilCheck rfl) ?_
  refine .q (.fieldAddr rfl) ?_
  refine .q (.load1 rfl) ?_
  refine .q .move ?_
  refine .q .move ?_
  refine TriOps.update (u := b38) hM rfl (show _ = some (Value.string key) from rfl) rfl (fun Tm2 hM2 _ => ?_)
  refine .nil (seqQ_n ?_)
  refine .region ?_
  refine .q .move ?_
  refine .q (.nilCheck rfl) ?_
  refine .q (.fieldAddr rfl) ?_
  refine .q .makeInterface ?_
  refine .q .move ?_
  refine .q .makeInterface ?_
  obtain ⟨e, he⟩ : ∃ e : XE, e = ⟨b38, key, at_⟩ := ⟨_, rfl⟩
  refine TriOps.sub (H' := [T1 ++ [(e.b, e.obj 0)], Tm2]) (HLe.ofPerm (by
    rw [he]
    simp only [List.flatten_cons, List.flatten_nil, List.append_nil, List.append_assoc, List.cons_append, List.nil_append]
    exact List.perm_middle.symm)) ?_
  refine TriOps.callM (push_spec (tree_hi q (.map (some bm)) _) elt_so L _ (.iface 183 e.ptr) e (tree_push q (.map (some bm)) L T1 hT e (by omega) _) hh) (fun v T2 hv => ?_) (hxs := by rw [he]; rfl)
  obtain ⟨rfl, L2, hT2, hp2, hh2⟩ := hv
  refine .nil ?_
  refine retQ_n _ .none (HLe.merge [0, 0] _) ?_
  · refine ⟨T2 ++ Tm2, by simp [take, rest, dropAt], rfl, L2, _, _, T2, Tm2, rfl, hT2, hM2, ?_, hh2, ?_⟩
    · rw [mset_new (mget_none.1 hnone.1)]
      refine (hp.append_right _).trans ?_
      have := (hp2.map XE.kb).symm
      rw [List.map_append] at this
      rw [he] at this
      exact this
    · refine (hp2.map _).trans ?_
      unfold kset
      rw [kdel_none (mget_none.1 hnone.2.1), List.map_append, he]
      exact hA.append_right _
end Go.Proofs.YtpmhgpjcladbkaaGreatDoor
set_option linter.unusedVariables false
set_option maxRecDepth 4000
namespace Go.Proofs.YtpmhgpjcladbkaaGreatDoor
def short (s : ByteArray) (n : Nat) : ByteArray := if n < s.size then s.extract 0 n else s
theorem short_spec (s : ByteArray) (n : Nat) (R : Rds) : Spec Tryz.prog 11 [.string s, .int .i64 n] R [] fun v H' => v = .string (short s n) ∧ H' = [] := by
  refine Spec.body Tryz.func11 rfl Tryz.results11 Tryz.ntmps11 rfl ?_
  refine .seq (.region ?_)
  refine .q .assign ?_
  refine .nil (seqQ_n ?_)
  refine .seq ?_
  refine .seq (.region ?_)
  refine .q .move ?_
  refine .q .lenS ?_
  refine .q .move ?_
  refine .q .gtr ?_
  refine .nil (seqQ_n ?_)
  refine .cond rfl (fun h1 => ?_) (fun h1 => ?_)
  refine .seq (.region ?_)
  refine .q .move ?_
  refine .q .move ?_
  have hlt : n < s.size := by simp at h1; omega
  refine .q (.sliceStr (s := s) 0 n rfl ⟨_, rfl⟩ (by omega) (by omega)) ?_
  refine .q .assign ?_
  refine .nil (seqQ_n ?_)
  refine .ret (seqQ_r (retQ_r _ (.one (.tmp rfl)) (.none _) ?_))
  · exact ⟨by unfold short; rw [if_pos (by simp at h1; omega)], rfl⟩
  refine .skip ?_
  refine seqQ_n ?_
  refine .seq (.region ?_)
  refine .q .move ?_
  refine .q .assign ?_
  refine .nil (seqQ_n ?_)
  refine .ret (retQ_r _ (.one (.tmp rfl)) (.none _) ?_)
  · exact ⟨by unfold short; rw [if_neg (by simp at h1; omega)], rfl⟩
end Go.Proofs.YtpmhgpjcladbkaaGreatDoor
set_option linter.unusedVariables false
set_option maxRecDepth 4000
namespace Go.Proofs.YtpmhgpjcladbkaaGreatDoor
theorem sclone_spec (v : Value) (xs : List ByteArray) (R : Rds) (h : RS R 1 encS v xs) (hl : xs.length ≤ 1000000) :
    Spec Tryz.prog 59 [v] R [] fun v' H' => ∃ T, H' = [T] ∧ OS 9 1 encS v' xs T := by
  obtain ⟨pr, cap, rfl⟩ := h.val
  have hx : ∀ H, RS (Rx R H) 1 encS (.slice pr xs.length cap) xs := fun H => h.rx
  refine Spec.segs (H' := [[]]) (by simp) ?_
  refine Spec.body Tryz.func59 rfl Tryz.results59 Tryz.ntmps59 rfl ?_
  refine .seq (.region ?_)
  refine .q .assign ?_
  refine .nil (seqQ_n ?_)
  refine .seq ?_
  refine .seq (.region ?_)
  refine .q .move ?_
  refine .q (.eqNilS rfl rfl) ?_
  refine .nil (seqQ_n ?_)
  refine .cond rfl (fun h1 => ?_) (fun h1 => ?_)
  refine .seq (.region ?_)
  refine .q .assign ?_
  refine .nil (seqQ_n ?_)
  refine .ret (seqQ_r (retQ_r _ (.one (.tmp rfl)) (.one [0] _) ?_))
  · obtain rfl : pr = none := by simpa using h1
    have := h.none_nil
    subst this
    exact ⟨[], rfl, OS.nil⟩
  refine .skip ?_
  refine seqQ_n ?_
  refine .seq (.region ?_)
  refine TriOps.buildSlice0 (fun b5 => ?_)
  refine .q .move ?_
  refine TriOps.append (OS.empty (enc := encS) (sz := 1)) (hx _) (by simp; omega) (fun v' T' h3 => ?_)
  refine .q .assign ?_
  refine .nil (seqQ_n ?_)
  refine .ret (retQ_r _ (.one (.tmp rfl)) (.one [0] _) ?_)
  · exact ⟨T', by simp [take], by simpa using h3⟩
theorem RS.nil' {α : Type} {R : Rds} {sz : Nat} {enc : α → List Value} : RS R sz enc (.slice none 0 0) ([] : List α) := ⟨by simp, by simp, none, 0, rfl, by simp, by simp, .inl rfl⟩
def texts (l : List ByteArray) (n k : Nat) : List ByteArray := (l.take n).map fun s => short s k
theorem texts_spec (v : Value) (l : List ByteArray) (n k : Nat) (hn : n ≤ 1000000) (R : Rds) (h : RS R 1 encS v l) :
    Spec Tryz.prog 12 [v, .int .i64 n, .int .i64 k] R [] fun v' H' => ∃ T, H' = [T] ∧ OS 9 1 encS v' (texts l n k) T := by
  have hle := h.le
  refine Spec.segs (H' := [[]]) (by simp) ?_
  refine Spec.body Tryz.func12 rfl Tryz.results12 Tryz.ntmps12 rfl ?_
  refine .seq (.region ?_)
  refine .q .assign ?_
  refine .nil (seqQ_n ?_)
  refine .seq (.region ?_)
  refine .q .assign ?_
  refine .nil (seqQ_n ?_)
  refine .seq ?_
  refine .seq (.region ?_)
  refine .q .assign ?_
  refine .nil (seqQ_n ?_)
  refine .block ?_
  refine .loop (X := Nat × Value × Seg) (fun y => (y.1 ≤ l.length ∧ y.1 ≤ n) ∧ OS 9 1 encS y.2.1 (texts l y.1 k) y.2.2) (fun y => [(0, v), (1, .int .i64 (n : Nat)), (2, .int .i64 (k : Nat)), (7, y.2.1), (8, .int .i64 (y.1 : Nat))]) (fun y => [y.2.2]) (fun y => l.length - y.1) (0, .slice none 0 0, []) ⟨⟨by omega, by omega⟩, OS.nil⟩ ((((((EnvLe.nil _).cons rfl).cons rfl).cons rfl).cons rfl).cons rfl) (HLe.refl _) ?_
  rintro ⟨i, w, T⟩ ⟨⟨hi, hi2⟩, hO⟩
  simp only at hi hi2 hO ⊢
  have i1 := hO.oneCell
  refine .seq ?_
  refine .seq (.region ?_)
  refine .q .move ?_
  refine .q .move ?_
  refine .q (.lenR h) ?_
  refine .q .lss ?_
  refine .q .move ?_
  refine TriOps.split (t := 13) rfl (fun g3_4 => ?_) (fun g3_4 => ?_)
  refine TriOps.gT g3_4 ?_
  refine .q .move ?_
  refine TriOps.gT g3_4 ?_
  refine .q .move ?_
  refine TriOps.gT g3_4 ?_
  refine .q .lss ?_
  refine .q (.pickTh g3_4) ?_
  refine .nil (seqQ_n ?_)
  refine .cond rfl (fun h1 => ?_) (fun h1 => ?_)
  have hlt : i < l.length ∧ i < n := by simp at g3_4 h1; omega
  obtain ⟨z, hz⟩ : ∃ z, l[i]? = some z := ⟨_, List.getElem?_eq_getElem hlt.1⟩
  have htl : (texts l i k).length ≤ i := by simp [texts]; omega
  have hnext : texts l (i + 1) k = texts l i k ++ [short z k] := by unfold texts; rw [List.take_add_one, hz]; simp
  refine .skip ?_
  refine seqQ_n ?_
  refine .seq ?_
  refine .block ?_
  refine .region ?_
  refine .q .move ?_
  refine .q .move ?_
  refine .q .move ?_
  refine TriOps.indexR i h hz (fun pz => ?_)
  refine .q (.load1 rfl) ?_
  refine .q .move ?_
  refine TriOps.callR (short_spec z k _) (fun u hu => ?_)
  subst hu
  refine TriOps.buildSlice11 (fun b27 => ?_)
  refine TriOps.append hO (RS.lits (xs := [short z k]) rfl (by simp [encS]) (by simp [encS, oneCell])) (by simp; omega) (fun v2 T2 hO2 => ?_)
  rw [← hnext] at hO2
  refine .q .assign ?_
  refine .nil ?_
  refine blkQ_n (seqQ_n ?_)
  refine .region ?_
  refine .q .move ?_
  refine .q (.inc (n := i) (by omega)) ?_
  refine .q .assign ?_
  refine .nil ?_
  · exact loopQ_i (i + 1, v2, T2) ⟨⟨by simp only; omega, by simp only; omega⟩, hO2⟩ (by simp only; omega) ((((((EnvLe.nil _).cons rfl).cons rfl).cons rfl).cons rfl).cons rfl) (HLe.pick [1] _)
  refine .exit (seqQ_x (loopQ_x (blkQ_x ?_)))
  refine seqQ_n ?_
  refine .seq (.region ?_)
  refine .q .move ?_
  refine .q .assign ?_
  refine .nil (seqQ_n ?_)
  refine .ret (retQ_r _ (.one (.tmp rfl)) (HLe.refl _) ?_)
  · refine ⟨_, rfl, ?_⟩
    have : i = n ∨ i = l.length := by
      first
        | (simp at g3_4 h1; omega)
        | (simp at g3_4; omega)
    rcases this with e | e
    · rw [← e]; exact hO
    · have : texts l n k = texts l i k := by unfold texts; rw [e, List.take_length, List.take_of_length_le (by omega)]
      rw [this]; exact hO
  refine TriOps.gF g3_4 ?_
  refine TriOps.gF g3_4 ?_
  refine TriOps.gF g3_4 ?_
  refine .q (.pickFh g3_4) ?_
  refine .nil (seqQ_n ?_)
  refine .condF ?_
  refine .exit (seqQ_x (loopQ_x (blkQ_x ?_)))
  refine seqQ_n ?_
  refine .seq (.region ?_)
  refine .q .move ?_
  refine .q .assign ?_
  refine .nil (seqQ_n ?_)
  refine .ret (retQ_r _ (.one (.tmp rfl)) (HLe.refl _) ?_)
  · refine ⟨_, rfl, ?_⟩
    have : i = n ∨ i = l.length := by
      first
        | (simp at g3_4 h1; omega)
        | (simp at g3_4; omega)
    rcases this with e | e
    · rw [← e]; exact hO
    · have : texts l n k = texts l i k := by unfold texts; rw [e, List.take_length, List.take_of_length_le (by omega)]
      rw [this]; exact hO
end Go.Proofs.YtpmhgpjcladbkaaGreatDoor
set_option linter.unusedVariables false
namespace Go.Proofs.YtpmhgpjcladbkaaGreatDoor
/-- What is owned, as cells that may be written. -/
def sg0 (T : Seg) : Rds := fun b o => (b, o) ∈ T ∧ ∃ c E, o = .cells c E (0, 0)
theorem OS.sg0 {α : Type} {E sz : Nat} {enc : α → List Value} {v : Value} {xs : List α} {T : Seg} (h : OS E sz enc v xs T) : RS (Go.Proofs.YtpmhgpjcladbkaaGreatDoor.sg0 T) sz enc v xs :=
  ⟨h.len, h.one, by
    rcases h.h with ⟨rfl, rfl, rfl⟩ | ⟨b, off, c, cap, rfl, rfl, h3, h4, h5, h6⟩
    · exact ⟨none, 0, rfl, Nat.le_refl _, Nat.zero_le _, .inl rfl⟩
    · exact ⟨some ⟨b, off, none⟩, cap, rfl, h3, h4, .inr ⟨b, off, c, E, (0, 0), rfl, ⟨by simp, c, E, rfl⟩, h6⟩⟩⟩
theorem sg0_left {A B : Seg} {b : Nat} {o : Obj} (h : sg0 A b o) : sg0 (A ++ B) b o := ⟨List.mem_append_left B h.1, h.2⟩
theorem sg0_right {A B : Seg} {b : Nat} {o : Obj} (h : sg0 B b o) : sg0 (A ++ B) b o := ⟨List.mem_append_right A h.1, h.2⟩
end Go.Proofs.YtpmhgpjcladbkaaGreatDoor
set_option linter.unusedVariables false
namespace Go.Proofs.YtpmhgpjcladbkaaGreatDoor
section
variable {κ β γ : Type}
def kmap (f : β → γ) (A : List (κ × β)) : List (κ × γ) := A.map fun p => (p.1, f p.2)
theorem kmap_keys {f : β → γ} {A : List (κ × β)} : (kmap f A).map (·.1) = A.map (·.1) := by rw [kmap, List.map_map]; rfl
theorem kmap_perm {f : β → γ} {A B : List (κ × β)} (h : A.Perm B) : (kmap f A).Perm (kmap f B) := h.map _
theorem kmap_length {f : β → γ} {A : List (κ × β)} : (kmap f A).length = A.length := by simp [kmap]
theorem kmap_mem {f : β → γ} {A : List (κ × β)} {p : κ × β} (h : p ∈ A) : (p.1, f p.2) ∈ kmap f A := List.mem_map.2 ⟨p, h, rfl⟩
theorem mem_kmap {f : β → γ} {A : List (κ × β)} {p : κ × γ} (h : p ∈ kmap f A) : ∃ q ∈ A, p = (q.1, f q.2) := let ⟨q, h1, h2⟩ := List.mem_map.1 h; ⟨q, h1, h2.symm⟩
variable [DecidableEq κ]
theorem kmap_del {f : β → γ} {A : List (κ × β)} {k : κ} : kmap f (kdel k A) = kdel k (kmap f A) := by unfold kmap kdel; rw [List.filter_map]; rfl
theorem kmap_set {f : β → γ} {A : List (κ × β)} {k : κ} {x : β} : kmap f (kset k x A) = kset k (f x) (kmap f A) := by
  unfold kset; rw [← kmap_del]; simp [kmap]
theorem kmap_get {f : β → γ} {k : κ} : ∀ {A : List (κ × β)}, mget k (kmap f A) = (mget k A).map f
  | [] => rfl
  | (k', x) :: A => by
    have ih := kmap_get (f := f) (k := k) (A := A)
    simp only [kmap, List.map_cons, mget] at ih ⊢
    split
    · rfl
    · exact ih
theorem mset_perm {k : κ} {x : β} : ∀ {M : List (κ × β)}, (M.map (·.1)).Nodup → (mset k x M).Perm (kset k x M)
  | [], _ => by simp [mset, kset, kdel]
  | (k', x') :: M, hn => by
    rw [List.map_cons, List.nodup_cons] at hn
    simp only [mset]
    split
    · rename_i h
      subst h
      unfold kset
      rw [kdel_cons hn.1]
      exact List.perm_append_comm (l₁ := [(k, x)])
    · rename_i h
      have ih := (mset_perm (k := k) (x := x) hn.2).cons (k', x')
      refine ih.trans (List.Perm.of_eq ?_)
      unfold kset kdel
      have : decide ((k', x').1 ≠ k) = true := decide_eq_true fun e => h e.symm
      rw [List.filter_cons, if_pos this]
      rfl
theorem mset_mem {k : κ} {x : β} {M : List (κ × β)} (hn : (M.map (·.1)).Nodup) {p : κ × β} (h : p ∈ mset k x M) : p ∈ M ∨ p = (k, x) := by
  have := (mset_perm hn).mem_iff.1 h
  rcases List.mem_append.1 this with h | h
  · exact .inl (List.mem_filter.1 h).1
  · exact .inr (by simpa using h)
theorem kset_same {k : κ} {x : β} {A : List (κ × β)} (hn : (A.map (·.1)).Nodup) (h : mget k A = some x) : (kset k x A).Perm A := by
  obtain ⟨X, Y, rfl⟩ := List.append_of_mem (mget_some h)
  unfold kset
  rw [kdel_mid hn]
  exact (List.perm_append_singleton _ _).trans List.perm_middle.symm
end
theorem filter_one {k : ByteArray} : ∀ {l : List ByteArray}, l.Nodup → k ∈ l → l.Perm (k :: l.filter fun k' => decide (k' ≠ k))
  | [], _, h => by cases h
  | x :: l, hn, h => by
    have hn' := List.nodup_cons.1 hn
    by_cases hx : x = k
    · subst hx
      have : l.filter (fun k' => decide (k' ≠ x)) = l := List.filter_eq_self.2 fun y hy => by
        have : y ≠ x := fun e => hn'.1 (e ▸ hy)
        simp [this]
      rw [List.filter_cons]
      simp only [ne_eq, not_true_eq_false, decide_false, Bool.false_eq_true, if_false]
      have h2 : l.filter (fun k' => !decide (k' = x)) = l := by simpa using this
      simp only [decide_not, h2]
      exact .refl _
    · have hk : k ∈ l := by
        rcases List.mem_cons.1 h with e | h
        · exact absurd e.symm hx
        · exact h
      have := (filter_one hn'.2 hk).cons x
      rw [List.filter_cons, if_pos (by simp [hx])]
      exact this.trans (List.Perm.swap k x _)
end Go.Proofs.YtpmhgpjcladbkaaGreatDoor
set_option linter.unusedVariables false
set_option maxRecDepth 4000
namespace Go.Proofs.YtpmhgpjcladbkaaGreatDoor
structure Cod where
  text : ByteArray
  client : ByteArray
  user : ByteArray
  uri : ByteArray
  scopes : List ByteArray
  chall : ByteArray
  expires : Int
  family : Int
  used : Bool
abbrev GP : Type := Value × Cod
def encG (p : GP) : List Value := [.string p.2.text, .string p.2.client, .string p.2.user, .string p.2.uri, p.1, .string p.2.chall, .int .i64 p.2.expires, .int .i64 p.2.family, .bool p.2.used]
def CodR (R : Rds) (p : GP) : Prop := RS R 1 encS p.1 p.2.scopes
theorem CodR.mono {R R' : Rds} {p : GP} (h : CodR R p) (hr : ∀ b o, R b o → R' b o) : CodR R' p := RS.mono h hr
theorem CodR.ones {R : Rds} {p : GP} (h : CodR R p) : ∀ u ∈ encG p, oneCell u = true := by
  have h1 := h.oneCell.h
  intro u hu
  simp only [encG, List.mem_cons, List.not_mem_nil, or_false] at hu
  rcases hu with rfl | rfl | rfl | rfl | rfl | rfl | rfl | rfl | rfl <;> first | rfl | assumption
def Cod.few (t : Cod) : Prop := t.scopes.length ≤ 1000000
def Cod.zero : Cod := ⟨⟨#[]⟩, ⟨#[]⟩, ⟨#[]⟩, ⟨#[]⟩, [], ⟨#[]⟩, 0, 0, false⟩
def gz : GP := (.slice none 0 0, Cod.zero)
theorem CodR.zero (R : Rds) : CodR R gz := RS.nil'
theorem gcopied_spec (w : Value) (t : Cod) (R : Rds) (h : CodR R (w, t)) (hf : t.few) : Spec Tryz.prog 65 [.agg (encG (w, t)).toArray] R [] fun v H' => ∃ T, H' = [T] ∧ ∃ w', v = .agg (encG (w', t)).toArray ∧ CodR (sg0 T) (w', t) := by
  have io : Ones (encG (w, t)) := ⟨h.ones⟩
  have i1 : One w := h.oneCell
  have hs : RS R 1 encS w t.scopes := h
  refine Spec.body Tryz.func65 rfl Tryz.results65 Tryz.ntmps65 rfl ?_
  refine .seq (.region ?_)
  refine TriOps.boxA rfl (fun b1 => ?_)
  refine TriOps.allocA (fun b2 => ?_)
  refine .nil (seqQ_n ?_)
  refine .seq (.region ?_)
  refine .q (.fieldAddr rfl) ?_
  refine .q (.load1 rfl) ?_
  refine TriOps.callN (sclone_spec w t.scopes _ hs.rx hf) (fun v1 T1 hO1 => ?_)
  have i3 := hO1.oneCell
  refine .q (.fieldAddr rfl) ?_
  refine TriOps.store1 rfl rfl ?_
  refine .nil (seqQ_n ?_)
  refine .seq (.region ?_)
  refine .q (.loadA rfl) ?_
  refine TriOps.storeA rfl rfl ?_
  refine .nil (seqQ_n ?_)
  refine .ret (retQ_r _ (.one (.cellA rfl rfl)) (.one [0] _) ?_)
  · exact ⟨T1, by simp [take], v1, rfl, hO1.sg0⟩
/-- Who consented, to which client. -/
abbrev Who : Type := ByteArray × ByteArray
def encWho (k : Who) : List Value := [.string k.1, .string k.2]
theorem who_kinds (k : Who) : HasK [.s, .s] (encWho k) := ⟨trivial, trivial, trivial⟩
theorem who_eq (k r : Who) : cellsEq (encWho k) (encWho r) = decide (k = r) := by
  obtain ⟨a, b⟩ := k
  obtain ⟨c, d⟩ := r
  simp only [encWho, cellsEq, cellEq, Prod.mk.injEq]
  rw [Bool.eq_iff_iff]; simp
instance who_ones (k : Who) : Ones (encWho k) := ⟨by simp [encWho, oneCell]⟩
instance who_key : KeyT Tryz.prog 127 (fun k : Who => .agg (encWho k).toArray) := KeyT.agg fQ127 Tryz.underlying127 rfl who_kinds who_eq
abbrev WS : Type := Value × List ByteArray
/-- A book: its consents, its codes by their texts; what these lead to lies in Td. -/
def GJ (g : Nat) (C : List (Who × List ByteArray)) (A : List (ByteArray × Cod)) (Td T0 : Seg) : Prop := ∃ vc MC vm M q Tc Tm Tq, T0 = (g, .cells [vc, vm, .pointer (some ⟨q, 0, none⟩)].toArray 53 (0, 0)) :: (Tc ++ (Tm ++ Tq)) ∧
  (MS (fun k : Who => .agg (encWho k).toArray) (fun p : WS => p.1) vc MC Tc ∧ (∀ p ∈ MC, RS (sg0 Td) 1 encS p.2.1 p.2.2) ∧ (kmap (fun p : WS => p.2) MC).Perm C) ∧
  (MS (fun s : ByteArray => .string s) (fun p : GP => .agg (encG p).toArray) vm M Tm ∧ (∀ p ∈ M, p.1 = p.2.2.text ∧ CodR (sg0 Td) p.2 ∧ p.2.2.few) ∧ (kmap (fun p : GP => p.2) M).Perm A ∧ QI q (kmap (fun t : Cod => t.expires) A) Tq)
def GI (g : Nat) (C : List (Who × List ByteArray)) (A : List (ByteArray × Cod)) (T : Seg) : Prop := ∃ Td T0, T = T0 ++ Td ∧ GJ g C A Td T0
theorem gi_nd {M : List (ByteArray × GP)} {A : List (ByteArray × Cod)} (hn : (M.map (·.1)).Nodup) (hA : (kmap (fun p : GP => p.2) M).Perm A) : (A.map (·.1)).Nodup := ((hA.map (·.1)).nodup_iff).1 (by rw [kmap_keys]; exact hn)
theorem gi_get {M : List (ByteArray × GP)} {A : List (ByteArray × Cod)} {Td : Seg} (hn : (M.map (·.1)).Nodup) (hI : ∀ p ∈ M, p.1 = p.2.2.text ∧ CodR (sg0 Td) p.2 ∧ p.2.2.few) (hA : (kmap (fun p : GP => p.2) M).Perm A) (k : ByteArray) :
    ∃ w t, ((mget k M).map fun p : GP => Value.agg (encG p).toArray).getD (.agg (encG gz).toArray) = .agg (encG (w, t)).toArray ∧ CodR (sg0 Td) (w, t) ∧ t.few ∧ (mget k M).isSome = (mget k A).isSome ∧ (mget k A).getD Cod.zero = t ∧ (∀ u, mget k A = some u → u = t ∧ t.text = k ∧ mget k M = some (w, t)) := by
  have hg : mget k A = (mget k M).map (·.2) := by rw [← mget_perm hA (by rw [kmap_keys]; exact hn), kmap_get]
  cases hm : mget k M with
  | none => rw [hm] at hg; rw [hg]; exact ⟨_, _, rfl, CodR.zero _, by simp [Cod.few, Cod.zero], rfl, rfl, fun u hu => by cases hu⟩
  | some p =>
    obtain ⟨w, t⟩ := p
    rw [hm] at hg; rw [hg]
    obtain ⟨h1, h2, h3⟩ := hI _ (mget_some hm)
    exact ⟨w, t, rfl, h2, h3, rfl, rfl, fun u hu => by cases hu; exact ⟨rfl, h1.symm, rfl⟩⟩
theorem GI.keys {g : Nat} {C : List (Who × List ByteArray)} {A : List (ByteArray × Cod)} {T : Seg} (h : GI g C A T) : ∀ p ∈ A, p.1 = p.2.text := by
  obtain ⟨Td, _, rfl, vc, MC, vm, M, q, Tc, Tm, Tq, rfl, ⟨hMC, hIC, hC⟩, hM, hI, hA, hQ⟩ := h
  intro p hp
  obtain ⟨x, hx, rfl⟩ := mem_kmap (hA.mem_iff.2 hp)
  exact (hI x hx).1
theorem GI.nd {g : Nat} {C : List (Who × List ByteArray)} {A : List (ByteArray × Cod)} {T : Seg} (h : GI g C A T) : (A.map (·.1)).Nodup := by
  obtain ⟨Td, _, rfl, vc, MC, vm, M, q, Tc, Tm, Tq, rfl, ⟨hMC, hIC, hC⟩, hM, hI, hA, hQ⟩ := h
  exact gi_nd hM.nd hA
theorem GI.ndC {g : Nat} {C : List (Who × List ByteArray)} {A : List (ByteArray × Cod)} {T : Seg} (h : GI g C A T) : (C.map (·.1)).Nodup := by
  obtain ⟨Td, _, rfl, vc, MC, vm, M, q, Tc, Tm, Tq, rfl, ⟨hMC, hIC, hC⟩, hM, hI, hA, hQ⟩ := h
  exact ((hC.map (·.1)).nodup_iff).1 (by rw [kmap_keys]; exact hMC.nd)
theorem gnew_spec (R : Rds) : Spec Tryz.prog 47 [] R [] fun v H' => ∃ T, H' = [T] ∧ ∃ g, v = .pointer (some ⟨g, 0, none⟩) ∧ GI g [] [] T := by
  refine Spec.body Tryz.func47 rfl Tryz.results47 Tryz.ntmps47 rfl ?_
  refine .seq (.region ?_)
  refine .q .assign ?_
  refine .nil (seqQ_n ?_)
  refine .seq (.region ?_)
  refine TriOps.makeMap (fun b1 => ?_)
  refine TriOps.makeMap (fun b2 => ?_)
  refine TriOps.callN (qnew_spec _) (fun u T0 hu => ?_)
  obtain ⟨q, rfl, hq⟩ := hu
  refine .q .bld ?_
  refine TriOps.boxA rfl (fun b5 => ?_)
  refine .q .assign ?_
  refine .nil (seqQ_n ?_)
  refine .ret (retQ_r _ (.one (.tmp rfl)) ((HLe.pick [0, 2, 1, 0] _).trans (HLe.ofPerm (H' := [(b5, .cells [.map (some b1), .map (some b2), .pointer (some ⟨q, 0, none⟩)].toArray 53 (0, 0)) :: ([(b1, .map #[] 0)] ++ ([(b2, .map #[] 0)] ++ T0)) ++ []]) (by simp [take, dropAt]; exact .refl _))) ?_)
  · exact ⟨_, rfl, _, rfl, [], _, rfl, .map (some b1), [], .map (some b2), [], q, _, _, T0, rfl, ⟨MS.nil, by simp, .refl _⟩, MS.nil, by simp, .refl _, hq⟩
theorem gok_spec (g b : Nat) (x y : Value) (R : Rds) [pc : PC R (.pointer (some ⟨g, 0, none⟩)) [x, .map (some b), y]] : Spec Tryz.prog 58 [.pointer (some ⟨g, 0, none⟩)] R [] fun v H' => v = .bool true ∧ H' = [] := by
  refine Spec.body Tryz.func58 rfl Tryz.results58 Tryz.ntmps58 rfl ?_
  refine .seq (.region ?_)
  refine .q .assign ?_
  refine .nil (seqQ_n ?_)
  refine .seq (.region ?_)
  refine .q .move ?_
  refine .q (.neNilP rfl rfl) ?_
  refine .q .move ?_
  refine TriOps.gt rfl ?_
  refine .q .move ?_
  refine TriOps.gt rfl ?_
  refine .q (.nilCheck rfl) ?_
  refine TriOps.gt rfl ?_
  refine .q (.fieldAddr rfl) ?_
  refine TriOps.gt rfl ?_
  refine .q (.load1 rfl) ?_
  refine TriOps.gt rfl ?_
  refine .q (.neNilM rfl rfl) ?_
  refine .q .pickT ?_
  refine .q .assign ?_
  refine .nil (seqQ_n ?_)
  refine .ret (retQ_r _ (.one (.tmp rfl)) (.none _) ?_)
  · exact ⟨rfl, rfl⟩
theorem gput_spec (g : Nat) (C : List (Who × List ByteArray)) (A : List (ByteArray × Cod)) (T : Seg) (h : GI g C A T) (w : Value) (t : Cod) (R : Rds) (ht : CodR R (w, t)) (hf : t.few) (hl : A.length < 1000000000) :
    Spec Tryz.prog 55 [.pointer (some ⟨g, 0, none⟩), .agg (encG (w, t)).toArray] R [T] fun v H' => ∃ T', H' = [T'] ∧ v = .tuple #[] ∧ GI g C (kset t.text t A) T' := by
  obtain ⟨Td, _, rfl, vc, MC, vm, M, q, Tc, Tm, Tq, rfl, ⟨hMC, hIC, hC⟩, hM, hI, hA, hQ⟩ := h
  obtain ⟨bm, rfl⟩ : ∃ b, vm = .map (some b) := by obtain ⟨b, es, clock, h1, _⟩ := hM; exact ⟨b, h1⟩
  have io : Ones (encG (w, t)) := ⟨ht.ones⟩
  have ic : One vc := ⟨by obtain ⟨b, es, clock, h1, _⟩ := hMC; subst h1; rfl⟩
  refine Spec.segs (H' := [[(g, .cells [vc, .map (some bm), .pointer (some ⟨q, 0, none⟩)].toArray 53 (0, 0))], Tc, Tm, Tq, Td]) (by simp) ?_
  refine Spec.body Tryz.func55 rfl Tryz.results55 Tryz.ntmps55 rfl ?_
  refine .seq (.region ?_)
  refine TriOps.boxA rfl (fun b3 => ?_)
  refine .nil (seqQ_n ?_)
  refine .seq ?_
  refine .region_all [8] mixed ?_
  refine .takeO 0 rfl .move (by kernel_rfl) ?_
  refine .takeO 1 rfl (.nilCheck rfl) (by kernel_rfl) ?_
  refine .takeO 2 rfl (.fieldAddr rfl) (by kernel_rfl) ?_
  refine .takeO 3 rfl (.load1 rfl) (by kernel_rfl) ?_
  refine .takeO 4 rfl (.fieldAddr rfl) (by kernel_rfl) ?_
  refine .takeO 5 rfl (.load1 rfl) (by kernel_rfl) ?_
  refine .takeO 6 rfl (.loadA rfl) (by kernel_rfl) ?_
  refine RA.step 7 rfl (by kernel_rfl) rfl ?_
  refine TriOps.callN (gcopied_spec w t _ (ht.mono fun b o hb => .inl hb) hf) (fun v T1 hv => ?_)
  obtain ⟨w1, rfl, hc1⟩ := hv
  have i1 : Ones (encG (w1, t)) := ⟨hc1.ones⟩
  refine .nil (Next.sub ?_)
  refine RA.step 8 rfl (by kernel_rfl) rfl ?_
  refine TriOps.update (u := ((w1, t) : GP)) hM rfl (show _ = some (Value.string t.text) from rfl) rfl (fun Tm2 hM2 _ => ?_)
  refine .nil (Next.mod rfl ?_)
  refine RA.nil (by kernel_rfl) ?_
  refine seqQ_n ?_
  refine .region_tail 8 mixed (by kernel_rfl) ?_
  conv => arg 6; dsimp only [List.take]
  refine .q .move ?_
  refine .q (.nilCheck rfl) ?_
  refine .q (.fieldAddr rfl) ?_
  refine .q (.load1 rfl) ?_
  refine .q (.fieldAddr rfl) ?_
  refine .q (.load1 rfl) ?_
  refine .q (.fieldAddr rfl) ?_
  refine .q (.load1 rfl) ?_
  refine .nil ?_
  refine TriOps.callM (qset_spec q _ Tq hQ t.text t.expires (by rw [kmap_length]; omega) _) (fun v Tq2 hv => ?_)
  obtain ⟨rfl, hQ2⟩ := hv
  refine .nil ?_
  refine retQ_n _ .none (.one [2, 2, 2, 2, 2, 0] _) ?_
  · refine ⟨((g, .cells [vc, .map (some bm), .pointer (some ⟨q, 0, none⟩)].toArray 53 (0, 0)) :: (Tc ++ (Tm2 ++ Tq2))) ++ (Td ++ T1), by simp [take, dropAt], rfl, Td ++ T1, _, rfl, _, MC, _, _, q, Tc, Tm2, Tq2, rfl, ⟨hMC, fun p hp => (hIC p hp).mono fun b o hb => sg0_left hb, hC⟩, hM2, fun p hp => ?_, ?_, by rw [kmap_set]; exact hQ2⟩
    · rcases mset_mem hM.nd hp with hp | rfl
      · obtain ⟨q1, q2, q3⟩ := hI p hp
        exact ⟨q1, q2.mono fun b o hb => sg0_left hb, q3⟩
      · exact ⟨rfl, hc1.mono fun b o hb => sg0_right hb, hf⟩
    · exact (kmap_perm (mset_perm hM.nd)).trans (by rw [kmap_set]; exact kset_perm hA)
def Cod.fresh (t : Cod) : Cod := ⟨t.text, t.client, t.user, t.uri, t.scopes, t.chall, t.expires, t.family, false⟩
def gissue (A : List (ByteArray × Cod)) (t : Cod) : Int × List (ByteArray × Cod) :=
  if (mget t.text A).isSome then (22, A) else if 4096 ≤ A.length then (8, A) else (0, kset t.text t.fresh A)
theorem gissue_spec (g : Nat) (C : List (Who × List ByteArray)) (A : List (ByteArray × Cod)) (T : Seg) (h : GI g C A T) (w : Value) (t : Cod) (R : Rds) (ht : CodR R (w, t)) (hf : t.few) :
    Spec Tryz.prog 25 [.pointer (some ⟨g, 0, none⟩), .agg (encG (w, t)).toArray] R [T] fun v H' => ∃ T', H' = [T'] ∧ v = .int .i64 (gissue A t).1 ∧ GI g C (gissue A t).2 T' := by
  have h0 := h
  obtain ⟨Td, _, rfl, vc, MC, vm, M, q, Tc, Tm, Tq, rfl, ⟨hMC, hIC, hC⟩, hM, hI, hA, hQ⟩ := h
  obtain ⟨bm, rfl⟩ : ∃ b, vm = .map (some b) := by obtain ⟨b, es, clock, h1, _⟩ := hM; exact ⟨b, h1⟩
  have io : Ones (encG (w, t)) := ⟨ht.ones⟩
  have iw : One w := ht.oneCell
  have ic : One vc := ⟨by obtain ⟨b, es, clock, h1, _⟩ := hMC; subst h1; rfl⟩
  have hlen : M.length = A.length := by simpa [kmap_length] using hA.length_eq
  obtain ⟨w0, t0, hr0, hc0, hf0, hs0, _, _⟩ := gi_get hM.nd hI hA t.text
  have i0 : Ones (encG (w0, t0)) := ⟨hc0.ones⟩
  refine Spec.segs (H' := [[(g, .cells [vc, .map (some bm), .pointer (some ⟨q, 0, none⟩)].toArray 53 (0, 0))], Tc, Tm, Tq, Td]) (by simp) ?_
  refine Spec.body Tryz.func25 rfl Tryz.results25 Tryz.ntmps25 rfl ?_
  refine .seq (.region ?_)
  refine TriOps.boxA rfl (fun b3 => ?_)
  refine .q .assign ?_
  refine .nil (seqQ_n ?_)
  refine .seq ?_
  refine .seq (.region ?_)
  refine .q .move ?_
  refine TriOps.callR (gok_spec g bm _ _ _) (fun v hv => ?_)
  subst hv
  refine .q .not ?_
  refine .nil (seqQ_n ?_)
  refine .condF ?_
  refine .skip ?_
  refine seqQ_n ?_
  refine .seq ?_
  refine .seq ?_
  refine .region_all [11] mixed ?_
  refine .takeO 0 rfl .move (by kernel_rfl) ?_
  refine .takeO 1 rfl (.nilCheck rfl) (by kernel_rfl) ?_
  refine .takeO 2 rfl (.fieldAddr rfl) (by kernel_rfl) ?_
  refine .takeO 3 rfl (.load1 rfl) (by kernel_rfl) ?_
  refine .takeO 4 rfl (.fieldAddr rfl) (by kernel_rfl) ?_
  refine .takeO 5 rfl (.load1 rfl) (by kernel_rfl) ?_
  refine .takeO 6 rfl (Quiet.cast (v' := .tuple [.agg (encG (w0, t0)).toArray, .bool (mget t.text A).isSome].toArray) (.lookup2 hM.rx rfl (show _ = some (Value.string t.text) from rfl)) (by rw [← hs0, ← hr0]; rfl)) (by kernel_rfl) ?_
  refine .takeO 7 rfl .move (by kernel_rfl) ?_
  refine .takeO 8 rfl .extract (by kernel_rfl) ?_
  refine .take 9 rfl .extract (by kernel_rfl) ?_
  refine RA.step 10 rfl (by kernel_rfl) rfl ?_
  refine TriOps.allocA (fun b5 => ?_)
  refine .nil (Next.sub ?_)
  refine RA.step 11 rfl (by kernel_rfl) rfl ?_
  refine TriOps.storeA rfl rfl ?_
  refine .nil (Next.mod rfl ?_)
  refine .take 12 rfl .assign (by kernel_rfl) ?_
  refine RA.nil (by kernel_rfl) ?_
  refine seqQ_n ?_
  refine .seq (.region ?_)
  refine .q .move ?_
  refine .nil (seqQ_n ?_)
  refine .cond rfl (fun h2 => ?_) (fun h2 => ?_)
  refine .seq (.region ?_)
  refine .q .assign ?_
  refine .nil (seqQ_n ?_)
  refine .ret (seqQ_r (retQ_r _ (.one (.tmp rfl)) (.one [2, 2, 2, 2, 2] _) ?_))
  · have e : gissue A t = (22, A) := by unfold gissue; rw [if_pos h2]
    rw [e]; exact ⟨_, by simp [take, dropAt], rfl, h0⟩
  refine .skip ?_
  refine seqQ_n ?_
  refine .seq ?_
  refine .seq (.region ?_)
  refine .q .move ?_
  refine .q (.nilCheck rfl) ?_
  refine .q (.fieldAddr rfl) ?_
  refine .q (.load1 rfl) ?_
  refine .q (.lenM hM.rx rfl) ?_
  refine .q .geq ?_
  refine .nil (seqQ_n ?_)
  refine .cond rfl (fun h3 => ?_) (fun h3 => ?_)
  refine .seq (.region ?_)
  refine .q .assign ?_
  refine .nil (seqQ_n ?_)
  refine .ret (seqQ_r (retQ_r _ (.one (.tmp rfl)) (.one [2, 2, 2, 2, 2] _) ?_))
  · have e : gissue A t = (8, A) := by unfold gissue; rw [if_neg (by rw [h2]; simp), if_pos (by have := of_decide_eq_true h3; omega)]
    rw [e]; exact ⟨_, by simp [take, dropAt], rfl, h0⟩
  have hlt : ¬ 4096 ≤ A.length := by have := of_decide_eq_false h3; omega
  refine .skip ?_
  refine seqQ_n ?_
  refine .seq (.region ?_)
  refine .q (.fieldAddr rfl) ?_
  refine TriOps.store1 rfl rfl ?_
  refine .nil (seqQ_n ?_)
  refine .seq (.region ?_)
  refine .q .move ?_
  refine .q (.loadA rfl) ?_
  refine TriOps.sub (H' := [((g, .cells [vc, .map (some bm), .pointer (some ⟨q, 0, none⟩)].toArray 53 (0, 0)) :: (Tc ++ (Tm ++ Tq))) ++ Td]) ((HLe.pick [2, 2, 2, 2, 2] _).trans (HLe.ofPerm (by simp [take, dropAt]))) ?_
  refine TriOps.callM (gput_spec g C A _ h0 w t.fresh _ ht hf (by omega)) (fun v T2 hv => ?_)
  obtain ⟨rfl, hV2⟩ := hv
  refine .nil (seqQ_n ?_)
  refine .seq (.region ?_)
  refine .q .assign ?_
  refine .nil (seqQ_n ?_)
  refine .ret (retQ_r _ (.one (.tmp rfl)) (.one [0] _) ?_)
  · have e : gissue A t = (0, kset t.text t.fresh A) := by unfold gissue; rw [if_neg (by rw [h2]; simp), if_neg hlt]
    rw [e]; exact ⟨T2, by simp [take], rfl, hV2⟩
end Go.Proofs.YtpmhgpjcladbkaaGreatDoor
set_option linter.unusedVariables false
namespace Go.Proofs.YtpmhgpjcladbkaaGreatDoor
structure CmpOK {α : Type} (c : α → α → Int) : Prop where
  sw : ∀ x y, c x y < 0 ↔ 0 < c y x
  tr : ∀ x y z, c x y ≤ 0 → c y z ≤ 0 → c x z ≤ 0
  tl : ∀ x y z, c x y < 0 → c y z ≤ 0 → c x z < 0
section
variable {α β : Type} {c d : α → α → Int}
theorem CmpOK.refl (h : CmpOK c) (x : α) : c x x = 0 := by have := h.sw x x; omega
theorem CmpOK.zero_sw (h : CmpOK c) {x y : α} (h0 : c x y = 0) : c y x = 0 := by have h1 := h.sw x y; have h2 := h.sw y x; omega
theorem CmpOK.t2 (h : CmpOK c) (x y z : α) (h1 : c x y ≤ 0) (h2 : c y z < 0) : c x z < 0 := by
  have h3 := h.tr x y z h1 (by omega)
  rcases Int.lt_or_eq_of_le h3 with h4 | h4
  · exact h4
  · have h5 := h.zero_sw h4
    have h6 := h.tl y z x h2 (by omega)
    have h7 := (h.sw y x).1 h6
    omega
theorem CmpOK.map (h : CmpOK c) (f : β → α) : CmpOK (fun x y => c (f x) (f y)) := ⟨fun x y => h.sw _ _, fun x y z => h.tr _ _ _, fun x y z => h.tl _ _ _⟩
theorem CmpOK.so (h : CmpOK c) : SO (ltc c) where
  irr x := by unfold ltc; rw [h.refl]; rfl
  tr x y z h1 h2 := by
    unfold ltc at *
    have h1 := of_decide_eq_true h1
    have h2 := of_decide_eq_true h2
    exact decide_eq_true (h.tl x y z h1 (by omega))
  ntr x y z h1 h2 := by
    unfold ltc at *
    have h1 := of_decide_eq_false h1
    have h2 := of_decide_eq_false h2
    refine decide_eq_false fun h3 => ?_
    have e1 : c y x ≤ 0 := by have := h.sw y x; have := h.sw x y; omega
    have e2 : c z y ≤ 0 := by have := h.sw y z; have := h.sw z y; omega
    have e3 := h.tr z y x e2 e1
    have e4 := (h.sw x z).1 h3
    omega
theorem orI_cons (a : Int) (l : List Int) : orI (a :: l) = if a = 0 then orI l else a := rfl
theorem CmpOK.nil : CmpOK (fun _ _ : α => orI []) := ⟨fun x y => by simp [orI], fun x y z _ _ => by simp [orI], fun x y z h _ => by simp [orI] at h⟩
theorem CmpOK.cons {L : α → α → List Int} (hc : CmpOK c) (hL : CmpOK fun a b => orI (L a b)) : CmpOK (fun a b => orI (c a b :: L a b)) where
  sw x y := by
    simp only [orI_cons]
    have h1 := hc.sw x y
    have h2 := hc.sw y x
    have h3 := hL.sw x y
    split <;> split <;> omega
  tr x y z h1 h2 := by
    simp only [orI_cons] at *
    have a1 := hc.tr x y z
    have a2 := hc.tl x y z
    have a3 := hc.t2 x y z
    have a4 := hL.tr x y z
    have b1 := hc.tr z y x
    have b2 := hc.sw x y
    have b3 := hc.sw y x
    have b4 := hc.sw z y
    have b5 := hc.sw y z
    have b6 := hc.sw x z
    have b7 := hc.sw z x
    split <;> (try split at h1) <;> (try split at h2) <;> omega
  tl x y z h1 h2 := by
    simp only [orI_cons] at *
    have a1 := hc.tr x y z
    have a2 := hc.tl x y z
    have a3 := hc.t2 x y z
    have a4 := hL.tl x y z
    have b1 := hc.tr z y x
    have b2 := hc.sw x y
    have b3 := hc.sw y x
    have b4 := hc.sw z y
    have b5 := hc.sw y z
    have b6 := hc.sw x z
    have b7 := hc.sw z x
    split <;> (try split at h1) <;> (try split at h2) <;> omega
end
theorem scmp_ok : CmpOK scmp where
  sw x y := by rw [← sLt_iff, ← sLt_iff']
  tr x y z h1 h2 := by
    have e1 : sLt y x = false := Bool.eq_false_iff.2 fun h => by have := sLt_iff'.1 h; omega
    have e2 : sLt z y = false := Bool.eq_false_iff.2 fun h => by have := sLt_iff'.1 h; omega
    have e3 := sLt_so.ntr z y x e2 e1
    rcases Int.lt_or_le 0 (scmp x z) with h | h
    · rw [sLt_iff'.2 h] at e3; cases e3
    · exact h
  tl x y z h1 h2 := by
    have e1 := sLt_iff.2 h1
    rcases Int.lt_or_eq_of_le h2 with h | h
    · exact sLt_iff.1 (sLt_trans e1 (sLt_iff.2 h))
    · rw [scmp_eq] at h; subst h; exact h1
end Go.Proofs.YtpmhgpjcladbkaaGreatDoor
set_option linter.unusedVariables false
set_option maxRecDepth 4000
namespace Go.Proofs.YtpmhgpjcladbkaaGreatDoor
/-- A consent, as it is told. -/
abbrev NP : Type := Value × (Who × List ByteArray)
def encN (p : NP) : List Value := [.string p.2.1.1, .string p.2.1.2, p.1]
def NpR (R : Rds) (p : NP) : Prop := RS R 1 encS p.1 p.2.2
theorem NpR.mono {R R' : Rds} {p : NP} (h : NpR R p) (hr : ∀ b o, R b o → R' b o) : NpR R' p := RS.mono h hr
theorem NpR.ones {R : Rds} {p : NP} (h : NpR R p) : ∀ u ∈ encN p, oneCell u = true := by
  have h1 := h.oneCell.h
  intro u hu
  simp only [encN, List.mem_cons, List.not_mem_nil, or_false] at hu
  rcases hu with rfl | rfl | rfl <;> first | rfl | assumption
def NPok (p : NP) : Prop := ∀ u ∈ encN p, oneCell u = true
def whoCmp (a b : Who) : Int := orI [scmp a.1 b.1, scmp a.2 b.2]
def ncmp (p q : NP) : Int := whoCmp p.2.1 q.2.1
theorem whoCmp_ok : CmpOK whoCmp := CmpOK.cons (scmp_ok.map fun p : Who => p.1) (CmpOK.cons (scmp_ok.map fun p : Who => p.2) CmpOK.nil)
theorem ncmp_ok : CmpOK ncmp := whoCmp_ok.map fun p : NP => p.2.1
theorem before_spec (p q : NP) (R : Rds) (hp : NPok p) (hq : NPok q) : Spec Tryz.prog 53 [.agg (encN p).toArray, .agg (encN q).toArray] R [] fun v H' => v = .int .i64 (ncmp p q) ∧ H' = [] := by
  have i1 : Ones (encN p) := ⟨hp⟩
  have i2 : Ones (encN q) := ⟨hq⟩
  refine Spec.body Tryz.func53 rfl Tryz.results53 Tryz.ntmps53 rfl ?_
  refine .seq (.region ?_)
  refine TriOps.boxA rfl (fun b2 => ?_)
  refine TriOps.boxA rfl (fun b3 => ?_)
  refine .q .assign ?_
  refine .nil (seqQ_n ?_)
  refine .seq ?_
  refine .region_all [] mixed ?_
  refine .takeO 0 rfl (.fieldAddr rfl) (by kernel_rfl) ?_
  refine .takeO 1 rfl (.load1 rfl) (by kernel_rfl) ?_
  refine .takeO 2 rfl (.fieldAddr rfl) (by kernel_rfl) ?_
  refine .takeO 3 rfl (.load1 rfl) (by kernel_rfl) ?_
  refine .takeO 5 rfl (.fieldAddr rfl) (by kernel_rfl) ?_
  refine .takeO 6 rfl (.load1 rfl) (by kernel_rfl) ?_
  refine .takeO 7 rfl (.fieldAddr rfl) (by kernel_rfl) ?_
  refine .takeO 8 rfl (.load1 rfl) (by kernel_rfl) ?_
  refine RA.step 4 rfl (by kernel_rfl) rfl ?_
  refine TriOps.callR (compare_spec p.2.1.1 q.2.1.1 _) (fun v hv => ?_)
  subst hv
  refine .nil (Next.sub ?_)
  refine RA.step 9 rfl (by kernel_rfl) rfl ?_
  refine TriOps.callR (compare_spec p.2.1.2 q.2.1.2 _) (fun v hv => ?_)
  subst hv
  refine .nil (Next.sub ?_)
  refine RA.step 10 rfl (by kernel_rfl) rfl ?_
  refine TriOps.buildSliceN1 [_, _] (fun b15 => ?_)
  refine .nil (Next.sub ?_)
  refine RA.step 11 rfl (by kernel_rfl) rfl ?_
  refine TriOps.callR (or_spec _ [scmp p.2.1.1 q.2.1.1, scmp p.2.1.2 q.2.1.2] _ (RS.lits rfl (by simp [encI]) (by simp [encI, oneCell]))) (fun v hv => ?_)
  subst hv
  refine .nil (Next.sub ?_)
  refine .takeO 12 rfl .assign (by kernel_rfl) ?_
  refine RA.nil (by kernel_rfl) ?_
  refine seqQ_n ?_
  refine .ret (retQ_r _ (.one (.tmp rfl)) (.none _) ?_)
  · exact ⟨rfl, rfl⟩
def GPok (p : GP) : Prop := ∀ u ∈ encG p, oneCell u = true
def gcmp (p q : GP) : Int := scmp p.2.text q.2.text
theorem gcmp_spec (p q : GP) (R : Rds) (hp : GPok p) (hq : GPok q) : Spec Tryz.prog 69 [.agg (encG p).toArray, .agg (encG q).toArray] R [] fun v H' => v = .int .i64 (gcmp p q) ∧ H' = [] := by
  have i1 : Ones (encG p) := ⟨hp⟩
  have i2 : Ones (encG q) := ⟨hq⟩
  refine Spec.body Tryz.func69 rfl Tryz.results69 Tryz.ntmps69 rfl ?_
  refine .seq (.region ?_)
  refine TriOps.boxA rfl (fun b2 => ?_)
  refine TriOps.boxA rfl (fun b3 => ?_)
  refine .q .assign ?_
  refine .nil (seqQ_n ?_)
  refine .seq (.region ?_)
  refine .q (.fieldAddr rfl) ?_
  refine .q (.load1 rfl) ?_
  refine .q (.fieldAddr rfl) ?_
  refine .q (.load1 rfl) ?_
  refine TriOps.callR (compare_spec p.2.text q.2.text _) (fun v hv => ?_)
  subst hv
  refine .q .assign ?_
  refine .nil (seqQ_n ?_)
  refine .ret (retQ_r _ (.one (.tmp rfl)) (.none _) ?_)
  · exact ⟨rfl, rfl⟩
theorem ltc_gcmp (p q : GP) : ltc gcmp p q = sLt p.2.text q.2.text := by
  unfold ltc gcmp
  rw [Bool.eq_iff_iff, sLt_iff, decide_eq_true_eq]
theorem gcmp_so : SO (ltc gcmp) := ⟨fun x => by rw [ltc_gcmp]; exact sLt_so.irr _, fun x y z h1 h2 => by rw [ltc_gcmp] at *; exact sLt_so.tr _ _ _ h1 h2, fun x y z h1 h2 => by rw [ltc_gcmp] at *; exact sLt_so.ntr _ _ _ h1 h2⟩
end Go.Proofs.YtpmhgpjcladbkaaGreatDoor
set_option linter.unusedVariables false
namespace Go.Proofs.YtpmhgpjcladbkaaGreatDoor
theorem asc_same {α : Type} (key : α → ByteArray) {cs ds : List α} (hc : cs.Pairwise fun c d => sLt (key c) (key d) = true) (hp : ds.Perm cs) (hs : ds.Pairwise fun c d => sLt (key d) (key c) = false) : ds = cs := by
  refine List.Perm.eq_of_pairwise (le := fun c d : α => sLt (key d) (key c) = false) (fun a b ha hb h1 h2 => ?_) hs (hc.imp fun {a b} hab => ?_) hp
  · have he : key a = key b := sLt_conn h2 h1
    have ha := hp.mem_iff.1 ha
    obtain ⟨i, hi, rfl⟩ := List.mem_iff_getElem.1 ha
    obtain ⟨j, hj, rfl⟩ := List.mem_iff_getElem.1 hb
    rw [List.pairwise_iff_getElem] at hc
    rcases Nat.lt_trichotomy i j with hij | hij | hij
    · have := hc i j hi hj hij
      rw [he, sLt_irr] at this; cases this
    · subst hij; rfl
    · have := hc j i hj hi hij
      rw [he, sLt_irr] at this; cases this
  · exact sLt_so.asym hab
end Go.Proofs.YtpmhgpjcladbkaaGreatDoor
set_option linter.unusedVariables false
set_option maxRecDepth 4000
namespace Go.Proofs.YtpmhgpjcladbkaaGreatDoor
def bAll (s : ByteArray) (p : Int → Bool) : Bool := s.data.toList.all fun c => p (c.toNat : Int)
theorem bAll_true {s : ByteArray} {p : Int → Bool} (h : ∀ j (hj : j < s.size), p (s[j]'hj).toNat = true) : bAll s p = true := by
  unfold bAll
  rw [List.all_eq_true]
  intro c hc
  obtain ⟨j, hj, rfl⟩ := List.mem_iff_getElem.1 hc
  exact h j (by simpa using hj)
theorem bAll_false {s : ByteArray} {p : Int → Bool} {j : Nat} (hj : j < s.size) (h : p (s[j]'hj).toNat = false) : bAll s p = false := by
  unfold bAll
  rw [List.all_eq_false]
  refine ⟨s[j], ?_, by rw [h]; simp⟩
  have : s[j] = s.data.toList[j]'(by simpa using hj) := by simp [ByteArray.getElem_eq_getElem_data]
  rw [this]
  exact List.getElem_mem _
end Go.Proofs.YtpmhgpjcladbkaaGreatDoor
set_option linter.unusedVariables false
set_option maxRecDepth 4000
namespace Go.Proofs.YtpmhgpjcladbkaaGreatDoor
theorem sameTexts_spec (v w : Value) (l m : List ByteArray) (R : Rds) (h : RS R 1 encS v l) (h' : RS R 1 encS w m) :
    Spec Tryz.prog 57 [v, w] R [] fun u H' => u = .bool (decide (l = m)) ∧ H' = [] := by
  have hle := h.le
  refine Spec.body Tryz.func57 rfl Tryz.results57 Tryz.ntmps57 rfl ?_
  refine .seq (.region ?_)
  refine .q .assign ?_
  refine .nil (seqQ_n ?_)
  refine .seq ?_
  refine .seq (.region ?_)
  refine .q .move ?_
  refine .q (.lenR h) ?_
  refine .q .move ?_
  refine .q (.lenR h') ?_
  refine .q .neI ?_
  refine .nil (seqQ_n ?_)
  refine .cond rfl (fun h1 => ?_) (fun h1 => ?_)
  refine .seq (.region ?_)
  refine .q .assign ?_
  refine .nil (seqQ_n ?_)
  refine .ret (seqQ_r (retQ_r _ (.one (.tmp rfl)) (.none _) ?_))
  · exact ⟨by rw [decide_eq_false (fun e : l = m => by simp [e] at h1)], rfl⟩
  have hlen : l.length = m.length := by simp at h1; omega
  refine .skip ?_
  refine seqQ_n ?_
  refine .seq ?_
  refine .seq (.region ?_)
  refine .q .assign ?_
  refine .nil (seqQ_n ?_)
  refine .block ?_
  refine .loop (X := Nat) (fun i => i ≤ l.length ∧ l.take i = m.take i) (fun i => [(0, v), (1, w), (5, .int .i64 (i : Nat))]) (fun _ => []) (fun i => l.length - i) 0 ⟨by omega, by simp⟩ ((((EnvLe.nil _).cons rfl).cons rfl).cons rfl) (HLe.refl _) ?_
  rintro i ⟨hi, hs⟩
  refine .seq ?_
  refine .seq (.region ?_)
  refine .q .move ?_
  refine .q .move ?_
  refine .q (.lenR h) ?_
  refine .q .lss ?_
  refine .nil (seqQ_n ?_)
  refine .cond rfl (fun h2 => ?_) (fun h2 => ?_)
  have hlt : i < l.length := by simp at h2; omega
  obtain ⟨z, hz⟩ : ∃ z, l[i]? = some z := ⟨_, List.getElem?_eq_getElem hlt⟩
  obtain ⟨y, hy⟩ : ∃ y, m[i]? = some y := ⟨_, List.getElem?_eq_getElem (by omega)⟩
  refine .skip ?_
  refine seqQ_n ?_
  refine .seq ?_
  refine .block ?_
  refine .seq ?_
  refine .region_still mixed (by kernel_rfl) ?_
  refine .q .move ?_
  refine .q .move ?_
  refine TriOps.indexR i h hz (fun pz => ?_)
  refine .q (.load1 rfl) ?_
  refine .q .move ?_
  refine .q .move ?_
  refine TriOps.indexR i h' hy (fun py => ?_)
  refine .q (.load1 rfl) ?_
  refine .q .neS ?_
  refine .nil (seqQ_n ?_)
  refine .cond rfl (fun h3 => ?_) (fun h3 => ?_)
  refine .seq (.region ?_)
  refine .q .assign ?_
  refine .nil (seqQ_n ?_)
  refine .ret (blkQ_r (seqQ_r (loopQ_r (blkQ_r (seqQ_r (retQ_r _ (.one (.tmp rfl)) (.none _) ?_))))))
  · refine ⟨?_, rfl⟩
    have hne : z ≠ y := by simpa using h3
    rw [decide_eq_false (fun e : l = m => hne (by rw [e, hy] at hz; cases hz; rfl))]
  refine .skip ?_
  refine blkQ_n (seqQ_n ?_)
  refine .region ?_
  refine .q .move ?_
  refine .q (.inc (n := i) (by omega)) ?_
  refine .q .assign ?_
  refine .nil ?_
  · exact loopQ_i (i + 1) ⟨by omega, by
      have e : z = y := by simpa using h3
      rw [List.take_add_one, List.take_add_one, hs, hz, hy, e]⟩ (by omega) ((((EnvLe.nil _).cons rfl).cons rfl).cons rfl) (HLe.refl _)
  refine .exit (seqQ_x (loopQ_x (blkQ_x ?_)))
  refine seqQ_n ?_
  refine .seq (.region ?_)
  refine .q .assign ?_
  refine .nil (seqQ_n ?_)
  refine .ret (retQ_r _ (.one (.tmp rfl)) (.none _) ?_)
  · refine ⟨?_, rfl⟩
    have he : i = l.length := by simp at h2; omega
    rw [he, List.take_length, List.take_of_length_le (by omega)] at hs
    rw [decide_eq_true hs]
end Go.Proofs.YtpmhgpjcladbkaaGreatDoor
