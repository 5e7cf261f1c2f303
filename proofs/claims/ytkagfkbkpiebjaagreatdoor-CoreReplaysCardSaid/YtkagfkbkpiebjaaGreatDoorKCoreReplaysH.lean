/- What the law 'CoreReplays' uses of this prover's engine, facts and walks. No condition. -/
import Derived.Test.YtkagfkbkpiebjaaGreatDoorKCoreReplaysB
import Derived.Test.YtkagfkbkpiebjaaGreatDoorKCoreReplaysF
import Derived.Test.YtkagfkbkpiebjaaGreatDoorKCoreReplaysG
set_option linter.unusedVariables false
namespace Go.Proofs.YtkagfkbkpiebjaaGreatDoor
theorem Spec.ofCalls {P : Program} {f : FuncId} {args : List Value} {v : Value} (h : ∀ w, Calls P f args.toArray w fun e w' => e = .returned v ∧ w' = w) (R : Rds) : Spec P f args R [] fun u H' => u = v ∧ H' = [] :=
 fun w _ _ => (h w).mono fun e w' ⟨h1, h2⟩ => ⟨v, [], h1, ⟨rfl, rfl⟩, by subst h2; exact ⟨by simp, by simp⟩, by subst h2; exact .refl _ _⟩
def scmp (a b : ByteArray) : Int := Lib.compareBytes a.data.toList b.data.toList
theorem cb_lt : ∀ (a b : List UInt8), Lib.compareBytes a b < 0 ↔ Op.bytesLess a b = true
 | [], [] => by simp [Lib.compareBytes, Op.bytesLess]
 | [], _ :: _ => by simp [Lib.compareBytes, Op.bytesLess]
 | _ :: _, [] => by simp [Lib.compareBytes, Op.bytesLess]
 | x :: a, y :: b => by
  have ih := cb_lt a b
  simp only [Lib.compareBytes, Op.bytesLess, Bool.or_eq_true, Bool.and_eq_true, decide_eq_true_eq, beq_iff_eq]
  by_cases h1 : x < y
  ·simp [h1]
  ·by_cases h2 : y < x
   ·have : x ≠ y := fun e => by subst e; exact UInt8.lt_irrefl _ h2
    simp [h1, h2, this]
   ·have : x = y := UInt8.le_antisymm (UInt8.not_lt.1 h2) (UInt8.not_lt.1 h1)
    subst this
    simp [h1, ih]
theorem cb_gt : ∀ (a b : List UInt8), 0 < Lib.compareBytes a b ↔ Op.bytesLess b a = true
 | [], [] => by simp [Lib.compareBytes, Op.bytesLess]
 | [], _ :: _ => by simp [Lib.compareBytes, Op.bytesLess]
 | _ :: _, [] => by simp [Lib.compareBytes, Op.bytesLess]
 | x :: a, y :: b => by
  have ih := cb_gt a b
  simp only [Lib.compareBytes, Op.bytesLess, Bool.or_eq_true, Bool.and_eq_true, decide_eq_true_eq, beq_iff_eq]
  by_cases h1 : x < y
  ·have h2 : ¬ y < x := fun h => UInt8.lt_irrefl _ (UInt8.lt_trans h1 h)
   have : ¬ y = x := fun e => by subst e; exact UInt8.lt_irrefl _ h1
   simp [h1, h2, this]
  ·by_cases h2 : y < x
   ·simp [h1, h2]
   ·have : x = y := UInt8.le_antisymm (UInt8.not_lt.1 h2) (UInt8.not_lt.1 h1)
    subst this
    simp [h1, ih]
theorem cb_eq : ∀ (a b : List UInt8), Lib.compareBytes a b = 0 ↔ a = b
 | [], [] => by simp [Lib.compareBytes]
 | [], _ :: _ => by simp [Lib.compareBytes]
 | _ :: _, [] => by simp [Lib.compareBytes]
 | x :: a, y :: b => by
  have ih := cb_eq a b
  simp only [Lib.compareBytes, List.cons.injEq]
  by_cases h1 : x < y
  ·have : ¬ x = y := fun e => by subst e; exact UInt8.lt_irrefl _ h1
   simp [h1, this]
  ·by_cases h2 : y < x
   ·have : ¬ x = y := fun e => by subst e; exact UInt8.lt_irrefl _ h2
    simp [h1, h2, this]
   ·have : x = y := UInt8.le_antisymm (UInt8.not_lt.1 h2) (UInt8.not_lt.1 h1)
    subst this
    simp [h1, ih]
theorem bl_trans : ∀ (a b c : List UInt8), Op.bytesLess a b = true → Op.bytesLess b c = true → Op.bytesLess a c = true
 | _, [], _, h, _ => by simp [Op.bytesLess] at h
 | _, _ :: _, [], _, h => by simp [Op.bytesLess] at h
 | [], _ :: _, _ :: _, _, _ => by simp [Op.bytesLess]
 | x :: a, y :: b, z :: c, h1, h2 => by
  simp only [Op.bytesLess, Bool.or_eq_true, Bool.and_eq_true, decide_eq_true_eq, beq_iff_eq] at h1 h2 ⊢
  rcases h1 with h1 | ⟨rfl, h1⟩
  ·rcases h2 with h2 | ⟨rfl, h2⟩
   ·exact .inl (UInt8.lt_trans h1 h2)
   ·exact .inl h1
  ·rcases h2 with h2 | ⟨rfl, h2⟩
   ·exact .inl h2
   ·exact .inr ⟨rfl, bl_trans a b c h1 h2⟩
theorem sLt_iff {a b : ByteArray} : sLt a b = true ↔ scmp a b < 0 := by
 unfold sLt scmp; rw [ByteArray.toList_eq, ByteArray.toList_eq, cb_lt]
theorem sLt_iff' {a b : ByteArray} : sLt b a = true ↔ 0 < scmp a b := by
 unfold sLt scmp; rw [ByteArray.toList_eq, ByteArray.toList_eq, cb_gt]
theorem scmp_eq {a b : ByteArray} : scmp a b = 0 ↔ a = b := by
 unfold scmp
 rw [cb_eq]
 exact ⟨fun h => ByteArray.ext (Array.toList_inj.1 h), fun h => by rw [h]⟩
theorem sLt_irr (a : ByteArray) : sLt a a = false := by
 cases h : sLt a a with
 | false => rfl
 | true => have := sLt_iff.1 h; rw [scmp_eq.2 rfl] at this; omega
theorem sLt_trans {a b c : ByteArray} (h1 : sLt a b = true) (h2 : sLt b c = true) : sLt a c = true := by
 unfold sLt at *; exact bl_trans _ _ _ h1 h2
theorem sLt_conn {a b : ByteArray} (h1 : sLt a b = false) (h2 : sLt b a = false) : a = b := by
 refine scmp_eq.1 ?_
 rcases Int.lt_trichotomy (scmp a b) 0 with h | h | h
 ·rw [sLt_iff.2 h] at h1; cases h1
 ·exact h
 ·rw [sLt_iff'.2 h] at h2; cases h2
theorem sLt_so : SO sLt := ⟨sLt_irr, fun _ _ _ => sLt_trans, fun x y z h1 h2 => by
 cases h : sLt x z with
 | false => rfl
 | true =>
  cases h3 : sLt y x with
  | true => rw [sLt_trans h3 h] at h2; cases h2
  | false => have := sLt_conn h1 h3; subst this; rw [h] at h2; cases h2⟩
theorem compare_spec (a b : ByteArray) (R : Rds) : Spec Tryz.prog 49 [.string a, .string b] R [] fun v H' => v = .int .i64 (scmp a b) ∧ H' = [] :=
 Spec.ofCalls (Tryz.strings_Compare a b) R
def icmp (a b : Int) : Int := if a < b then -1 else if b < a then 1 else 0
def orI : List Int → Int
 | [] => 0
 | x :: l => if x = 0 then orI l else x
def encI (x : Int) : List Value := [.int .i64 x]
def encS (s : ByteArray) : List Value := [.string s]
instance decMemS (s : ByteArray) (l : List ByteArray) : Decidable (s ∈ l) := decidable_of_iff (l.any (fun x => decide (x = s)) = true) (by simp)
instance keyS : KeyT Tryz.prog 9 (fun s : ByteArray => .string s) := KeyT.str fU9 fA9
theorem orI_skip {l : List Int} {i : Nat} (h : ∀ j x, j < i → l[j]? = some x → x = 0) : orI l = orI (l.drop i) := by
 induction i generalizing l with
 | zero => simp
 | succ i ih =>
  cases l with
  | nil => simp
  | cons x l =>
   have : x = 0 := h 0 x (by omega) rfl
   subst this
   simp only [orI, if_true, List.drop_succ_cons]
   exact ih fun j x hj hx => h (j + 1) x (by omega) (by simpa using hx)
theorem or_spec (v : Value) (l : List Int) (R : Rds) (h : RS R 1 encI v l) : Spec Tryz.prog 200 [v] R [] fun u H' => u = .int .i64 (orI l) ∧ H' = [] := by
 have hle := h.le
 refine Spec.body Tryz.func200 rfl Tryz.results200 Tryz.ntmps200 rfl ?_
 refine .sr<|.ag rfl<|.z<|.ag rfl<|.zs<|.sr<|.mo rfl<|.q (.lenR h) ?_
 refine .mo rfl<|.zn<|.block ?_
 refine .loop (X := Nat) (fun i => i ≤ l.length ∧ ∀ j x, j < i → l[j]? = some x → x = 0) (fun i => [(3, .int .i64 0), (6, v), (7, .int .i64 l.length), (8, .int .i64 (i : Nat))]) (fun _ => []) (fun i => l.length - i) 0 ⟨by omega, by omega⟩ (EnvLe.k4 rfl rfl rfl rfl) (HLe.refl _) ?_
 rintro i ⟨hi, hz⟩
 refine .sr<|.q .lss<|.zs ?_
 refine .cond rfl (fun h1 => ?_) (fun h1 => ?_)
 have hlt : i < l.length := by simp at h1; omega
 obtain ⟨z, hzz⟩ : ∃ z, l[i]? = some z := ⟨_, List.getElem?_eq_getElem hlt⟩
 refine .kn<|.seq<|.block<|.sr ?_
 refine .indexR i h hzz (fun pz => ?_)
 refine .lo rfl<|.ag rfl<|.z<|.mo rfl<|.mo rfl<|.q .neI<|.zn ?_
 refine .cond rfl (fun h2 => ?_) (fun h2 => ?_)
 refine .sr<|.mo rfl<|.ag rfl<|.zn ?_
 refine .ret (blkQ_r (seqQ_r (loopQ_r (blkQ_r (seqQ_r (retQ_r _ (.one (.tmp rfl)) (.none _) ?_))))))
 ·refine ⟨?_, rfl⟩
  have h2' : z ≠ 0 := by simpa using h2
  rw [orI_skip hz, List.drop_eq_getElem_cons hlt]
  rw [List.getElem?_eq_getElem hlt] at hzz
  cases hzz
  simp [orI, h2']
 refine .skip<|blkQ_n<|seqQ_n<|.region ?_
 refine .q (.inc (n := i) (by omega)) ?_
 refine .mo rfl<|.nil ?_
 ·exact loopQ_i (i + 1) ⟨by omega, fun j x hj hx => by
   rcases Nat.lt_or_ge j i with hh | hh
   ·exact hz j x hh hx
   ·obtain rfl : j = i := by omega
    rw [hzz] at hx; cases hx; simpa using h2⟩ (by omega) (EnvLe.k4 rfl rfl rfl rfl) (HLe.refl _)
 refine .exit<|seqQ_x<|loopQ_x<|blkQ_x<|seqQ_n<|.sr<|.mo rfl<|.ag rfl<|.zn ?_
 refine .ret (retQ_r _ (.one (.tmp rfl)) (.none _) ?_)
 ·refine ⟨?_, rfl⟩
  have : i = l.length := by simp at h1; omega
  rw [orI_skip hz, this]; simp [orI]
theorem isNaN64_spec (a : Int) (R : Rds) : Spec Tryz.prog 333 [.int .i64 a] R [] fun u H' => u = .bool false ∧ H' = [] := by
 refine Spec.body Tryz.func333 rfl Tryz.results333 Tryz.ntmps333 rfl ?_
 refine .sr<|.ag rfl<|.z<|.mo rfl<|.mo rfl<|.q .neI<|.ag rfl<|.zn ?_
 refine .ret (retQ_r _ (.one (.tmp rfl)) (.none _) ?_)
 ·exact ⟨by simp, rfl⟩
theorem compare64_spec (a b : Int) (R : Rds) : Spec Tryz.prog 332 [.int .i64 a, .int .i64 b] R [] fun u H' => u = .int .i64 (icmp a b) ∧ H' = [] := by
 refine Spec.body Tryz.func332 rfl Tryz.results332 Tryz.ntmps332 rfl ?_
 refine .sr<|.ag rfl<|.z<|.mo rfl ?_
 refine .callR (isNaN64_spec a _) (fun v hv => ?_)
 subst hv
 refine .ag rfl<|.z<|.mo rfl ?_
 refine .callR (isNaN64_spec b _) (fun v hv => ?_)
 subst hv
 refine .ag rfl<|.zs<|.sr<|.mo rfl<|.zn<|.condF<|.kn<|.seq<|.sr<|.mo rfl<|.zn<|.condF<|.kn<|.seq<|.sr<|.mo rfl<|.mo rfl<|.q .lss<|.zn ?_
 refine .cond rfl (fun h4 => ?_) (fun h4 => ?_)
 refine .sr<|.ag rfl<|.zn ?_
 refine .ret (seqQ_r (retQ_r _ (.one (.tmp rfl)) (.none _) ?_))
 ·refine ⟨?_, rfl⟩
  simp at h4
  try simp at h5
  unfold icmp
  congr 1
  split
  ·first | rfl | omega
  ·first | rfl | (exfalso; omega) | (split <;> first | rfl | omega)
 refine .kn<|.seq<|.sr<|.mo rfl<|.mo rfl<|.q .gtr<|.zn ?_
 refine .cond rfl (fun h5 => ?_) (fun h5 => ?_)
 refine .sr<|.ag rfl<|.zn ?_
 refine .ret (seqQ_r (retQ_r _ (.one (.tmp rfl)) (.none _) ?_))
 ·refine ⟨?_, rfl⟩
  simp at h4
  try simp at h5
  unfold icmp
  congr 1
  split
  ·first | rfl | omega
  ·first | rfl | (exfalso; omega) | (split <;> first | rfl | omega)
 refine .kn<|.sr<|.ag rfl<|.zn ?_
 refine .ret (retQ_r _ (.one (.tmp rfl)) (.none _) ?_)
 ·refine ⟨?_, rfl⟩
  simp at h4
  try simp at h5
  unfold icmp
  congr 1
  split
  ·first | rfl | omega
  ·first | rfl | (exfalso; omega) | (split <;> first | rfl | omega)
section
variable {κ β : Type} [DecidableEq κ]
def kdel (k : κ) (A : List (κ × β)) : List (κ × β) := A.filter fun p => decide (p.1 ≠ k)
def kset (k : κ) (x : β) (A : List (κ × β)) : List (κ × β) := kdel k A ++ [(k, x)]
theorem kdel_perm {k : κ} {A B : List (κ × β)} (h : A.Perm B) : (kdel k A).Perm (kdel k B) := h.filter _
theorem kset_perm {k : κ} {x : β} {A B : List (κ × β)} (h : A.Perm B) : (kset k x A).Perm (kset k x B) := (kdel_perm h).append_right _
theorem kdel_none {k : κ} {A : List (κ × β)} (h : k ∉ A.map (·.1)) : kdel k A = A := by
 unfold kdel
 rw [List.filter_eq_self]
 intro p hp
 simp only [decide_eq_true_eq]
 exact fun e => h (e ▸ List.mem_map_of_mem hp)
theorem kdel_cons {k : κ} {x : β} {A : List (κ × β)} (h : k ∉ A.map (·.1)) : kdel k ((k, x) :: A) = A := by
 have := kdel_none h
 unfold kdel at *
 rw [List.filter_cons, if_neg (by simp)]
 exact this
theorem kdel_mid {k : κ} {x : β} {A B : List (κ × β)} (hn : ((A ++ (k, x) :: B).map (·.1)).Nodup) : kdel k (A ++ (k, x) :: B) = A ++ B := by
 simp only [List.map_append, List.map_cons, List.nodup_append, List.nodup_cons, List.mem_cons] at hn
 obtain ⟨_, ⟨h2, _⟩, h3⟩ := hn
 have e1 : kdel k A = A := kdel_none fun hm => h3 k hm k (.inl rfl) rfl
 have e2 : kdel k ((k, x) :: B) = B := kdel_cons h2
 unfold kdel at *
 rw [List.filter_append, e1, e2]
theorem kset_mid {k : κ} {x x' : β} {A B : List (κ × β)} (hn : ((A ++ (k, x) :: B).map (·.1)).Nodup) : (A ++ (k, x') :: B).Perm (kset k x' (A ++ (k, x) :: B)) := by
 unfold kset
 rw [kdel_mid hn]
 have h1 : (A ++ (k, x') :: B).Perm ((k, x') :: (A ++ B)) := List.perm_middle
 have h2 : ((A ++ B) ++ [(k, x')]).Perm ((k, x') :: (A ++ B)) := by simpa using (List.perm_middle (a := (k, x')) (l₁ := A ++ B) (l₂ := []))
 exact h1.trans h2.symm
theorem mdel_kdel {k : κ} : ∀ {M : List (κ × β)}, (M.map (·.1)).Nodup → mdel k M = kdel k M
 | [], _ => rfl
 | (k', y) :: r, hn => by
  simp only [List.map_cons, List.nodup_cons] at hn
  simp only [mdel]
  split
  ·rename_i he; subst he; exact (kdel_cons hn.1).symm
  ·rename_i he
   rw [mdel_kdel hn.2]
   simp [kdel, Ne.symm he]
theorem mget_perm {k : κ} {A B : List (κ × β)} (h : A.Perm B) (hn : (A.map (·.1)).Nodup) : mget k A = mget k B := by
 have hn' : (B.map (·.1)).Nodup := (h.map (·.1)).nodup_iff.1 hn
 cases h1 : mget k A with
 | some x => exact (mget_of_mem hn' (h.mem_iff.1 (mget_some h1))).symm
 | none =>
  rw [mget_none] at h1
  refine (mget_none.2 fun hm => h1 ?_).symm
  exact (h.map (·.1)).mem_iff.2 hm
theorem mget_append {k : κ} {A B : List (κ × β)} : mget k (A ++ B) = (mget k A).or (mget k B) := by
 induction A with
 | nil => simp [mget]
 | cons p A ih =>
  obtain ⟨k', y⟩ := p
  simp only [List.cons_append, mget]
  split
  ·rfl
  ·exact ih
theorem mget_kdel {k k' : κ} {A : List (κ × β)} : mget k' (kdel k A) = if k' = k then none else mget k' A := by
 induction A with
 | nil => simp [kdel, mget]
 | cons p A ih =>
  obtain ⟨k1, y⟩ := p
  unfold kdel at ih ⊢
  by_cases h : k1 = k
  ·subst h
   simp only [List.filter_cons, ne_eq, not_true, decide_false, Bool.false_eq_true, if_false, ih, mget]
   split
   ·rfl
   ·rfl
  ·simp only [List.filter_cons, ne_eq, h, not_false_eq_true, decide_true, if_true, mget, ih]
   split
   ·rename_i e; subst e; simp [h]
   ·rfl
theorem mget_kset {k k' : κ} {x : β} {A : List (κ × β)} : mget k' (kset k x A) = if k' = k then some x else mget k' A := by
 unfold kset
 rw [mget_append, mget_kdel]
 split
 ·rename_i e; subst e; simp [mget]
 ·rename_i e; simp [mget, e]
theorem kset_length {k : κ} {x : β} {A : List (κ × β)} : (kset k x A).length ≤ A.length + 1 := by
 unfold kset kdel
 have := List.length_filter_le (fun p : κ × β => decide (p.1 ≠ k)) A
 simp only [List.length_append, List.length_singleton]; omega
end
structure XE where
 b : Nat
 key : ByteArray
 at_ : Int
def XE.cells (e : XE) (i : Nat) : List Value := [.string e.key, .int .i64 e.at_, .int .i64 i]
def XE.obj (e : XE) (i : Nat) : Obj := .cells (e.cells i).toArray 233 (0, 0)
abbrev XE.ptr (e : XE) : Value := .pointer (some ⟨e.b, 0, none⟩)
def encP (e : XE) : List Value := [e.ptr]
def entSeg (L : List XE) : Seg := L.zipIdx.map fun p => (p.1.b, p.1.obj p.2)
def ecmp (e f : XE) : Int := orI [icmp e.at_ f.at_, scmp e.key f.key]
def elt (e f : XE) : Bool := decide (ecmp e f < 0)
theorem entSeg_get (L : List XE) (j : Nat) : (entSeg L)[j]? = L[j]?.map fun e => (e.b, e.obj j) := by
 simp [entSeg, List.getElem?_zipIdx]
 cases L[j]? <;> rfl
theorem entSeg_length (L : List XE) : (entSeg L).length = L.length := by simp [entSeg]
theorem entSeg_mem {L : List XE} {i : Nat} {e : XE} (h : L[i]? = some e) : (e.b, e.obj i) ∈ entSeg L := by
 refine List.mem_of_getElem? (i := i) ?_
 rw [entSeg_get, h]; rfl
theorem entSeg_ids (L : List XE) : (entSeg L).map (·.1) = L.map (·.b) := by
 apply List.ext_getElem?
 intro j
 rw [List.getElem?_map, entSeg_get, List.getElem?_map]
 cases L[j]? <;> rfl
def TI (q : Nat) (vm : Value) (L : List XE) (T : Seg) : Prop := ∃ vt Tt Te, T = (q, .cells [vt, vm].toArray 177 (0, 0)) :: (Tt ++ Te) ∧ OS 234 1 encP vt L Tt ∧ Te.Perm (entSeg L) ∧ L.length ≤ 1000000000
theorem ecmp_spec (e f : XE) (i k : Nat) (R : Rds) (he : R e.b (e.obj i)) (hf : R f.b (f.obj k)) : Spec Tryz.prog 331 [e.ptr, f.ptr] R [] fun v H' => v = .int .i64 (ecmp e f) ∧ H' = [] := by
 have p1 : PC R (.pointer (some ⟨e.b, 0, none⟩)) (e.cells i) := PC.of he
 have p2 : PC R (.pointer (some ⟨f.b, 0, none⟩)) (f.cells k) := PC.of hf
 refine Spec.body Tryz.func331 rfl Tryz.results331 Tryz.ntmps331 rfl ?_
 refine .sr<|.ag rfl<|.zs<|.region_all [] mixed ?_
 refine .takeO 0 rfl .move (by kernel_rfl)<|.takeO 1 rfl (.nilCheck rfl) (by kernel_rfl)<|.takeO 2 rfl (.fieldAddr rfl) (by kernel_rfl)<|.takeO 3 rfl (.load1 rfl) (by kernel_rfl)<|.takeO 4 rfl .move (by kernel_rfl)<|.takeO 5 rfl (.nilCheck rfl) (by kernel_rfl)<|.takeO 6 rfl (.fieldAddr rfl) (by kernel_rfl)<|.takeO 7 rfl (.load1 rfl) (by kernel_rfl)<|.takeO 9 rfl .move (by kernel_rfl)<|.takeO 10 rfl (.nilCheck rfl) (by kernel_rfl)<|.takeO 11 rfl (.fieldAddr rfl) (by kernel_rfl)<|.takeO 12 rfl (.load1 rfl) (by kernel_rfl)<|.takeO 13 rfl .move (by kernel_rfl)<|.takeO 14 rfl (.nilCheck rfl) (by kernel_rfl)<|.takeO 15 rfl (.fieldAddr rfl) (by kernel_rfl)<|.takeO 16 rfl (.load1 rfl) (by kernel_rfl) ?_
 refine RA.step 8 rfl (by kernel_rfl) rfl ?_
 refine .callR (compare64_spec e.at_ f.at_ _) (fun v hv => ?_)
 subst hv
 refine .nil (Next.sub ?_)
 refine RA.step 17 rfl (by kernel_rfl) rfl ?_
 refine .callR (compare_spec e.key f.key _) (fun v hv => ?_)
 subst hv
 refine .nil (Next.sub ?_)
 refine RA.step 18 rfl (by kernel_rfl) rfl ?_
 refine .buildSliceN1 [_, _] (fun b23 => ?_)
 refine .nil (Next.sub ?_)
 refine RA.step 19 rfl (by kernel_rfl) rfl ?_
 refine .callR (or_spec _ [icmp e.at_ f.at_, scmp e.key f.key] _ (RS.lits rfl (by simp [encI]) (by simp [encI, oneCell]))) (fun v hv => ?_)
 subst hv
 refine .nil (Next.sub ?_)
 refine .takeO 20 rfl .assign (by kernel_rfl) ?_
 refine RA.nil (by kernel_rfl) ?_
 refine seqQ_n ?_
 refine .ret (retQ_r _ (.one (.tmp rfl)) (.none _) ?_)
 ·exact ⟨rfl, rfl⟩
theorem tlen_spec (vt : Value) (L : List XE) (R : Rds) (h : RS R 1 encP vt L) : Spec Tryz.prog 328 [vt] R [] fun v H' => v = .int .i64 L.length ∧ H' = [] := by
 refine Spec.body Tryz.func328 rfl Tryz.results328 Tryz.ntmps328 rfl ?_
 refine .sr<|.ag rfl<|.z<|.mo rfl<|.q (.lenR h) ?_
 refine .ag rfl<|.zn ?_
 refine .ret (retQ_r _ (.one (.tmp rfl)) (.none _) ?_)
 ·exact ⟨rfl, rfl⟩
theorem tless_spec (vt : Value) (L : List XE) (R : Rds) (h : RS R 1 encP vt L) (i k : Nat) (e f : XE) (he : L[i]? = some e) (hf : L[k]? = some f) (hr1 : R e.b (e.obj i)) (hr2 : R f.b (f.obj k)) :
  Spec Tryz.prog 329 [vt, .int .i64 i, .int .i64 k] R [] fun v H' => v = .bool (elt e f) ∧ H' = [] := by
 refine Spec.body Tryz.func329 rfl Tryz.results329 Tryz.ntmps329 rfl ?_
 refine .sr<|.ag rfl<|.zs ?_
 refine .region_tail 8 mixed (by kernel_rfl) ?_
 conv => arg 6; dsimp only [List.take]
 refine .mo rfl<|.mo rfl ?_
 refine .indexR i h he (fun p1 => ?_)
 refine .lo rfl<|.mo rfl<|.mo rfl ?_
 refine .indexR k h hf (fun p2 => ?_)
 refine .lo rfl<|.nil ?_
 refine .callR (ecmp_spec e f i k _ (.inl hr1) (.inl hr2)) (fun v hv => ?_)
 subst hv
 refine .q .lss<|.ag rfl<|.zn ?_
 refine .ret (retQ_r _ (.one (.tmp rfl)) (.none _) ?_)
 ·exact ⟨rfl, rfl⟩
theorem ent_inj {L : List XE} (hn : (L.map (·.b)).Nodup) {i k : Nat} {x y : XE} (hx : L[i]? = some x) (hy : L[k]? = some y) (he : x.b = y.b) : i = k := by
 obtain ⟨hi, rfl⟩ := List.getElem?_eq_some_iff.1 hx
 obtain ⟨hk, rfl⟩ := List.getElem?_eq_some_iff.1 hy
 exact (List.getElem_inj (xs := L.map fun e : XE => e.b) (i := i) (j := k) (h₀ := by simpa using hi) (h₁ := by simpa using hk) hn).1 (by simpa using he)
theorem ent_swap {L : List XE} {Te : Seg} (hE : Te.Perm (entSeg L)) (hn : (L.map (·.b)).Nodup) {i k : Nat} {x y : XE} (hx : L[i]? = some x) (hy : L[k]? = some y) :
  (upB (upB Te y.b (y.obj i)) x.b (x.obj k)).Perm (entSeg (swp L i k)) := by
 have hi := (List.getElem?_eq_some_iff.1 hx).1
 have hk := (List.getElem?_eq_some_iff.1 hy).1
 refine (upB_perm (upB_perm hE)).trans ?_
 have hx2 : (swp L i k)[k]? = some x := by rw [swp_get hi hk, if_pos rfl, hx]
 have hy2 : (swp L i k)[i]? = some y := by
  rw [swp_get hi hk]
  split
  ·rename_i e; subst e; rw [hx] at hy; cases hy; exact hx
  ·rw [if_pos rfl, hy]
 have key : upB (upB (entSeg L) y.b (y.obj i)) x.b (x.obj k) = swp (entSeg (swp L i k)) i k := by
  apply List.ext_getElem?
  intro j
  rw [upB_get, upB_get, entSeg_get, swp_get (by rw [entSeg_length, swp_length]; exact hi) (by rw [entSeg_length, swp_length]; exact hk)]
  simp only [entSeg_get]
  by_cases h1 : j = k
  ·subst h1
   rw [if_pos rfl, hy2, hy]
   simp only [Option.map_some, if_true, Option.some.injEq]
   split
   ·rename_i e
    have := ent_inj hn hy hx e
    subst this
    rw [hx] at hy; cases hy; rfl
   ·rfl
  ·rw [if_neg h1]
   by_cases h2 : j = i
   ·subst h2
    rw [if_pos rfl, hx2, hx]
    have : x.b ≠ y.b := fun e => h1 (ent_inj hn hx hy e)
    simp [this]
   ·rw [if_neg h2, swp_get hi hk, if_neg h1, if_neg h2]
    cases he : L[j]? with
    | none => rfl
    | some e =>
     have e1 : e.b ≠ y.b := fun h => h1 (ent_inj hn he hy h)
     have e2 : e.b ≠ x.b := fun h => h2 (ent_inj hn he hx h)
     simp [e1, e2]
 rw [key]
 exact swp_perm
theorem tswap_spec (vt : Value) (L : List XE) (Tt Te : Seg) (R : Rds) (h : OS 234 1 encP vt L Tt) (hE : Te.Perm (entSeg L)) (i k : Nat) (hi : i < L.length) (hk : k < L.length) :
  Spec Tryz.prog 330 [vt, .int .i64 i, .int .i64 k] R [Tt, Te] fun v H' => ∃ Tt' Te', H' = [Tt', Te'] ∧ OS 234 1 encP vt (swp L i k) Tt' ∧ Te'.Perm (entSeg (swp L i k)) := by
 refine Spec.nodup fun hnd => ?_
 have hn : (L.map (·.b)).Nodup := by
  rw [← entSeg_ids, ← (hE.map (·.1)).nodup_iff]
  simp only [List.flatten_cons, List.flatten_nil, List.append_nil, List.map_append, List.nodup_append] at hnd
  exact hnd.2.1
 obtain ⟨x, hx⟩ : ∃ x, L[i]? = some x := ⟨_, List.getElem?_eq_getElem hi⟩
 obtain ⟨y, hy⟩ : ∃ y, L[k]? = some y := ⟨_, List.getElem?_eq_getElem hk⟩
 obtain ⟨_, hx'⟩ : ∃ u, (L.set k x)[i]? = some u := ⟨_, List.getElem?_eq_getElem (by simpa using hi)⟩
 obtain ⟨_, hy'⟩ : ∃ u, (L.set i y)[k]? = some u := ⟨_, List.getElem?_eq_getElem (by simpa using hk)⟩
 have i1 := h.oneCell
 refine Spec.body Tryz.func330 rfl Tryz.results330 Tryz.ntmps330 rfl ?_
 refine .seq<|.region_all [13, 15] mixed ?_
 refine .takeO 0 rfl .move (by kernel_rfl)<|.takeO 1 rfl .move (by kernel_rfl)<|.take 2 rfl .move (by kernel_rfl)<|.take 3 rfl .move (by kernel_rfl)<|.takeO 4 rfl .move (by kernel_rfl)<|.takeO 5 rfl .move (by kernel_rfl) ?_
 refine RA.indexO 6 rfl k h hy rfl rfl rfl (by kernel_rfl) (fun p1 => ?_)
 refine .takeO 7 rfl (.load1 rfl) (by kernel_rfl)<|.takeO 8 rfl .move (by kernel_rfl)<|.takeO 9 rfl .move (by kernel_rfl) ?_
 refine RA.indexO 10 rfl i h hx rfl rfl rfl (by kernel_rfl) (fun p2 => ?_)
 refine .takeO 11 rfl (.load1 rfl) (by kernel_rfl) ?_
 refine RA.indexO 12 rfl i h hx rfl rfl rfl (by kernel_rfl) (fun p3 => ?_)
 refine RA.step 13 rfl (by kernel_rfl) rfl ?_
 refine TriOps.storeO1 i h hx y (fun Tt1 h13 => ?_)
 refine .nil (Next.mod rfl ?_)
 refine RA.indexO 14 rfl k h hy rfl rfl rfl (by kernel_rfl) (fun p4 => ?_)
 refine RA.step 15 rfl (by kernel_rfl) rfl ?_
 refine TriOps.storeO1 k h13 hy' x (fun Tt2 h15 => ?_)
 refine .nil (Next.mod rfl ?_)
 refine RA.nil (by kernel_rfl) ?_
 have hx2 : (swp L i k)[k]? = some x := by rw [swp_get hi hk, if_pos rfl, hx]
 have hy2 : (swp L i k)[i]? = some y := by
  rw [swp_get hi hk]
  split
  ·rename_i e; subst e; rw [hx] at hy; cases hy; exact hx
  ·rw [if_pos rfl, hy]
 rw [← swp_eq hx hy] at h15
 have mx := hE.mem_iff.2 (entSeg_mem hx)
 have my := hE.mem_iff.2 (entSeg_mem hy)
 have px : PS Te (.pointer (some ⟨x.b, 0, none⟩)) (x.cells i) := PS.of mx
 have py : PS Te (.pointer (some ⟨y.b, 0, none⟩)) (y.cells k) := PS.of my
 refine seqQ_n<|.region_all [12, 15] mixed ?_
 refine .takeO 0 rfl .move (by kernel_rfl)<|.takeO 1 rfl .move (by kernel_rfl) ?_
 refine RA.indexO 2 rfl i h15 hy2 rfl rfl rfl (by kernel_rfl) (fun p5 => ?_)
 refine .takeO 3 rfl (.load1 rfl) (by kernel_rfl)<|.takeO 4 rfl .move (by kernel_rfl)<|.takeO 5 rfl .move (by kernel_rfl) ?_
 refine RA.indexO 6 rfl k h15 hx2 rfl rfl rfl (by kernel_rfl) (fun p6 => ?_)
 refine .takeO 7 rfl (.load1 rfl) (by kernel_rfl)<|.takeO 8 rfl .move (by kernel_rfl)<|.take 9 rfl .move (by kernel_rfl)<|.takeO 10 rfl (.nilCheck rfl) (by kernel_rfl)<|.takeO 11 rfl (.fieldAddr rfl) (by kernel_rfl) ?_
 refine RA.step 12 rfl (by kernel_rfl) rfl ?_
 refine .storeB (vs := y.cells k) (off := 2) my ?_
 rw [show Obj.cells (setL (y.cells k) 2 [.int .i64 (i : Nat)]).toArray 233 (0, 0) = y.obj i from rfl]
 refine .nil (Next.mod rfl ?_)
 refine .take 13 rfl (.nilCheckA rfl) (by kernel_rfl) ?_
 refine .take 14 rfl (.fieldAddrA rfl) (by kernel_rfl) ?_
 refine RA.step 15 rfl (by kernel_rfl) rfl ?_
 have mx2 : (x.b, x.obj i) ∈ upB Te y.b (y.obj i) := by
  by_cases e : x.b = y.b
  ·have hik := ent_inj hn hx hy e
   subst hik
   rw [hx] at hy; cases hy
   exact upB_self mx
  ·exact upB_mem mx e
 refine .storeB (vs := x.cells i) (off := 2) mx2 ?_
 rw [show Obj.cells (setL (x.cells i) 2 [.int .i64 (k : Nat)]).toArray 233 (0, 0) = x.obj k from rfl]
 refine .nil (Next.mod rfl ?_)
 refine RA.nil (by kernel_rfl) ?_
 refine retQ_n _ .none (HLe.refl _) ?_
 ·exact ⟨Tt2, _, rfl, h15, ent_swap hE hn hx hy⟩
theorem ecmp_lt {e f : XE} : elt e f = true ↔ e.at_ < f.at_ ∨ e.at_ = f.at_ ∧ sLt e.key f.key = true := by
 unfold elt ecmp
 rw [decide_eq_true_eq, sLt_iff]
 unfold icmp
 simp only [orI]
 by_cases h1 : e.at_ < f.at_
 ·simp [h1]
 ·by_cases h2 : f.at_ < e.at_
  ·have : ¬ e.at_ = f.at_ := by omega
   simp [h1, h2, this]
  ·have : e.at_ = f.at_ := by omega
   simp only [this, if_true, Int.lt_irrefl, if_false, false_or, true_and]
   split
   ·rename_i h; rw [h]
   ·rfl
theorem elt_so : SO elt := by
 have tr : ∀ x y z, elt x y = true → elt y z = true → elt x z = true := fun x y z h1 h2 => by
  rw [ecmp_lt] at *
  rcases h1 with h1 | ⟨h1, h3⟩ <;> rcases h2 with h2 | ⟨h2, h4⟩
  ·exact .inl (by omega)
  ·exact .inl (by omega)
  ·exact .inl (by omega)
  ·exact .inr ⟨by omega, sLt_trans h3 h4⟩
 have irr : ∀ x, elt x x = false := fun x => by
  rw [Bool.eq_false_iff]; intro h
  rw [ecmp_lt, sLt_irr] at h
  rcases h with h | ⟨_, h⟩
  ·omega
  ·cases h
 refine ⟨irr, tr, fun x y z h1 h2 => ?_⟩
 rw [Bool.eq_false_iff] at *
 rw [ne_eq, ecmp_lt] at *
 rintro (h | ⟨h, h3⟩)
 ·simp only [not_or] at h1 h2; omega
 ·simp only [not_or, not_and] at h1 h2
  have e1 : x.at_ = y.at_ := by omega
  have e2 : y.at_ = z.at_ := by omega
  have := sLt_so.ntr x.key y.key z.key (by simpa using h1.2 e1) (by simpa using h2.2 e2)
  rw [this] at h3; cases h3
theorem tpush_spec (q : Nat) (vm : Value) (L : List XE) (T : Seg) (h : TI q vm L T) (e : XE) (hl : L.length < 1000000000) (R : Rds) :
  Spec Tryz.prog 335 [.pointer (some ⟨q, 0, none⟩), .iface 234 e.ptr] R [T ++ [(e.b, e.obj 0)]] fun v H' => ∃ T', H' = [T'] ∧ TI q vm (L ++ [e]) T' := by
 obtain ⟨vt, Tt, Te, rfl, hO, hE, _⟩ := h
 refine Spec.segs (H' := [[(q, .cells [vt, vm].toArray 177 (0, 0))], Tt, Te, [(e.b, .cells (e.cells 0).toArray 233 (0, 0))]]) (by simp [XE.obj]) ?_
 have i1 := hO.oneCell
 refine Spec.body Tryz.func335 rfl Tryz.results335 Tryz.ntmps335 rfl ?_
 refine .sr<|.mo rfl<|.q (.assertC) ?_
 refine .ag rfl<|.z<|.mo rfl<|.mo rfl<|.nc rfl<|.lo rfl<|.q (.lenO hO) ?_
 refine .nc rfl<|.fa rfl<|.store1 rfl rfl<|.zn<|.region<|.mo rfl<|.mo rfl<|.nc rfl<|.lo rfl<|.mo rfl ?_
 refine .buildSlice11 (fun b19 => ?_)
 refine .append hO (RS.lits (xs := [e]) rfl (by simp [encP]) (by simp [encP, oneCell])) (by simp; omega) (fun v2 T2 hO2 => ?_)
 have i2 := hO2.oneCell
 refine .nc rfl<|.store1 rfl rfl<|.nil<|retQ_n _ .none (.one [1, 1, 1, 1] _) ?_
 ·refine ⟨_, rfl, v2, T2, Te ++ [(e.b, e.obj L.length)], by simp [take, dropAt]; exact ⟨rfl, rfl⟩, hO2, ?_, by simp; omega⟩
  have : entSeg (L ++ [e]) = entSeg L ++ [(e.b, e.obj L.length)] := by simp [entSeg, List.zipIdx_append]
  rw [this]
  exact hE.append_right _
def TJ (q : Nat) (vm : Value) (x : XE) (L : List XE) (T : Seg) : Prop := ∃ T1 i, T.Perm (T1 ++ [(x.b, x.obj i)]) ∧ TI q vm L T1
theorem tpop_spec (q : Nat) (vm : Value) (L : List XE) (x : XE) (T : Seg) (h : TI q vm (L ++ [x]) T) (R : Rds) :
  Spec Tryz.prog 334 [.pointer (some ⟨q, 0, none⟩)] R [T] fun v H' => ∃ T', H' = [T'] ∧ v = .iface 234 x.ptr ∧ TJ q vm x L T' := by
 obtain ⟨vt, Tt, Te, rfl, hO, hE, hl⟩ := h
 simp only [List.length_append, List.length_singleton] at hl
 refine Spec.segs (H' := [[(q, .cells [vt, vm].toArray 177 (0, 0))], Tt, Te]) (by simp) ?_
 have i1 := hO.oneCell
 refine Spec.body Tryz.func334 rfl Tryz.results334 Tryz.ntmps334 rfl ?_
 refine .sr<|.ag rfl<|.z<|.mo rfl<|.nc rfl<|.lo rfl<|.ag rfl<|.z<|.mo rfl<|.mo rfl<|.q (.lenO hO) ?_
 refine .q (.i64 ((L.length : Nat) : Int) .sub ⟨by simp, by omega, by omega⟩) ?_
 refine .indexO L.length hO (z := x) (by simp) (fun p1 => ?_)
 refine .lo rfl<|.ag rfl<|.z<|.mo rfl<|.mo rfl<|.mo rfl<|.q (.lenO hO) ?_
 refine .q (.i64 ((L.length : Nat) : Int) .sub ⟨by simp, by omega, by omega⟩) ?_
 refine .sliceO 0 L.length hO rfl ⟨_, rfl⟩ (by omega) (by simp) (fun v2 hO2 => ?_)
 have i2 := hO2.oneCell
 refine .nc rfl<|.store1 rfl rfl<|.z<|.mo rfl<|.q .makeInterface<|.ag rfl<|.zn ?_
 refine .ret (retQ_r _ (.one (.tmp rfl)) (.one [0, 0, 0] _) ?_)
 ·refine ⟨_, rfl, rfl, (q, .cells [v2, vm].toArray 177 (0, 0)) :: (Tt ++ entSeg L), L.length, ?_, v2, Tt, entSeg L, rfl, by simpa using hO2, .refl _, by omega⟩
  have : entSeg (L ++ [x]) = entSeg L ++ [(x.b, x.obj L.length)] := by simp [entSeg, List.zipIdx_append]
  rw [this] at hE
  simp only [take, dropAt, List.getD_cons_zero, List.flatten_cons, List.flatten_nil, List.append_nil, List.cons_append, List.nil_append, List.append_assoc]
  exact (hE.append_left Tt).cons _
theorem mLen : ∀ w, (typeInfo 236).run Tryz.prog w = .ok Tryz.t236 w := Tryz.typeInfo236
theorem tree_hi (q : Nat) (vm : Value) (R : Rds) : HI Tryz.prog R 236 (.pointer (some ⟨q, 0, none⟩)) elt (TI q vm) where
 bnd L T h := by obtain ⟨vt, Tt, Te, rfl, hO, hE, hl⟩ := h; exact hl
 len L T h := by
  obtain ⟨vt, Tt, Te, rfl, hO, hE, hl⟩ := h
  have hr : RS (Rx R [(q, .cells [vt, vm].toArray 177 (0, 0)) :: (Tt ++ Te)]) 1 encP vt L := hO.rs fun p hp => .inr (by simp [hp])
  refine (ISpec.keep (r := vt) (f := 328) (MthAt.val mLen (by kernel_rfl) inferInstance (by kernel_rfl) inferInstance (PC.of (vs := [vt, vm]) (E := 177) (fr := (0, 0)) (.inr (by simp)))) (tlen_spec vt L _ hr)).mono fun u T' hu => ?_
  obtain ⟨rfl, rfl⟩ := hu
  exact ⟨rfl, vt, Tt, Te, rfl, hO, hE, hl⟩
 less L T i k x y h hx hy := by
  obtain ⟨vt, Tt, Te, rfl, hO, hE, hl⟩ := h
  have hr : RS (Rx R [(q, .cells [vt, vm].toArray 177 (0, 0)) :: (Tt ++ Te)]) 1 encP vt L := hO.rs fun p hp => .inr (by simp [hp])
  have m1 := hE.mem_iff.2 (entSeg_mem hx)
  have m2 := hE.mem_iff.2 (entSeg_mem hy)
  refine (ISpec.keep (r := vt) (f := 329) (MthAt.val mLen (by kernel_rfl) inferInstance (by kernel_rfl) inferInstance (PC.of (vs := [vt, vm]) (E := 177) (fr := (0, 0)) (.inr (by simp)))) (tless_spec vt L _ hr i k x y hx hy (.inr (by simp [m1])) (.inr (by simp [m2])))).mono fun u T' hu => ?_
  obtain ⟨rfl, rfl⟩ := hu
  exact ⟨rfl, vt, Tt, Te, rfl, hO, hE, hl⟩
 swap L T i k h hi hk := by
  obtain ⟨vt, Tt, Te, rfl, hO, hE, hl⟩ := h
  refine ⟨330, vt, MthAt.val mLen (by kernel_rfl) inferInstance (by kernel_rfl) inferInstance (PC.of (vs := [vt, vm]) (E := 177) (fr := (0, 0)) (.inr (by simp))), inferInstance, ?_⟩
  refine Spec.segs (H' := [[(q, .cells [vt, vm].toArray 177 (0, 0))], Tt, Te]) (by simp) ?_
  refine Spec.flat ((Spec.lend [1, 1] (tswap_spec vt L Tt Te _ hO hE i k hi hk)).mono fun v H' hv => ?_)
  obtain ⟨H1, rfl, Tt', Te', rfl, hO', hE'⟩ := hv
  refine ⟨_, (q, .cells [vt, vm].toArray 177 (0, 0)) :: (Tt' ++ Te'), rfl, ?_, _, rfl, vt, Tt', Te', rfl, hO', hE', by rw [swp_length]; exact hl⟩
  simp only [rest, dropAt, List.flatten_append, List.flatten_cons, List.flatten_nil, List.append_nil]
  exact List.perm_append_comm
theorem tree_push (q : Nat) (vm : Value) (L : List XE) (T : Seg) (h : TI q vm L T) (e : XE) (hl : L.length < 1000000000) (R : Rds) : ISpec Tryz.prog 236 (.pointer (some ⟨q, 0, none⟩)) "Push" [.iface 234 e.ptr] R (T ++ [(e.b, e.obj 0)]) fun _ T' => TI q vm (L ++ [e]) T' :=
 ⟨335, _, MthAt.ptr mLen (by kernel_rfl) inferInstance (by kernel_rfl), inferInstance, tpush_spec q vm L T h e hl R⟩
theorem tree_pop (q : Nat) (vm : Value) (L : List XE) (x : XE) (T : Seg) (h : TI q vm (L ++ [x]) T) (R : Rds) : ISpec Tryz.prog 236 (.pointer (some ⟨q, 0, none⟩)) "Pop" [] R T fun v T' => v = .iface 234 x.ptr ∧ TJ q vm x L T' :=
 ⟨334, _, MthAt.ptr mLen (by kernel_rfl) inferInstance (by kernel_rfl), inferInstance, tpop_spec q vm L x T h R⟩
abbrev ptrV (b : Nat) : Value := .pointer (some ⟨b, 0, none⟩)
def XE.kb (e : XE) : ByteArray × Nat := (e.key, e.b)
def XE.ka (e : XE) : ByteArray × Int := (e.key, e.at_)
def QI (q : Nat) (A : List (ByteArray × Int)) (T : Seg) : Prop := ∃ L vm M T1 Tm, T = T1 ++ Tm ∧ TI q vm L T1 ∧ MS (fun s : ByteArray => .string s) ptrV vm M Tm ∧
 M.Perm (L.map XE.kb) ∧ Heap elt L L.length ∧ (L.map XE.ka).Perm A
theorem QI.nodup {q : Nat} {A : List (ByteArray × Int)} {T : Seg} (h : QI q A T) : (A.map (·.1)).Nodup := by
 obtain ⟨L, vm, M, T1, Tm, rfl, hT, hM, hp, hh, hA⟩ := h
 have h1 := (hp.map (·.1)).nodup_iff.1 hM.nd
 have h2 := (hA.map (·.1)).nodup_iff.1 (by rw [List.map_map] at h1 ⊢; exact h1)
 exact h2
theorem QI.len {q : Nat} {A : List (ByteArray × Int)} {T : Seg} (h : QI q A T) : A.length ≤ 1000000000 := by
 obtain ⟨L, vm, M, T1, Tm, rfl, ⟨vt, Tt, Te, _, _, _, hl⟩, hM, hp, hh, hA⟩ := h
 have := hA.length_eq
 simp at this; omega
theorem QI.perm {q : Nat} {A B : List (ByteArray × Int)} {T : Seg} (h : QI q A T) (hp : A.Perm B) : QI q B T := by
 obtain ⟨L, vm, M, T1, Tm, h1, h2, h3, h4, h5, h6⟩ := h
 exact ⟨L, vm, M, T1, Tm, h1, h2, h3, h4, h5, h6.trans hp⟩
theorem qnew_spec (R : Rds) : Spec Tryz.prog 63 [] R [] fun v H' => ∃ T, H' = [T] ∧ ∃ q, v = .pointer (some ⟨q, 0, none⟩) ∧ QI q [] T := by
 refine Spec.body Tryz.func63 rfl Tryz.results63 Tryz.ntmps63 rfl ?_
 refine .sr<|.ag rfl<|.z ?_
 refine .makeMap (fun b1 => ?_)
 refine .q .bld ?_
 refine .boxA rfl (fun b3 => ?_)
 refine .ag rfl<|.zn ?_
 refine .ret (retQ_r _ (.one (.tmp rfl)) (.one [0, 0] _) ?_)
 ·exact ⟨_, rfl, _, rfl, [], _, [], [(b3, .cells [.slice none 0 0, .map (some b1)].toArray 177 (0, 0))], _, rfl, ⟨_, [], [], rfl, OS.nil, .refl _, by simp⟩, MS.nil, .refl _, fun k h0 hk => by simp at hk, .refl _⟩
theorem qok_spec (q : Nat) (vt : Value) (b : Nat) (R : Rds) [pc : PC R (.pointer (some ⟨q, 0, none⟩)) [vt, .map (some b)]] :
  Spec Tryz.prog 252 [.pointer (some ⟨q, 0, none⟩)] R [] fun v H' => v = .bool true ∧ H' = [] := by
 refine Spec.body Tryz.func252 rfl Tryz.results252 Tryz.ntmps252 rfl ?_
 refine .sr<|.ag rfl<|.z<|.mo rfl<|.q (.neNilP rfl rfl) ?_
 refine .mo rfl<|.gt rfl ?_
 refine .mo rfl<|.gt rfl ?_
 refine .nc rfl<|.gt rfl ?_
 refine .fa rfl<|.gt rfl ?_
 refine .lo rfl<|.gt rfl ?_
 refine .q (.neNilM rfl rfl) ?_
 refine .q .pickT<|.ag rfl<|.zn ?_
 refine .ret (retQ_r _ (.one (.tmp rfl)) (.none _) ?_)
 ·exact ⟨rfl, rfl⟩
theorem qlen_spec (q : Nat) (A : List (ByteArray × Int)) (T : Seg) (h : QI q A T) (R : Rds) (hr : ∀ p ∈ T, R p.1 p.2) :
  Spec Tryz.prog 202 [.pointer (some ⟨q, 0, none⟩)] R [] fun v H' => v = .int .i64 A.length ∧ H' = [] := by
 obtain ⟨L, vm, M, T1, Tm, rfl, ⟨vt, Tt, Te, rfl, hO, hE, hl⟩, hM, hp, hh, hA⟩ := h
 obtain ⟨bm, rfl⟩ : ∃ b, vm = .map (some b) := by obtain ⟨b, es, clock, h1, _⟩ := hM; exact ⟨b, h1⟩
 have pq : PC R (.pointer (some ⟨q, 0, none⟩)) [vt, .map (some bm)] := PC.of (E := 177) (fr := (0, 0)) (hr (q, .cells [vt, .map (some bm)].toArray 177 (0, 0)) (by simp))
 have hs : RS R 1 encP vt L := hO.rs fun p hp => hr p (by simp [hp])
 have i1 := hO.oneCell
 refine Spec.body Tryz.func202 rfl Tryz.results202 Tryz.ntmps202 rfl ?_
 refine .sr<|.ag rfl<|.zs<|.sr<|.mo rfl ?_
 refine .callR (qok_spec q vt bm _) (fun v hv => ?_)
 subst hv
 refine .q .not<|.zn<|.condF<|.kn<|.sr<|.mo rfl<|.nc rfl<|.fa rfl<|.lo rfl<|.q (.lenR hs) ?_
 refine .ag rfl<|.zn ?_
 refine .ret (retQ_r _ (.one (.tmp rfl)) (.none _) ?_)
 ·exact ⟨by rw [← hA.length_eq]; simp, rfl⟩
theorem at_get {L : List XE} {M : List (ByteArray × Nat)} {A : List (ByteArray × Int)} (hn : (M.map (·.1)).Nodup) (hp : M.Perm (L.map XE.kb)) (hA : (L.map XE.ka).Perm A) (key : ByteArray) :
  (mget key M = none ∧ mget key A = none ∧ ∀ e ∈ L, e.key ≠ key) ∨ ∃ (i : Nat) (e : XE), L[i]? = some e ∧ e.key = key ∧ mget key M = some e.b ∧ mget key A = some e.at_ := by
 have hnL : ((L.map XE.kb).map (·.1)).Nodup := (hp.map (·.1)).nodup_iff.1 hn
 have hnA : (A.map (·.1)).Nodup := (hA.map (·.1)).nodup_iff.1 (by rw [List.map_map] at hnL ⊢; exact hnL)
 cases hm : mget key M with
 | none =>
  have h1 := mget_none.1 hm
  have h2 : ∀ e ∈ L, e.key ≠ key := fun e he hk => h1 (by
   rw [(hp.map (·.1)).mem_iff, List.map_map]
   exact List.mem_map.2 ⟨e, he, hk⟩)
  refine .inl ⟨rfl, mget_none.2 fun hc => ?_, h2⟩
  rw [← (hA.map (·.1)).mem_iff, List.map_map] at hc
  obtain ⟨e, he, hk⟩ := List.mem_map.1 hc
  exact h2 e he hk
 | some b =>
  have h1 := hp.mem_iff.1 (mget_some hm)
  obtain ⟨e, he, hk⟩ := List.mem_map.1 h1
  simp only [XE.kb, Prod.mk.injEq] at hk
  obtain ⟨i, hi, hie⟩ := List.mem_iff_getElem.1 he
  refine .inr ⟨i, e, by rw [List.getElem?_eq_getElem hi, hie], hk.1, by rw [hk.2], mget_of_mem hnA (hA.mem_iff.1 (List.mem_map.2 ⟨e, he, ?_⟩))⟩
  simp [XE.ka, hk.1]
set_option maxRecDepth 4000
theorem OS.congr {α β : Type} {E sz : Nat} {enc : α → List Value} {enc' : β → List Value} {v : Value} {xs : List α} {ys : List β} {T : Seg} (h : OS E sz enc v xs T) (he : ys.map enc' = xs.map enc) : OS E sz enc' v ys T := by
 have hl : ys.length = xs.length := by simpa using congrArg List.length he
 have hf : ys.flatMap enc' = xs.flatMap enc := by rw [List.flatMap_def, List.flatMap_def, he]
 have hm : ∀ y ∈ ys, ∃ x ∈ xs, enc' y = enc x := fun y hy => by
  have : enc' y ∈ xs.map enc := he ▸ List.mem_map_of_mem hy
  obtain ⟨x, hx, e⟩ := List.mem_map.1 this
  exact ⟨x, hx, e.symm⟩
 refine ⟨fun y hy => ?_, fun y hy => ?_, ?_⟩
 ·obtain ⟨x, hx, e⟩ := hm y hy; rw [e]; exact h.len x hx
 ·obtain ⟨x, hx, e⟩ := hm y hy; rw [e]; exact h.one x hx
 ·rcases h.h with ⟨h1, h2, h3⟩ | ⟨b, off, c, cap, h1, h2, h3, h4, h5, h6⟩
  ·exact .inl ⟨h1, List.length_eq_zero_iff.1 (by rw [hl, h2]; rfl), h3⟩
  ·exact .inr ⟨b, off, c, cap, by rw [hl]; exact h1, h2, by omega, h4, h5, by rw [hf]; exact h6⟩
theorem TI.set {q : Nat} {vm : Value} {L : List XE} {T : Seg} (h : TI q vm L T) (hn : (T.map (·.1)).Nodup) {i : Nat} {e e' : XE} (hi : L[i]? = some e) (hb : e'.b = e.b) : TI q vm (L.set i e') (upB T e.b (e'.obj i)) := by
 obtain ⟨vt, Tt, Te, rfl, hO, hE, hl⟩ := h
 have hm := hE.mem_iff.2 (entSeg_mem hi)
 have hn' := hn
 simp only [List.map_cons, List.map_append, List.nodup_cons, List.nodup_append, List.mem_append] at hn
 obtain ⟨h1, h2, h3, h4⟩ := hn
 have hbT : e.b ∈ Te.map (·.1) := List.mem_map_of_mem hm
 have hq : q ≠ e.b := fun hh => h1 (.inr (hh ▸ hbT))
 have ht : upB Tt e.b (e'.obj i) = Tt := upB_old fun p hp hh => h4 p.1 (List.mem_map_of_mem hp) e.b hbT hh
 have hnL : (L.map (·.b)).Nodup := by rw [← entSeg_ids, ← (hE.map (·.1)).nodup_iff]; exact h3
 refine ⟨vt, Tt, upB Te e.b (e'.obj i), ?_, hO.congr ?_, ?_, by simpa using hl⟩
 ·have : upB ((q, Obj.cells [vt, vm].toArray 177 (0, 0)) :: (Tt ++ Te)) e.b (e'.obj i) = (q, Obj.cells [vt, vm].toArray 177 (0, 0)) :: (upB Tt e.b (e'.obj i) ++ upB Te e.b (e'.obj i)) := by simp [upB, hq]
  rw [this, ht]
 ·apply List.ext_getElem?
  intro j
  rw [List.getElem?_map, List.getElem?_map, List.getElem?_set]
  by_cases hij : i = j
  ·subst hij
   have : i < L.length := (List.getElem?_eq_some_iff.1 hi).1
   rw [if_pos rfl, if_pos this, hi]
   simp [encP, XE.ptr, hb]
  ·simp [hij]
 ·refine (upB_perm hE).trans ?_
  have : upB (entSeg L) e.b (e'.obj i) = entSeg (L.set i e') := by
   apply List.ext_getElem?
   intro j
   rw [upB_get, entSeg_get, entSeg_get, List.getElem?_set]
   by_cases hij : i = j
   ·subst hij
    have : i < L.length := (List.getElem?_eq_some_iff.1 hi).1
    rw [if_pos rfl, if_pos this, hi]
    simp [hb]
   ·simp only [hij, if_false]
    cases hj : L[j]? with
    | none => rfl
    | some u =>
     have : u.b ≠ e.b := fun hh => hij (ent_inj hnL hj hi hh).symm
     simp [this]
  rw [this]
theorem TI.ps {q : Nat} {vm : Value} {L : List XE} {T : Seg} (h : TI q vm L T) : ∃ vt, One vt ∧ PS T (.pointer (some ⟨q, 0, none⟩)) [vt, vm] := by
 obtain ⟨vt, Tt, Te, rfl, hO, hE, hl⟩ := h
 exact ⟨vt, hO.oneCell, PS.of (E := 177) (fr := (0, 0)) (by simp)⟩
theorem TI.mem {q : Nat} {vm : Value} {L : List XE} {T : Seg} (h : TI q vm L T) {i : Nat} {e : XE} (hi : L[i]? = some e) : (e.b, e.obj i) ∈ T := by
 obtain ⟨vt, Tt, Te, rfl, hO, hE, hl⟩ := h
 have := hE.mem_iff.2 (entSeg_mem hi)
 simp [this]
theorem set_split {L : List XE} {i : Nat} {e : XE} (hi : L[i]? = some e) : ∃ L1 L2, L = L1 ++ e :: L2 ∧ ∀ e', L.set i e' = L1 ++ e' :: L2 := by
 obtain ⟨h, rfl⟩ := List.getElem?_eq_some_iff.1 hi
 refine ⟨L.take i, L.drop (i + 1), ?_, fun e' => ?_⟩
 ·rw [List.getElem_cons_drop, List.take_append_drop]
 ·rw [List.set_eq_take_append_cons_drop, if_pos h]
theorem qset_spec (q : Nat) (A : List (ByteArray × Int)) (T : Seg) (h : QI q A T) (key : ByteArray) (at_ : Int) (hl : A.length < 1000000000) (R : Rds) :
  Spec Tryz.prog 216 [.pointer (some ⟨q, 0, none⟩), .string key, .int .i64 at_] R [T] fun v H' => ∃ T', H' = [T'] ∧ v = .tuple #[] ∧ QI q (kset key at_ A) T' := by
 have hnA := h.nodup
 obtain ⟨L, vm, M, T1, Tm, rfl, hT, hM, hp, hh, hA⟩ := h
 obtain ⟨bm, rfl⟩ : ∃ b, vm = .map (some b) := by obtain ⟨b, es, clock, h1, _⟩ := hM; exact ⟨b, h1⟩
 obtain ⟨vt, i1, ps⟩ := hT.ps
 have hg := at_get hM.nd hp hA key
 have hLl : L.length = A.length := by simpa using hA.length_eq
 refine Spec.segs (H' := [T1, Tm]) (by simp) ?_
 refine Spec.body Tryz.func216 rfl Tryz.results216 Tryz.ntmps216 rfl ?_
 refine .seq<|.sr<|.mo rfl ?_
 refine .callR (qok_spec q vt bm _) (fun v hv => ?_)
 subst hv
 refine .q .not<|.zn<|.condF<|.kn<|.seq<|.sr<|.mo rfl<|.nc rfl<|.fa rfl<|.lo rfl<|.mo rfl<|.q (.lookup2 hM.rx rfl (show _ = some (Value.string key) from rfl)) ?_
 refine .mo rfl<|.q .extract<|.q .extract<|.ag rfl<|.ag rfl<|.z<|.mo rfl<|.zn ?_
 refine .cond rfl (fun h2 => ?_) (fun h2 => ?_)
 obtain ⟨i, e, hi, hk, hm, ha⟩ : ∃ (i : Nat) (e : XE), L[i]? = some e ∧ e.key = key ∧ mget key M = some e.b ∧ mget key A = some e.at_ := by
  rcases hg with ⟨h3, _⟩ | h3
  ·rw [h3] at h2; simp at h2
  ·exact h3
 have me := hT.mem hi
 have pe : PS T1 (.pointer (some ⟨e.b, 0, none⟩)) (e.cells i) := PS.of me
 obtain ⟨e', he'⟩ : ∃ e' : XE, e' = ⟨e.b, e.key, at_⟩ := ⟨_, rfl⟩
 rw [hm]
 simp only [Option.map_some, Option.getD_some]
 refine .sr<|.mo rfl<|.mo rfl<|.nc rfl<|.fa rfl ?_
 refine .nodup fun hnd => ?_
 have hnT : (T1.map (·.1)).Nodup := by
  simp only [List.flatten_cons, List.map_append, List.nodup_append] at hnd
  exact hnd.1
 refine .storeB (vs := e.cells i) (off := 1) me ?_
 rw [show Obj.cells (setL (e.cells i) 1 [.int .i64 at_]).toArray 233 (0, 0) = e'.obj i from by rw [he']; rfl]
 have hT' := hT.set hnT hi (e' := e') (by rw [he'])
 have pe' : PS (upB T1 e.b (e'.obj i)) (.pointer (some ⟨e.b, 0, none⟩)) (e'.cells i) := PS.of (upB_self me)
 generalize upB T1 e.b (e'.obj i) = T1' at hT' pe' ⊢
 obtain ⟨vt', i1', ps'⟩ := hT'.ps
 clear pe ps
 have hil : i < L.length := (List.getElem?_eq_some_iff.1 hi).1
 have hhole : Hole elt (L.set i e') (L.set i e').length i := by
  rw [List.length_set]
  exact hh.hole elt_so (Nat.le_refl _) fun k hk hki => by rw [List.getElem?_set_ne (Ne.symm hki)]
 refine .zs ?_
 refine .region_tail 8 mixed (by kernel_rfl) ?_
 conv => arg 6; dsimp only [List.take]
 refine .mo rfl<|.nc rfl<|.fa rfl<|.q .makeInterface<|.mo rfl<|.nc rfl<|.fa rfl<|.lo rfl<|.nil ?_
 refine .callM (fix_spec (tree_hi q (.map (some bm)) _) elt_so _ _ hT' i (by simpa using hil) hhole) (fun v T2 hv => ?_)
 obtain ⟨rfl, L2, hT2, hp2, hh2⟩ := hv
 refine .zn ?_
 refine .ret (seqQ_r (retQ_r _ .none (HLe.merge [0, 0] _) ?_))
 ·obtain ⟨L1, L3, hs1, hs2⟩ := set_split hi
  have hs := hs2 e'
  have hkb : e'.kb = e.kb := by rw [he']; rfl
  refine ⟨T2 ++ Tm, by simp [take, rest, dropAt], rfl, L2, _, M, T2, Tm, rfl, hT2, hM, ?_, hh2, ?_⟩
  ·refine hp.trans ?_
   have : (L.set i e').map XE.kb = L.map XE.kb := by rw [hs, hs1]; simp [hkb]
   rw [← this]
   exact (hp2.map _).symm
  ·refine ((hp2.map _).trans ?_).trans (kset_perm hA)
   have hnL : ((L.map XE.ka).map (·.1)).Nodup := (hA.map (·.1)).nodup_iff.2 hnA
   rw [hs, hs1] at *
   simp only [List.map_append, List.map_cons] at hnL ⊢
   have e1 : e'.ka = (key, at_) := by rw [he']; simp [XE.ka, hk]
   have e2 : e.ka = (key, e.at_) := by simp [XE.ka, hk]
   rw [e1, e2]
   exact kset_mid (by rw [← e2]; simpa using hnL)
 have hnone : mget key M = none ∧ mget key A = none ∧ ∀ e ∈ L, e.key ≠ key := by
  rcases hg with h3 | ⟨i, e, _, _, h3, _⟩
  ·exact h3
  ·rw [h3] at h2; simp at h2
 refine .kn<|.sr<|.mo rfl<|.mo rfl ?_
 refine .q .bld ?_
 refine .boxA rfl (fun b38 => ?_)
 refine .ag rfl<|.z<|.mo rfl<|.nc rfl<|.fa rfl<|.lo rfl<|.mo rfl<|.mo rfl ?_
 refine .update (u := b38) hM rfl (show _ = some (Value.string key) from rfl) rfl (fun Tm2 hM2 _ => ?_)
 refine .zn<|.region<|.mo rfl<|.nc rfl<|.fa rfl<|.q .makeInterface<|.mo rfl<|.q .makeInterface ?_
 obtain ⟨e, he⟩ : ∃ e : XE, e = ⟨b38, key, at_⟩ := ⟨_, rfl⟩
 refine .sub (H' := [T1 ++ [(e.b, e.obj 0)], Tm2]) (HLe.ofPerm (by
  rw [he]
  simp only [List.flatten_cons, List.flatten_nil, List.append_nil, List.append_assoc, List.cons_append, List.nil_append]
  exact List.perm_middle.symm)) ?_
 refine .callM (push_spec (tree_hi q (.map (some bm)) _) elt_so L _ (.iface 234 e.ptr) e (tree_push q (.map (some bm)) L T1 hT e (by omega) _) hh) (fun v T2 hv => ?_) (hxs := by rw [he]; rfl)
 obtain ⟨rfl, L2, hT2, hp2, hh2⟩ := hv
 refine .nil<|retQ_n _ .none (HLe.merge [0, 0] _) ?_
 ·refine ⟨T2 ++ Tm2, by simp [take, rest, dropAt], rfl, L2, _, _, T2, Tm2, rfl, hT2, hM2, ?_, hh2, ?_⟩
  ·rw [mset_new (mget_none.1 hnone.1)]
   refine (hp.append_right _).trans ?_
   have := (hp2.map XE.kb).symm
   rw [List.map_append] at this
   rw [he] at this
   exact this
  ·refine (hp2.map _).trans ?_
   unfold kset
   rw [kdel_none (mget_none.1 hnone.2.1), List.map_append, he]
   exact hA.append_right _
theorem rest_pairs {L L' : List XE} {x : XE} {M : List (ByteArray × Nat)} {A : List (ByteArray × Int)} (hn : (M.map (·.1)).Nodup) (hp : M.Perm (L.map XE.kb)) (hA : (L.map XE.ka).Perm A) (hL : L.Perm (x :: L')) :
  (mdel x.key M).Perm (L'.map XE.kb) ∧ (L'.map XE.ka).Perm (kdel x.key A) := by
 have h1 : M.Perm ((x.key, x.b) :: L'.map XE.kb) := hp.trans (hL.map _)
 have h2 : A.Perm ((x.key, x.at_) :: L'.map XE.ka) := hA.symm.trans (hL.map _)
 have n1 := (h1.map (·.1)).nodup_iff.1 hn
 simp only [List.map_cons, List.nodup_cons] at n1
 have n2 : x.key ∉ (L'.map XE.ka).map (·.1) := by rw [List.map_map] at n1 ⊢; exact n1.1
 refine ⟨?_, ?_⟩
 ·rw [mdel_kdel hn]
  have := kdel_perm (k := x.key) h1
  rwa [kdel_cons n1.1] at this
 ·have := kdel_perm (k := x.key) h2
  rw [kdel_cons n2] at this
  exact this.symm
theorem qdrop_spec (q : Nat) (A : List (ByteArray × Int)) (T : Seg) (h : QI q A T) (key : ByteArray) (R : Rds) :
  Spec Tryz.prog 208 [.pointer (some ⟨q, 0, none⟩), .string key] R [T] fun v H' => ∃ T', H' = [T'] ∧ v = .bool (mget key A).isSome ∧ QI q (kdel key A) T' := by
 have hnA := h.nodup
 obtain ⟨L, vm, M, T1, Tm, rfl, hT, hM, hp, hh, hA⟩ := h
 obtain ⟨bm, rfl⟩ : ∃ b, vm = .map (some b) := by obtain ⟨b, es, clock, h1, _⟩ := hM; exact ⟨b, h1⟩
 obtain ⟨vt, i1, ps⟩ := hT.ps
 have hg := at_get hM.nd hp hA key
 refine Spec.segs (H' := [T1, Tm]) (by simp) ?_
 refine Spec.body Tryz.func208 rfl Tryz.results208 Tryz.ntmps208 rfl ?_
 refine .sr<|.ag rfl<|.zs<|.sr<|.mo rfl ?_
 refine .callR (qok_spec q vt bm _) (fun v hv => ?_)
 subst hv
 refine .q .not<|.zn<|.condF<|.kn<|.sr<|.mo rfl<|.nc rfl<|.fa rfl<|.lo rfl<|.mo rfl<|.q (.lookup2 hM.rx rfl (show _ = some (Value.string key) from rfl)) ?_
 refine .mo rfl<|.q .extract<|.q .extract<|.ag rfl<|.ag rfl<|.zs<|.sr<|.mo rfl<|.zn ?_
 refine .cond rfl (fun h2 => ?_) (fun h2 => ?_)
 obtain ⟨i, e, hi, hk, hm, ha⟩ : ∃ (i : Nat) (e : XE), L[i]? = some e ∧ e.key = key ∧ mget key M = some e.b ∧ mget key A = some e.at_ := by
  rcases hg with ⟨h3, _⟩ | h3
  ·rw [h3] at h2; simp at h2
  ·exact h3
 have me := hT.mem hi
 have pe : PS T1 (.pointer (some ⟨e.b, 0, none⟩)) (e.cells i) := PS.of me
 rw [hm]
 simp only [Option.map_some, Option.getD_some]
 refine .seq ?_
 refine .region_tail 8 mixed (by kernel_rfl) ?_
 conv => arg 6; dsimp only [List.take]
 refine .mo rfl<|.nc rfl<|.fa rfl<|.q .makeInterface<|.mo rfl<|.nc rfl<|.fa rfl<|.lo rfl<|.nil ?_
 refine .callM (remove_spec (tree_hi q (.map (some bm)) _) elt_so L T1 hT i e hi hh (fun x => .iface 234 x.ptr) (TJ q (.map (some bm)) e) (fun L' T' h' _ => tree_pop q _ L' e T' h' _)) (fun v T2 hv => ?_)
 obtain ⟨rfl, L2, ⟨T3, i3, hp3, hT3⟩, hp2, hh2⟩ := hv
 obtain ⟨vt', i1', ps'⟩ := hT3.ps
 refine .sub (H' := [T3, Tm, [(e.b, e.obj i3)]]) (HLe.ofPerm (by
  simp only [List.flatten_cons, List.flatten_nil, List.append_nil]
  refine (hp3.append_right Tm).trans ?_
  rw [List.append_assoc]
  exact List.perm_append_comm.append_left T3)) ?_
 refine .zn<|.region<|.mo rfl<|.nc rfl<|.fa rfl<|.lo rfl<|.mo rfl ?_
 refine .delete hM rfl (show _ = some (Value.string key) from rfl) (fun Tm2 hM2 _ => ?_)
 refine .z<|.mo rfl<|.ag rfl<|.zn ?_
 refine .ret (retQ_r _ (.one (.tmp rfl)) (HLe.one [0, 0] _) ?_)
 ·obtain ⟨g1, g2⟩ := rest_pairs hM.nd hp hA hp2
  rw [hk] at g1 g2
  refine ⟨T3 ++ Tm2, by simp [take, dropAt], by rw [ha]; rfl, L2, _, _, T3, Tm2, rfl, hT3, hM2, g1, hh2, g2⟩
 have hnone : mget key M = none ∧ mget key A = none ∧ ∀ e ∈ L, e.key ≠ key := by
  rcases hg with h3 | ⟨i, e, _, _, h3, _⟩
  ·exact h3
  ·rw [h3] at h2; simp at h2
 refine .kn<|.sr<|.mo rfl<|.ag rfl<|.zn ?_
 refine .ret (retQ_r _ (.one (.tmp rfl)) (HLe.one [0, 0] _) ?_)
 ·refine ⟨T1 ++ Tm, by simp [take, dropAt], by rw [hnone.1, hnone.2.1]; rfl, L, _, M, T1, Tm, rfl, hT, hM, hp, hh, ?_⟩
  rw [kdel_none (mget_none.1 hnone.2.1)]
  exact hA
def kaLt (p r : ByteArray × Int) : Bool := decide (p.2 < r.2) || decide (p.2 = r.2) && sLt p.1 r.1
theorem elt_ka {e f : XE} : elt e f = kaLt e.ka f.ka := by
 rw [show kaLt e.ka f.ka = (decide (e.at_ < f.at_) || decide (e.at_ = f.at_) && sLt e.key f.key) from rfl, Bool.eq_iff_iff, ecmp_lt]
 simp only [Bool.or_eq_true, Bool.and_eq_true, decide_eq_true_eq]
theorem TI.read {q : Nat} {vm : Value} {L : List XE} {T : Seg} (h : TI q vm L T) : ∃ vt, One vt ∧ PS T (.pointer (some ⟨q, 0, none⟩)) [vt, vm] ∧ RS (sg T) 1 encP vt L ∧ ∀ (i : Nat) (e : XE), L[i]? = some e → PS T (.pointer (some ⟨e.b, 0, none⟩)) (e.cells i) := by
 have hm := fun (i : Nat) (e : XE) (hi : L[i]? = some e) => h.mem hi
 obtain ⟨vt, Tt, Te, rfl, hO, hE, hl⟩ := h
 exact ⟨vt, hO.oneCell, PS.of (E := 177) (fr := (0, 0)) (by simp), hO.rs fun p hp => by simp [sg, hp], fun i e hi => PS.of (hm i e hi)⟩
structure DueR (A : List (ByteArray × Int)) (now : Int) (B A' : List (ByteArray × Int)) : Prop where
 pm : A.Perm (B ++ A')
 ord : B.Pairwise fun p r => kaLt r p = false
 le : ∀ p ∈ B, p.2 ≤ now
 front : ∀ p ∈ B, ∀ r ∈ A', kaLt r p = false
theorem DueR.filter {A B A' : List (ByteArray × Int)} {now : Int} (h : DueR A now B A') (h' : ∀ p ∈ A', now < p.2) : A'.Perm (A.filter fun p => decide (now < p.2)) := by
 have h1 := h.pm.filter (fun p => decide (now < p.2))
 rw [List.filter_append] at h1
 have e1 : B.filter (fun p => decide (now < p.2)) = [] := by
  rw [List.filter_eq_nil_iff]
  intro p hp
  have := h.le p hp
  simp; omega
 have e2 : A'.filter (fun p => decide (now < p.2)) = A' := by
  rw [List.filter_eq_self]
  intro p hp
  simpa using h' p hp
 rw [e1, e2] at h1
 exact h1.symm
theorem qdue_spec (q : Nat) (A : List (ByteArray × Int)) (T : Seg) (h : QI q A T) (now : Int) (R : Rds) :
  Spec Tryz.prog 139 [.pointer (some ⟨q, 0, none⟩), .int .i64 now] R [T] fun v H' => ∃ T' To B A', H' = [T', To] ∧ OS 9 1 encS v (B.map (·.1)) To ∧ QI q A' T' ∧ DueR A now B A' ∧ ∀ p ∈ A', now < p.2 := by
 refine Spec.segs (H' := [T, []]) (by simp) ?_
 refine Spec.body Tryz.func139 rfl Tryz.results139 Tryz.ntmps139 rfl ?_
 refine .sr<|.ag rfl<|.z<|.ag rfl<|.zs<|.block ?_
 refine .loop (X := List (ByteArray × Int) × List (ByteArray × Int) × Value × Seg × Seg) (fun y => QI q y.1 y.2.2.2.1 ∧ OS 9 1 encS y.2.2.1 (y.2.1.map (·.1)) y.2.2.2.2 ∧ DueR A now y.2.1 y.1) (fun y => [(0, .pointer (some ⟨q, 0, none⟩)), (1, .int .i64 now), (5, y.2.2.1)]) (fun y => [y.2.2.2.1, y.2.2.2.2]) (fun y => y.1.length) (A, [], .slice none 0 0, T, []) ⟨h, OS.nil, ⟨.refl _, by simp, by simp, by simp⟩⟩ (EnvLe.k3 rfl rfl rfl) (HLe.refl _) ?_
 rintro ⟨A1, B, v, T1, To⟩ ⟨hQ, hO, hD⟩
 simp only at hQ hO hD ⊢
 have hQ' := hQ
 have hlen := hQ.len
 have hAB := hD.pm.length_eq
 have hA0 := h.len
 obtain ⟨L, vm, M, T2, Tm, hT12, hT, hM, hp, hh, hA⟩ := hQ
 obtain ⟨vt, i1, ps, hs, pe⟩ := hT.read
 have i2 := hO.oneCell
 have hlA : A1.length = L.length := by simpa using hA.length_eq.symm
 have hsub : HLe [T1, To] [T2, Tm, To] := HLe.ofPerm (by rw [hT12]; simp)
 refine .seq<|.sr<|.mo rfl ?_
 refine .callR (qlen_spec q A1 _ hQ' _ (fun p hp => .inr (by simp [hp]))) (fun v hv => ?_)
 subst hv
 refine .q .gtr<|.mo rfl ?_
 refine .split (t := 10) rfl (fun g2_3 => ?_) (fun g2_3 => ?_)
 obtain ⟨e, he⟩ : ∃ e, L[0]? = some e := ⟨_, List.getElem?_eq_getElem (by simp at g2_3; omega)⟩
 have pe1 := pe 0 e he
 have px : PS T2 (baseP vt (0 * 1)) (encP e) := ⟨hs.pc he⟩
 refine .sub hsub ?_
 refine .gT g2_3<|.mo rfl<|.gT g2_3<|.nc rfl<|.gT g2_3<|.fa rfl<|.gT g2_3<|.lo rfl<|.gT g2_3<|.q (.indexR 0 hs he rfl rfl rfl) ?_
 refine .gT g2_3<|.lo rfl<|.gT g2_3<|.nc rfl<|.gT g2_3<|.fa rfl<|.gT g2_3<|.lo rfl<|.gT g2_3<|.mo rfl<|.gT g2_3<|.q .leq<|.q (.pickTh g2_3) ?_
 refine .zn ?_
 refine .cond rfl (fun h1 => ?_) (fun h1 => ?_)
 refine .kn<|.block<|.sr<|.mo rfl<|.nc rfl<|.fa rfl<|.q .makeInterface ?_
 refine .callM (pop_spec (tree_hi q vm _) elt_so L T2 hT e he hh (fun x => .iface 234 x.ptr) (TJ q vm e) (fun L' T' h' _ => tree_pop q _ L' e T' h' _)) (fun v T2 hv => ?_)
 obtain ⟨rfl, L2, ⟨T3, i3, hp3, hT3⟩, hp2, hh2⟩ := hv
 obtain ⟨vt', i1', ps'⟩ := hT3.ps
 have pe3 : PS [(e.b, e.obj i3)] (.pointer (some ⟨e.b, 0, none⟩)) (e.cells i3) := PS.of (E := 233) (fr := (0, 0)) (by simp [XE.obj])
 refine .sub (H' := [T3, Tm, To, [(e.b, e.obj i3)]]) (HLe.ofPerm (by
  simp only [List.flatten_cons, List.flatten_nil, List.append_nil]
  refine (hp3.append_right _).trans ?_
  simpa [List.append_assoc] using (List.perm_append_comm (l₁ := [(e.b, e.obj i3)]) (l₂ := Tm ++ To)).append_left T3)) ?_
 refine .q (.assertC) ?_
 refine .ag rfl<|.zs ?_
 refine .region_tail 8 mixed (by kernel_rfl) ?_
 conv => arg 6; dsimp only [List.take]
 refine .mo rfl<|.nc rfl<|.fa rfl<|.lo rfl<|.mo rfl<|.nc rfl<|.fa rfl<|.lo rfl<|.nil ?_
 obtain ⟨g1, g2⟩ := rest_pairs hM.nd hp hA hp2
 refine .delete hM rfl (show _ = some (Value.string e.key) from rfl) (fun Tm2 hM2 _ => ?_)
 refine .zn<|.region<|.mo rfl<|.mo rfl<|.nc rfl<|.fa rfl<|.lo rfl ?_
 refine .buildSlice11 (fun b42 => ?_)
 refine .append hO (RS.lits (xs := [e.key]) rfl (by simp [encS]) (by simp [encS, oneCell])) (by simp at hAB ⊢; omega) (fun v3 To3 hO3 => ?_)
 refine .ag rfl<|.nil<|blkQ_n ?_
 ·have hle : e.at_ ≤ now := by simpa using h1
  have hmin : ∀ r ∈ A1, kaLt r e.ka = false := fun r hr2 => by
   obtain ⟨f, hf, rfl⟩ := List.mem_map.1 (hA.mem_iff.2 hr2)
   obtain ⟨k, hk, hfk⟩ := List.mem_iff_getElem.1 hf
   rw [← elt_ka]
   exact hh.least elt_so he k f (by rw [List.getElem?_eq_getElem hk, hfk])
  have hpA : A1.Perm (e.ka :: kdel e.key A1) := hA.symm.trans ((hp2.map _).trans (g2.cons _))
  have hmem : e.ka ∈ A1 := hpA.mem_iff.2 (by simp)
  refine loopQ_i (kdel e.key A1, B ++ [e.ka], v3, T3 ++ Tm2, To3) ⟨⟨L2, vm, _, T3, Tm2, rfl, hT3, hM2, g1, hh2, g2⟩, by rw [List.map_append]; exact hO3, ⟨?_, ?_, ?_, ?_⟩⟩ ?_ (EnvLe.k3 rfl rfl rfl) ?_
  ·refine hD.pm.trans ?_
   simp only [List.append_assoc]
   exact hpA.append_left B
  ·rw [List.pairwise_append]
   exact ⟨hD.ord, by simp, fun p hp r hr => by simp at hr; subst hr; exact hD.front p hp _ hmem⟩
  ·intro p hp
   rcases List.mem_append.1 hp with hp | hp
   ·exact hD.le p hp
   ·simp at hp; subst hp; exact hle
  ·intro p hp r hr
   have hr' : r ∈ A1 := (List.mem_filter.1 hr).1
   rcases List.mem_append.1 hp with hp | hp
   ·exact hD.front p hp r hr'
   ·simp at hp; subst hp; exact hmin r hr'
  ·have := hpA.length_eq
   simp at this ⊢; omega
  ·exact (HLe.pick [1, 1, 1] _).trans (HLe.ofPerm (by simp [take, dropAt]))
 refine .exit<|seqQ_x<|loopQ_x<|blkQ_x<|seqQ_n<|.sr<|.mo rfl<|.ag rfl<|.zn ?_
 refine .ret (retQ_r _ (.one (.tmp rfl)) (HLe.ofPerm (H' := [T2 ++ Tm, To]) (by simp)) ?_)
 ·refine ⟨T2 ++ Tm, To, B, A1, rfl, hO, hT12 ▸ hQ', hD, fun p hp => ?_⟩
  have hle : now < e.at_ := by simpa using h1
  obtain ⟨f, hf, rfl⟩ := List.mem_map.1 (hA.mem_iff.2 hp)
  obtain ⟨k, hk, hfk⟩ := List.mem_iff_getElem.1 hf
  have h3 := hh.least elt_so he k f (by rw [List.getElem?_eq_getElem hk, hfk])
  rw [Bool.eq_false_iff, ne_eq, ecmp_lt] at h3
  have h4 : e.at_ ≤ f.at_ := by omega
  show now < f.at_
  omega
 refine .gF g2_3<|.gF g2_3<|.gF g2_3<|.gF g2_3<|.gF g2_3<|.gF g2_3<|.gF g2_3<|.gF g2_3<|.gF g2_3<|.gF g2_3<|.gF g2_3<|.q (.pickFh g2_3) ?_
 refine .zn<|.condF<|.exit<|seqQ_x<|loopQ_x<|blkQ_x<|seqQ_n<|.sr<|.mo rfl<|.ag rfl<|.zn ?_
 refine .ret (retQ_r _ (.one (.tmp rfl)) (HLe.refl _) ?_)
 ·have hz : A1 = [] := by
   rcases A1 with _ | ⟨a, r⟩
   ·rfl
   ·simp at g2_3
  exact ⟨T1, To, B, A1, rfl, hO, hQ', hD, by rw [hz]; simp⟩
def short (s : ByteArray) (n : Nat) : ByteArray := if n < s.size then s.extract 0 n else s
theorem short_size {s : ByteArray} {n : Nat} : (short s n).size ≤ n := by
 unfold short
 split
 ·rw [ByteArray.size_extract]; omega
 ·omega
theorem short_spec (s : ByteArray) (n : Nat) (R : Rds) : Spec Tryz.prog 33 [.string s, .int .i64 n] R [] fun v H' => v = .string (short s n) ∧ H' = [] := by
 refine Spec.body Tryz.func33 rfl Tryz.results33 Tryz.ntmps33 rfl ?_
 refine .sr<|.ag rfl<|.zs<|.sr<|.mo rfl<|.q .lenS<|.mo rfl<|.q .gtr<|.zn ?_
 refine .cond rfl (fun h1 => ?_) (fun h1 => ?_)
 refine .sr<|.mo rfl<|.mo rfl ?_
 have hlt : n < s.size := by simp at h1; omega
 refine .q (.sliceStr (s := s) 0 n rfl ⟨_, rfl⟩ (by omega) (by omega)) ?_
 refine .ag rfl<|.zn ?_
 refine .ret (seqQ_r (retQ_r _ (.one (.tmp rfl)) (.none _) ?_))
 ·exact ⟨by unfold short; rw [if_pos (by simp at h1; omega)], rfl⟩
 refine .kn<|.sr<|.mo rfl<|.ag rfl<|.zn ?_
 refine .ret (retQ_r _ (.one (.tmp rfl)) (.none _) ?_)
 ·exact ⟨by unfold short; rw [if_neg (by simp at h1; omega)], rfl⟩
theorem sclone_spec (v : Value) (xs : List ByteArray) (R : Rds) (h : RS R 1 encS v xs) (hl : xs.length ≤ 1000000) :
  Spec Tryz.prog 56 [v] R [] fun v' H' => ∃ T, H' = [T] ∧ OS 9 1 encS v' xs T := by
 obtain ⟨pr, cap, rfl⟩ := h.val
 have hx : ∀ H, RS (Rx R H) 1 encS (.slice pr xs.length cap) xs := fun H => h.rx
 refine Spec.segs (H' := [[]]) (by simp) ?_
 refine Spec.body Tryz.func56 rfl Tryz.results56 Tryz.ntmps56 rfl ?_
 refine .sr<|.ag rfl<|.zs<|.sr<|.mo rfl<|.q (.eqNilS rfl rfl) ?_
 refine .zn ?_
 refine .cond rfl (fun h1 => ?_) (fun h1 => ?_)
 refine .sr<|.ag rfl<|.zn ?_
 refine .ret (seqQ_r (retQ_r _ (.one (.tmp rfl)) (.one [0] _) ?_))
 ·obtain rfl : pr = none := by simpa using h1
  have := h.none_nil
  subst this
  exact ⟨[], rfl, OS.nil⟩
 refine .kn<|.sr ?_
 refine .buildSlice0 (fun b5 => ?_)
 refine .mo rfl ?_
 refine .append (OS.empty (enc := encS) (sz := 1)) (hx _) (by simp; omega) (fun v' T' h3 => ?_)
 refine .ag rfl<|.zn ?_
 refine .ret (retQ_r _ (.one (.tmp rfl)) (.one [0] _) ?_)
 ·exact ⟨T', by simp [take], by simpa using h3⟩
theorem RS.nil' {α : Type} {R : Rds} {sz : Nat} {enc : α → List Value} : RS R sz enc (.slice none 0 0) ([] : List α) := ⟨by simp, by simp, none, 0, rfl, by simp, by simp, .inl rfl⟩
def texts (l : List ByteArray) (n k : Nat) : List ByteArray := (l.take n).map fun s => short s k
theorem texts_spec (v : Value) (l : List ByteArray) (n k : Nat) (hn : n ≤ 1000000) (R : Rds) (h : RS R 1 encS v l) :
  Spec Tryz.prog 58 [v, .int .i64 n, .int .i64 k] R [] fun v' H' => ∃ T, H' = [T] ∧ OS 9 1 encS v' (texts l n k) T := by
 have hle := h.le
 refine Spec.segs (H' := [[]]) (by simp) ?_
 refine Spec.body Tryz.func58 rfl Tryz.results58 Tryz.ntmps58 rfl ?_
 refine .sr<|.ag rfl<|.z<|.ag rfl<|.zs<|.sr<|.ag rfl<|.zn<|.block ?_
 refine .loop (X := Nat × Value × Seg) (fun y => (y.1 ≤ l.length ∧ y.1 ≤ n) ∧ OS 9 1 encS y.2.1 (texts l y.1 k) y.2.2) (fun y => [(0, v), (1, .int .i64 (n : Nat)), (2, .int .i64 (k : Nat)), (7, y.2.1), (8, .int .i64 (y.1 : Nat))]) (fun y => [y.2.2]) (fun y => l.length - y.1) (0, .slice none 0 0, []) ⟨⟨by omega, by omega⟩, OS.nil⟩ (EnvLe.k5 rfl rfl rfl rfl rfl) (HLe.refl _) ?_
 rintro ⟨i, w, T⟩ ⟨⟨hi, hi2⟩, hO⟩
 simp only at hi hi2 hO ⊢
 have i1 := hO.oneCell
 refine .seq<|.sr<|.mo rfl<|.mo rfl<|.q (.lenR h) ?_
 refine .q .lss<|.mo rfl ?_
 refine .split (t := 13) rfl (fun g3_4 => ?_) (fun g3_4 => ?_)
 refine .gT g3_4<|.mo rfl<|.gT g3_4<|.mo rfl<|.gT g3_4<|.q .lss<|.q (.pickTh g3_4) ?_
 refine .zn ?_
 refine .cond rfl (fun h1 => ?_) (fun h1 => ?_)
 have hlt : i < l.length ∧ i < n := by simp at g3_4 h1; omega
 obtain ⟨z, hz⟩ : ∃ z, l[i]? = some z := ⟨_, List.getElem?_eq_getElem hlt.1⟩
 have htl : (texts l i k).length ≤ i := by simp [texts]; omega
 have hnext : texts l (i + 1) k = texts l i k ++ [short z k] := by unfold texts; rw [List.take_add_one, hz]; simp
 refine .kn<|.seq<|.block<|.region<|.mo rfl<|.mo rfl<|.mo rfl ?_
 refine .indexR i h hz (fun pz => ?_)
 refine .lo rfl<|.mo rfl ?_
 refine .callR (short_spec z k _) (fun u hu => ?_)
 subst hu
 refine .buildSlice11 (fun b27 => ?_)
 refine .append hO (RS.lits (xs := [short z k]) rfl (by simp [encS]) (by simp [encS, oneCell])) (by simp; omega) (fun v2 T2 hO2 => ?_)
 rw [← hnext] at hO2
 refine .ag rfl<|.nil<|blkQ_n<|seqQ_n<|.region<|.mo rfl ?_
 refine .q (.inc (n := i) (by omega)) ?_
 refine .ag rfl<|.nil ?_
 ·exact loopQ_i (i + 1, v2, T2) ⟨⟨by simp only; omega, by simp only; omega⟩, hO2⟩ (by simp only; omega) (EnvLe.k5 rfl rfl rfl rfl rfl) (HLe.pick [1] _)
 refine .exit<|seqQ_x<|loopQ_x<|blkQ_x<|seqQ_n<|.sr<|.mo rfl<|.ag rfl<|.zn ?_
 refine .ret (retQ_r _ (.one (.tmp rfl)) (HLe.refl _) ?_)
 ·refine ⟨_, rfl, ?_⟩
  have : i = n ∨ i = l.length := by
   (simp at g3_4 h1; omega)
  rcases this with e | e
  ·rw [← e]; exact hO
  ·have : texts l n k = texts l i k := by unfold texts; rw [e, List.take_length, List.take_of_length_le (by omega)]
   rw [this]; exact hO
 refine .gF g3_4<|.gF g3_4<|.gF g3_4<|.q (.pickFh g3_4) ?_
 refine .zn<|.condF<|.exit<|seqQ_x<|loopQ_x<|blkQ_x<|seqQ_n<|.sr<|.mo rfl<|.ag rfl<|.zn ?_
 refine .ret (retQ_r _ (.one (.tmp rfl)) (HLe.refl _) ?_)
 ·refine ⟨_, rfl, ?_⟩
  have : i = n ∨ i = l.length := by
   (simp at g3_4; omega)
  rcases this with e | e
  ·rw [← e]; exact hO
  ·have : texts l n k = texts l i k := by unfold texts; rw [e, List.take_length, List.take_of_length_le (by omega)]
   rw [this]; exact hO
theorem texts_size {l : List ByteArray} {n k : Nat} : ∀ s ∈ texts l n k, s.size ≤ k := by
 intro s hs
 obtain ⟨t, _, rfl⟩ := List.mem_map.1 hs
 exact short_size
def sg0 (T : Seg) : Rds := fun b o => (b, o) ∈ T ∧ ∃ c E, o = .cells c E (0, 0)
theorem OS.sg0 {α : Type} {E sz : Nat} {enc : α → List Value} {v : Value} {xs : List α} {T : Seg} (h : OS E sz enc v xs T) : RS (Go.Proofs.YtkagfkbkpiebjaaGreatDoor.sg0 T) sz enc v xs :=
 ⟨h.len, h.one, by
  rcases h.h with ⟨rfl, rfl, rfl⟩ | ⟨b, off, c, cap, rfl, rfl, h3, h4, h5, h6⟩
  ·exact ⟨none, 0, rfl, Nat.le_refl _, Nat.zero_le _, .inl rfl⟩
  ·exact ⟨some ⟨b, off, none⟩, cap, rfl, h3, h4, .inr ⟨b, off, c, E, (0, 0), rfl, ⟨by simp, c, E, rfl⟩, h6⟩⟩⟩
theorem sg0_left {A B : Seg} {b : Nat} {o : Obj} (h : sg0 A b o) : sg0 (A ++ B) b o := ⟨List.mem_append_left B h.1, h.2⟩
theorem sg0_right {A B : Seg} {b : Nat} {o : Obj} (h : sg0 B b o) : sg0 (A ++ B) b o := ⟨List.mem_append_right A h.1, h.2⟩
section
variable {κ β γ : Type}
def kmap (f : β → γ) (A : List (κ × β)) : List (κ × γ) := A.map fun p => (p.1, f p.2)
theorem kmap_keys {f : β → γ} {A : List (κ × β)} : (kmap f A).map (·.1) = A.map (·.1) := by rw [kmap, List.map_map]; rfl
theorem kmap_perm {f : β → γ} {A B : List (κ × β)} (h : A.Perm B) : (kmap f A).Perm (kmap f B) := h.map _
theorem kmap_length {f : β → γ} {A : List (κ × β)} : (kmap f A).length = A.length := by simp [kmap]
theorem kmap_mem {f : β → γ} {A : List (κ × β)} {p : κ × β} (h : p ∈ A) : (p.1, f p.2) ∈ kmap f A := List.mem_map.2 ⟨p, h, rfl⟩
theorem mem_kmap {f : β → γ} {A : List (κ × β)} {p : κ × γ} (h : p ∈ kmap f A) : ∃ q ∈ A, p = (q.1, f q.2) := let ⟨q, h1, h2⟩ := List.mem_map.1 h; ⟨q, h1, h2.symm⟩
variable [DecidableEq κ]
theorem kmap_del {f : β → γ} {A : List (κ × β)} {k : κ} : kmap f (kdel k A) = kdel k (kmap f A) := by unfold kmap kdel; rw [List.filter_map]; rfl
theorem kmap_set {f : β → γ} {A : List (κ × β)} {k : κ} {x : β} : kmap f (kset k x A) = kset k (f x) (kmap f A) := by
 unfold kset; rw [← kmap_del]; simp [kmap]
theorem kmap_get {f : β → γ} {k : κ} : ∀ {A : List (κ × β)}, mget k (kmap f A) = (mget k A).map f
 | [] => rfl
 | (k', x) :: A => by
  have ih := kmap_get (f := f) (k := k) (A := A)
  simp only [kmap, List.map_cons, mget] at ih ⊢
  split
  ·rfl
  ·exact ih
theorem mset_perm {k : κ} {x : β} : ∀ {M : List (κ × β)}, (M.map (·.1)).Nodup → (mset k x M).Perm (kset k x M)
 | [], _ => by simp [mset, kset, kdel]
 | (k', x') :: M, hn => by
  rw [List.map_cons, List.nodup_cons] at hn
  simp only [mset]
  split
  ·rename_i h
   subst h
   unfold kset
   rw [kdel_cons hn.1]
   exact List.perm_append_comm (l₁ := [(k, x)])
  ·rename_i h
   have ih := (mset_perm (k := k) (x := x) hn.2).cons (k', x')
   refine ih.trans (List.Perm.of_eq ?_)
   unfold kset kdel
   have : decide ((k', x').1 ≠ k) = true := decide_eq_true fun e => h e.symm
   rw [List.filter_cons, if_pos this]
   rfl
theorem mset_mem {k : κ} {x : β} {M : List (κ × β)} (hn : (M.map (·.1)).Nodup) {p : κ × β} (h : p ∈ mset k x M) : p ∈ M ∨ p = (k, x) := by
 have := (mset_perm hn).mem_iff.1 h
 rcases List.mem_append.1 this with h | h
 ·exact .inl (List.mem_filter.1 h).1
 ·exact .inr (by simpa using h)
theorem kset_mem {k : κ} {x : β} {A : List (κ × β)} {p : κ × β} (h : p ∈ kset k x A) : p ∈ A ∧ p.1 ≠ k ∨ p = (k, x) := by
 rcases List.mem_append.1 h with h | h
 ·have := List.mem_filter.1 h
  exact .inl ⟨this.1, by simpa using this.2⟩
 ·exact .inr (by simpa using h)
theorem kset_same {k : κ} {x : β} {A : List (κ × β)} (hn : (A.map (·.1)).Nodup) (h : mget k A = some x) : (kset k x A).Perm A := by
 obtain ⟨X, Y, rfl⟩ := List.append_of_mem (mget_some h)
 unfold kset
 rw [kdel_mid hn]
 exact (List.perm_append_singleton _ _).trans List.perm_middle.symm
end
theorem filter_one {k : ByteArray} : ∀ {l : List ByteArray}, l.Nodup → k ∈ l → l.Perm (k :: l.filter fun k' => decide (k' ≠ k))
 | [], _, h => by cases h
 | x :: l, hn, h => by
  have hn' := List.nodup_cons.1 hn
  by_cases hx : x = k
  ·subst hx
   have : l.filter (fun k' => decide (k' ≠ x)) = l := List.filter_eq_self.2 fun y hy => by
    have : y ≠ x := fun e => hn'.1 (e ▸ hy)
    simp [this]
   rw [List.filter_cons]
   simp only [ne_eq, not_true_eq_false, decide_false, Bool.false_eq_true, if_false]
   have h2 : l.filter (fun k' => !decide (k' = x)) = l := by simpa using this
   simp only [decide_not, h2]
   exact .refl _
  ·have hk : k ∈ l := by
    rcases List.mem_cons.1 h with e | h
    ·exact absurd e.symm hx
    ·exact h
   have := (filter_one hn'.2 hk).cons x
   rw [List.filter_cons, if_pos (by simp [hx])]
   exact this.trans (List.Perm.swap k x _)
structure Tok where
 text : ByteArray
 kind : Int
 client : ByteArray
 user : ByteArray
 scopes : List ByteArray
 family : Int
 expires : Int
 rev : Int
 used : Bool
abbrev TP : Type := Value × Tok
def encT (p : TP) : List Value := [.string p.2.text, .int .i64 p.2.kind, .string p.2.client, .string p.2.user, p.1, .int .i64 p.2.family, .int .i64 p.2.expires, .int .u64 p.2.rev, .bool p.2.used]
def TokR (R : Rds) (p : TP) : Prop := RS R 1 encS p.1 p.2.scopes
theorem TokR.mono {R R' : Rds} {p : TP} (h : TokR R p) (hr : ∀ b o, R b o → R' b o) : TokR R' p := RS.mono h hr
theorem TokR.ones {R : Rds} {p : TP} (h : TokR R p) : ∀ u ∈ encT p, oneCell u = true := by
 have h1 := h.oneCell.h
 intro u hu
 simp only [encT, List.mem_cons, List.not_mem_nil, or_false] at hu
 rcases hu with rfl | rfl | rfl | rfl | rfl | rfl | rfl | rfl | rfl <;> first | rfl | assumption
def Tok.few (t : Tok) : Prop := t.scopes.length ≤ 1000000
def Tok.zero : Tok := ⟨⟨#[]⟩, 0, ⟨#[]⟩, ⟨#[]⟩, [], 0, 0, 0, false⟩
def tz : TP := (.slice none 0 0, Tok.zero)
theorem TokR.zero (R : Rds) : TokR R tz := RS.nil'
theorem tcopied_spec (w : Value) (t : Tok) (R : Rds) (h : TokR R (w, t)) (hf : t.few) : Spec Tryz.prog 46 [.agg (encT (w, t)).toArray] R [] fun v H' => ∃ T, H' = [T] ∧ ∃ w', v = .agg (encT (w', t)).toArray ∧ TokR (sg0 T) (w', t) := by
 have io : Ones (encT (w, t)) := ⟨h.ones⟩
 have i1 : One w := h.oneCell
 have hs : RS R 1 encS w t.scopes := h
 refine Spec.body Tryz.func46 rfl Tryz.results46 Tryz.ntmps46 rfl ?_
 refine .sr ?_
 refine .boxA rfl (fun b1 => ?_)
 refine .allocA (fun b2 => ?_)
 refine .z<|.fa rfl<|.lo rfl ?_
 refine .callN (sclone_spec w t.scopes _ hs.rx hf) (fun v1 T1 hO1 => ?_)
 have i3 := hO1.oneCell
 refine .fa rfl<|.store1 rfl rfl<|.z<|.q (.loadA rfl)<|.storeA rfl rfl<|.zn ?_
 refine .ret (retQ_r _ (.one (.cellA rfl rfl)) (.one [0] _) ?_)
 ·exact ⟨T1, by simp [take], v1, rfl, hO1.sg0⟩
def VJ (g : Nat) (A : List (ByteArray × Tok)) (last : Int) (Td T0 : Seg) : Prop := ∃ vm M q Tm Tq, T0 = (g, .cells [vm, .pointer (some ⟨q, 0, none⟩), .int .i64 last].toArray 102 (0, 0)) :: (Tm ++ Tq) ∧
 MS (fun s : ByteArray => .string s) (fun p : TP => .agg (encT p).toArray) vm M Tm ∧ (∀ p ∈ M, p.1 = p.2.2.text ∧ TokR (sg0 Td) p.2 ∧ p.2.2.few) ∧ (kmap (fun p : TP => p.2) M).Perm A ∧ QI q (kmap (fun t : Tok => t.expires) A) Tq
def VI (g : Nat) (A : List (ByteArray × Tok)) (last : Int) (T : Seg) : Prop := ∃ Td T0, T = T0 ++ Td ∧ VJ g A last Td T0
theorem vi_nd {M : List (ByteArray × TP)} {A : List (ByteArray × Tok)} (hn : (M.map (·.1)).Nodup) (hA : (kmap (fun p : TP => p.2) M).Perm A) : (A.map (·.1)).Nodup := ((hA.map (·.1)).nodup_iff).1 (by rw [kmap_keys]; exact hn)
theorem vi_get {M : List (ByteArray × TP)} {A : List (ByteArray × Tok)} {Td : Seg} (hn : (M.map (·.1)).Nodup) (hI : ∀ p ∈ M, p.1 = p.2.2.text ∧ TokR (sg0 Td) p.2 ∧ p.2.2.few) (hA : (kmap (fun p : TP => p.2) M).Perm A) (k : ByteArray) :
  ∃ w t, ((mget k M).map fun p : TP => Value.agg (encT p).toArray).getD (.agg (encT tz).toArray) = .agg (encT (w, t)).toArray ∧ TokR (sg0 Td) (w, t) ∧ t.few ∧ (mget k M).isSome = (mget k A).isSome ∧ (mget k A).getD Tok.zero = t ∧ (∀ u, mget k A = some u → u = t ∧ t.text = k ∧ mget k M = some (w, t)) := by
 have hg : mget k A = (mget k M).map (·.2) := by rw [← mget_perm hA (by rw [kmap_keys]; exact hn), kmap_get]
 cases hm : mget k M with
 | none => rw [hm] at hg; rw [hg]; exact ⟨_, _, rfl, TokR.zero _, by simp [Tok.few, Tok.zero], rfl, rfl, fun u hu => by cases hu⟩
 | some p =>
  obtain ⟨w, t⟩ := p
  rw [hm] at hg; rw [hg]
  obtain ⟨h1, h2, h3⟩ := hI _ (mget_some hm)
  exact ⟨w, t, rfl, h2, h3, rfl, rfl, fun u hu => by cases hu; exact ⟨rfl, h1.symm, rfl⟩⟩
theorem VI.keys {g : Nat} {A : List (ByteArray × Tok)} {last : Int} {T : Seg} (h : VI g A last T) : ∀ p ∈ A, p.1 = p.2.text := by
 obtain ⟨Td, _, rfl, vm, M, q, Tm, Tq, rfl, hM, hI, hA, hQ⟩ := h
 intro p hp
 obtain ⟨x, hx, rfl⟩ := mem_kmap (hA.mem_iff.2 hp)
 exact (hI x hx).1
theorem VI.nd {g : Nat} {A : List (ByteArray × Tok)} {last : Int} {T : Seg} (h : VI g A last T) : (A.map (·.1)).Nodup := by
 obtain ⟨Td, _, rfl, vm, M, q, Tm, Tq, rfl, hM, hI, hA, hQ⟩ := h
 exact vi_nd hM.nd hA
theorem vnew_spec (R : Rds) : Spec Tryz.prog 29 [] R [] fun v H' => ∃ T, H' = [T] ∧ ∃ g, v = .pointer (some ⟨g, 0, none⟩) ∧ VI g [] 0 T := by
 refine Spec.body Tryz.func29 rfl Tryz.results29 Tryz.ntmps29 rfl ?_
 refine .sr<|.ag rfl<|.z ?_
 refine .makeMap (fun b1 => ?_)
 refine .callN (qnew_spec _) (fun u T0 hu => ?_)
 obtain ⟨q, rfl, hq⟩ := hu
 refine .q .bld ?_
 refine .boxA rfl (fun b4 => ?_)
 refine .ag rfl<|.zn ?_
 refine .ret (retQ_r _ (.one (.tmp rfl)) ((HLe.pick [0, 1, 0] _).trans (HLe.ofPerm (H' := [(b4, .cells [.map (some b1), .pointer (some ⟨q, 0, none⟩), .int .i64 0].toArray 102 (0, 0)) :: ([(b1, .map #[] 0)] ++ T0) ++ []]) (by simp [take, dropAt]; exact .refl _))) ?_)
 ·exact ⟨_, rfl, _, rfl, [], _, rfl, .map (some b1), [], q, _, T0, rfl, MS.nil, by simp, .refl _, hq⟩
theorem vok_spec (g b : Nat) (x y : Value) (R : Rds) [pc : PC R (.pointer (some ⟨g, 0, none⟩)) [.map (some b), x, y]] : Spec Tryz.prog 45 [.pointer (some ⟨g, 0, none⟩)] R [] fun v H' => v = .bool true ∧ H' = [] := by
 refine Spec.body Tryz.func45 rfl Tryz.results45 Tryz.ntmps45 rfl ?_
 refine .sr<|.ag rfl<|.z<|.mo rfl<|.q (.neNilP rfl rfl) ?_
 refine .mo rfl<|.gt rfl ?_
 refine .mo rfl<|.gt rfl ?_
 refine .nc rfl<|.gt rfl ?_
 refine .fa rfl<|.gt rfl ?_
 refine .lo rfl<|.gt rfl ?_
 refine .q (.neNilM rfl rfl) ?_
 refine .q .pickT<|.ag rfl<|.zn ?_
 refine .ret (retQ_r _ (.one (.tmp rfl)) (.none _) ?_)
 ·exact ⟨rfl, rfl⟩
theorem vfamily_spec (g : Nat) (A : List (ByteArray × Tok)) (last : Int) (T : Seg) (h : VI g A last T) (h0 : 0 ≤ last) (h1 : last ≤ 4611686018427387904) (R : Rds) :
  Spec Tryz.prog 93 [.pointer (some ⟨g, 0, none⟩)] R [T] fun v H' => ∃ T', H' = [T'] ∧ v = .int .i64 (last + 1) ∧ VI g A (last + 1) T' := by
 obtain ⟨Td, _, rfl, vm, M, q, Tm, Tq, rfl, hM, hI, hA, hQ⟩ := h
 obtain ⟨bm, rfl⟩ : ∃ b, vm = .map (some b) := by obtain ⟨b, es, clock, h1, _⟩ := hM; exact ⟨b, h1⟩
 refine Spec.segs (H' := [[(g, .cells [.map (some bm), .pointer (some ⟨q, 0, none⟩), .int .i64 last].toArray 102 (0, 0))], Tm ++ (Tq ++ Td)]) (by simp) ?_
 refine Spec.body Tryz.func93 rfl Tryz.results93 Tryz.ntmps93 rfl ?_
 refine .sr<|.ag rfl<|.zs<|.sr<|.mo rfl ?_
 refine .callR (vok_spec g bm _ _ _) (fun v hv => ?_)
 subst hv
 refine .q .not<|.zn<|.condF<|.kn<|.sr<|.mo rfl<|.nc rfl<|.fa rfl<|.lo rfl ?_
 refine .q (.i64 (last + 1) .add ⟨by omega, by omega, by omega⟩) ?_
 refine .nc rfl<|.fa rfl<|.store1 rfl rfl<|.z<|.mo rfl<|.nc rfl<|.fa rfl<|.lo rfl<|.ag rfl<|.zn ?_
 refine .ret (retQ_r _ (.one (.tmp rfl)) (.one [0, 0] _) ?_)
 ·exact ⟨((g, .cells [.map (some bm), .pointer (some ⟨q, 0, none⟩), .int .i64 (last + 1)].toArray 102 (0, 0)) :: (Tm ++ Tq)) ++ Td, by simp [take, dropAt]; rfl, rfl, Td, _, rfl, _, M, q, Tm, Tq, rfl, hM, hI, hA, hQ⟩
theorem vlast_spec (g : Nat) (A : List (ByteArray × Tok)) (last : Int) (T : Seg) (h : VI g A last T) (R : Rds) (hr : ∀ p ∈ T, R p.1 p.2) :
  Spec Tryz.prog 74 [.pointer (some ⟨g, 0, none⟩)] R [] fun v H' => v = .int .i64 last ∧ H' = [] := by
 obtain ⟨Td, _, rfl, vm, M, q, Tm, Tq, rfl, hM, hI, hA, hQ⟩ := h
 obtain ⟨bm, rfl⟩ : ∃ b, vm = .map (some b) := by obtain ⟨b, es, clock, h1, _⟩ := hM; exact ⟨b, h1⟩
 have pq : PC R (.pointer (some ⟨g, 0, none⟩)) [.map (some bm), .pointer (some ⟨q, 0, none⟩), .int .i64 last] := PC.of (E := 102) (fr := (0, 0)) (hr (g, .cells [.map (some bm), .pointer (some ⟨q, 0, none⟩), .int .i64 last].toArray 102 (0, 0)) (by simp))
 refine Spec.body Tryz.func74 rfl Tryz.results74 Tryz.ntmps74 rfl ?_
 refine .sr<|.ag rfl<|.zs<|.sr<|.mo rfl ?_
 refine .callR (vok_spec g bm _ _ _) (fun v hv => ?_)
 subst hv
 refine .q .not<|.zn<|.condF<|.kn<|.sr<|.mo rfl<|.nc rfl<|.fa rfl<|.lo rfl<|.ag rfl<|.zn ?_
 refine .ret (retQ_r _ (.one (.tmp rfl)) (.none _) ?_)
 ·exact ⟨rfl, rfl⟩
def rightB (t : Tok) (last : Int) : Bool := (t.kind == 1 || t.kind == 2) && decide (1 ≤ t.family) && decide (t.family ≤ last)
theorem vright_spec (g : Nat) (x y : Value) (last : Int) (w : Value) (t : Tok) (R : Rds) (ho : One w) [pc : PC R (.pointer (some ⟨g, 0, none⟩)) [x, y, .int .i64 last]] :
  Spec Tryz.prog 220 [.pointer (some ⟨g, 0, none⟩), .agg (encT (w, t)).toArray] R [] fun v H' => v = .bool (rightB t last) ∧ H' = [] := by
 have io : Ones (encT (w, t)) := ⟨by
  have h1 := ho.h
  intro u hu
  simp only [encT, List.mem_cons, List.not_mem_nil, or_false] at hu
  rcases hu with rfl | rfl | rfl | rfl | rfl | rfl | rfl | rfl | rfl <;> first | rfl | assumption⟩
 refine Spec.body Tryz.func220 rfl Tryz.results220 Tryz.ntmps220 rfl ?_
 refine .sr ?_
 refine .boxA rfl (fun b3 => ?_)
 refine .ag rfl<|.zs ?_
 refine .region_still mixed (by kernel_rfl) ?_
 refine .fa rfl<|.lo rfl<|.q .eqI<|.mo rfl ?_
 refine .split (t := 8) rfl (fun g1_3 => ?_) (fun g1_3 => ?_)
 refine .gF g1_3<|.gF g1_3<|.gF g1_3<|.q (.pickTh g1_3) ?_
 refine .mo rfl<|.gt rfl ?_
 refine .fa rfl<|.gt rfl ?_
 refine .lo rfl<|.gt rfl ?_
 refine .q .geq<|.q .pickT<|.mo rfl ?_
 refine .split (t := 18) rfl (fun g1_13 => ?_) (fun g1_13 => ?_)
 refine .gT g1_13<|.fa rfl<|.gT g1_13<|.lo rfl<|.gT g1_13<|.mo rfl<|.gT g1_13<|.nc rfl<|.gT g1_13<|.fa rfl<|.gT g1_13<|.lo rfl<|.gT g1_13<|.q .leq<|.q (.pickTh g1_13) ?_
 refine .ag rfl<|.zn ?_
 refine .ret (retQ_r _ (.one (.tmp rfl)) (.none _) ?_)
 ·refine ⟨congrArg _ ?_, rfl⟩
  unfold rightB
  simp_all <;> omega
 refine .gF g1_13<|.gF g1_13<|.gF g1_13<|.gF g1_13<|.gF g1_13<|.gF g1_13<|.gF g1_13<|.q (.pickFh g1_13) ?_
 refine .ag rfl<|.zn ?_
 refine .ret (retQ_r _ (.one (.tmp rfl)) (.none _) ?_)
 ·refine ⟨congrArg _ ?_, rfl⟩
  unfold rightB
  simp_all <;> omega
 refine .gT g1_3<|.fa rfl<|.gT g1_3<|.lo rfl<|.gT g1_3<|.q .eqI<|.q (.pickFh g1_3) ?_
 refine .mo rfl ?_
 refine .split (t := 13) rfl (fun g1_8 => ?_) (fun g1_8 => ?_)
 refine .gT g1_8<|.fa rfl<|.gT g1_8<|.lo rfl<|.gT g1_8<|.q .geq<|.q (.pickTh g1_8) ?_
 refine .mo rfl ?_
 refine .split (t := 18) rfl (fun g1_13 => ?_) (fun g1_13 => ?_)
 refine .gT g1_13<|.fa rfl<|.gT g1_13<|.lo rfl<|.gT g1_13<|.mo rfl<|.gT g1_13<|.nc rfl<|.gT g1_13<|.fa rfl<|.gT g1_13<|.lo rfl<|.gT g1_13<|.q .leq<|.q (.pickTh g1_13) ?_
 refine .ag rfl<|.zn ?_
 refine .ret (retQ_r _ (.one (.tmp rfl)) (.none _) ?_)
 ·refine ⟨congrArg _ ?_, rfl⟩
  unfold rightB
  simp_all <;> omega
 refine .gF g1_13<|.gF g1_13<|.gF g1_13<|.gF g1_13<|.gF g1_13<|.gF g1_13<|.gF g1_13<|.q (.pickFh g1_13) ?_
 refine .ag rfl<|.zn ?_
 refine .ret (retQ_r _ (.one (.tmp rfl)) (.none _) ?_)
 ·refine ⟨congrArg _ ?_, rfl⟩
  unfold rightB
  simp_all <;> omega
 refine .gF g1_8<|.gF g1_8<|.gF g1_8<|.q (.pickFh g1_8) ?_
 refine .mo rfl<|.gf rfl rfl<|.gf rfl rfl<|.gf rfl rfl<|.gf rfl rfl<|.gf rfl rfl<|.gf rfl rfl<|.gf rfl rfl<|.q .pickF<|.ag rfl<|.zn ?_
 refine .ret (retQ_r _ (.one (.tmp rfl)) (.none _) ?_)
 ·refine ⟨congrArg _ ?_, rfl⟩
  unfold rightB
  simp_all <;> omega
theorem vput_spec (g : Nat) (A : List (ByteArray × Tok)) (last : Int) (T : Seg) (h : VI g A last T) (w : Value) (t : Tok) (R : Rds) (ht : TokR R (w, t)) (hf : t.few) (hl : A.length < 1000000000) :
  Spec Tryz.prog 221 [.pointer (some ⟨g, 0, none⟩), .agg (encT (w, t)).toArray] R [T] fun v H' => ∃ T', H' = [T'] ∧ v = .tuple #[] ∧ VI g (kset t.text t A) last T' := by
 obtain ⟨Td, _, rfl, vm, M, q, Tm, Tq, rfl, hM, hI, hA, hQ⟩ := h
 obtain ⟨bm, rfl⟩ : ∃ b, vm = .map (some b) := by obtain ⟨b, es, clock, h1, _⟩ := hM; exact ⟨b, h1⟩
 have io : Ones (encT (w, t)) := ⟨ht.ones⟩
 refine Spec.segs (H' := [[(g, .cells [.map (some bm), .pointer (some ⟨q, 0, none⟩), .int .i64 last].toArray 102 (0, 0))], Tm, Tq, Td]) (by simp) ?_
 refine Spec.body Tryz.func221 rfl Tryz.results221 Tryz.ntmps221 rfl ?_
 refine .sr ?_
 refine .boxA rfl (fun b3 => ?_)
 refine .zs<|.region_all [8] mixed ?_
 refine .takeO 0 rfl .move (by kernel_rfl)<|.takeO 1 rfl (.nilCheck rfl) (by kernel_rfl)<|.takeO 2 rfl (.fieldAddr rfl) (by kernel_rfl)<|.takeO 3 rfl (.load1 rfl) (by kernel_rfl)<|.takeO 4 rfl (.fieldAddr rfl) (by kernel_rfl)<|.takeO 5 rfl (.load1 rfl) (by kernel_rfl)<|.takeO 6 rfl (.loadA rfl) (by kernel_rfl) ?_
 refine RA.step 7 rfl (by kernel_rfl) rfl ?_
 refine .callN (tcopied_spec w t _ (ht.mono fun b o hb => .inl hb) hf) (fun v T1 hv => ?_)
 obtain ⟨w1, rfl, hc1⟩ := hv
 have i1 : Ones (encT (w1, t)) := ⟨hc1.ones⟩
 refine .nil (Next.sub ?_)
 refine RA.step 8 rfl (by kernel_rfl) rfl ?_
 refine .update (u := ((w1, t) : TP)) hM rfl (show _ = some (Value.string t.text) from rfl) rfl (fun Tm2 hM2 _ => ?_)
 refine .nil (Next.mod rfl ?_)
 refine RA.nil (by kernel_rfl) ?_
 refine seqQ_n ?_
 refine .region_tail 8 mixed (by kernel_rfl) ?_
 conv => arg 6; dsimp only [List.take]
 refine .mo rfl<|.nc rfl<|.fa rfl<|.lo rfl<|.fa rfl<|.lo rfl<|.fa rfl<|.lo rfl<|.nil ?_
 refine .callM (qset_spec q _ Tq hQ t.text t.expires (by rw [kmap_length]; omega) _) (fun v Tq2 hv => ?_)
 obtain ⟨rfl, hQ2⟩ := hv
 refine .nil<|retQ_n _ .none (.one [2, 2, 2, 2, 0] _) ?_
 ·refine ⟨((g, .cells [.map (some bm), .pointer (some ⟨q, 0, none⟩), .int .i64 last].toArray 102 (0, 0)) :: (Tm2 ++ Tq2)) ++ (Td ++ T1), by simp [take, dropAt], rfl, Td ++ T1, _, rfl, _, _, q, Tm2, Tq2, rfl, hM2, fun p hp => ?_, ?_, by rw [kmap_set]; exact hQ2⟩
  ·rcases mset_mem hM.nd hp with hp | rfl
   ·obtain ⟨q1, q2, q3⟩ := hI p hp
    exact ⟨q1, q2.mono fun b o hb => sg0_left hb, q3⟩
   ·exact ⟨rfl, hc1.mono fun b o hb => sg0_right hb, hf⟩
  ·exact (kmap_perm (mset_perm hM.nd)).trans (by rw [kmap_set]; exact kset_perm hA)
structure Cod where
 text : ByteArray
 client : ByteArray
 user : ByteArray
 uri : ByteArray
 scopes : List ByteArray
 chall : ByteArray
 expires : Int
 family : Int
 used : Bool
abbrev GP : Type := Value × Cod
def encG (p : GP) : List Value := [.string p.2.text, .string p.2.client, .string p.2.user, .string p.2.uri, p.1, .string p.2.chall, .int .i64 p.2.expires, .int .i64 p.2.family, .bool p.2.used]
def CodR (R : Rds) (p : GP) : Prop := RS R 1 encS p.1 p.2.scopes
theorem CodR.mono {R R' : Rds} {p : GP} (h : CodR R p) (hr : ∀ b o, R b o → R' b o) : CodR R' p := RS.mono h hr
theorem CodR.ones {R : Rds} {p : GP} (h : CodR R p) : ∀ u ∈ encG p, oneCell u = true := by
 have h1 := h.oneCell.h
 intro u hu
 simp only [encG, List.mem_cons, List.not_mem_nil, or_false] at hu
 rcases hu with rfl | rfl | rfl | rfl | rfl | rfl | rfl | rfl | rfl <;> first | rfl | assumption
theorem encG_ones {w : Value} {t : Cod} (h : One w) : Ones (encG (w, t)) := ⟨by
 have h1 := h.h
 intro u hu
 simp only [encG, List.mem_cons, List.not_mem_nil, or_false] at hu
 rcases hu with rfl | rfl | rfl | rfl | rfl | rfl | rfl | rfl | rfl <;> first | rfl | assumption⟩
def Cod.few (t : Cod) : Prop := t.scopes.length ≤ 1000000
def Cod.zero : Cod := ⟨⟨#[]⟩, ⟨#[]⟩, ⟨#[]⟩, ⟨#[]⟩, [], ⟨#[]⟩, 0, 0, false⟩
def gz : GP := (.slice none 0 0, Cod.zero)
theorem CodR.zero (R : Rds) : CodR R gz := RS.nil'
theorem gcopied_spec (w : Value) (t : Cod) (R : Rds) (h : CodR R (w, t)) (hf : t.few) : Spec Tryz.prog 51 [.agg (encG (w, t)).toArray] R [] fun v H' => ∃ T, H' = [T] ∧ ∃ w', v = .agg (encG (w', t)).toArray ∧ CodR (sg0 T) (w', t) := by
 have io : Ones (encG (w, t)) := ⟨h.ones⟩
 have i1 : One w := h.oneCell
 have hs : RS R 1 encS w t.scopes := h
 refine Spec.body Tryz.func51 rfl Tryz.results51 Tryz.ntmps51 rfl ?_
 refine .sr ?_
 refine .boxA rfl (fun b1 => ?_)
 refine .allocA (fun b2 => ?_)
 refine .z<|.fa rfl<|.lo rfl ?_
 refine .callN (sclone_spec w t.scopes _ hs.rx hf) (fun v1 T1 hO1 => ?_)
 have i3 := hO1.oneCell
 refine .fa rfl<|.store1 rfl rfl<|.z<|.q (.loadA rfl)<|.storeA rfl rfl<|.zn ?_
 refine .ret (retQ_r _ (.one (.cellA rfl rfl)) (.one [0] _) ?_)
 ·exact ⟨T1, by simp [take], v1, rfl, hO1.sg0⟩
abbrev Who : Type := ByteArray × ByteArray
def encWho (k : Who) : List Value := [.string k.1, .string k.2]
theorem who_kinds (k : Who) : HasK [.s, .s] (encWho k) := ⟨trivial, trivial, trivial⟩
theorem who_eq (k r : Who) : cellsEq (encWho k) (encWho r) = decide (k = r) := by
 obtain ⟨a, b⟩ := k
 obtain ⟨c, d⟩ := r
 simp only [encWho, cellsEq, cellEq, Prod.mk.injEq]
 rw [Bool.eq_iff_iff]; simp
instance who_ones (k : Who) : Ones (encWho k) := ⟨by simp [encWho, oneCell]⟩
instance who_key : KeyT Tryz.prog 120 (fun k : Who => .agg (encWho k).toArray) := KeyT.agg fQ120 Tryz.underlying120 rfl who_kinds who_eq
abbrev WS : Type := Value × List ByteArray
def GJ (g : Nat) (C : List (Who × List ByteArray)) (A : List (ByteArray × Cod)) (Td T0 : Seg) : Prop := ∃ vc MC vm M q Tc Tm Tq, T0 = (g, .cells [vc, vm, .pointer (some ⟨q, 0, none⟩)].toArray 110 (0, 0)) :: (Tc ++ (Tm ++ Tq)) ∧
 (MS (fun k : Who => .agg (encWho k).toArray) (fun p : WS => p.1) vc MC Tc ∧ (∀ p ∈ MC, RS (sg0 Td) 1 encS p.2.1 p.2.2) ∧ (kmap (fun p : WS => p.2) MC).Perm C) ∧
 (MS (fun s : ByteArray => .string s) (fun p : GP => .agg (encG p).toArray) vm M Tm ∧ (∀ p ∈ M, p.1 = p.2.2.text ∧ CodR (sg0 Td) p.2 ∧ p.2.2.few) ∧ (kmap (fun p : GP => p.2) M).Perm A ∧ QI q (kmap (fun t : Cod => t.expires) A) Tq)
def GI (g : Nat) (C : List (Who × List ByteArray)) (A : List (ByteArray × Cod)) (T : Seg) : Prop := ∃ Td T0, T = T0 ++ Td ∧ GJ g C A Td T0
theorem gi_nd {M : List (ByteArray × GP)} {A : List (ByteArray × Cod)} (hn : (M.map (·.1)).Nodup) (hA : (kmap (fun p : GP => p.2) M).Perm A) : (A.map (·.1)).Nodup := ((hA.map (·.1)).nodup_iff).1 (by rw [kmap_keys]; exact hn)
theorem gi_get {M : List (ByteArray × GP)} {A : List (ByteArray × Cod)} {Td : Seg} (hn : (M.map (·.1)).Nodup) (hI : ∀ p ∈ M, p.1 = p.2.2.text ∧ CodR (sg0 Td) p.2 ∧ p.2.2.few) (hA : (kmap (fun p : GP => p.2) M).Perm A) (k : ByteArray) :
  ∃ w t, ((mget k M).map fun p : GP => Value.agg (encG p).toArray).getD (.agg (encG gz).toArray) = .agg (encG (w, t)).toArray ∧ CodR (sg0 Td) (w, t) ∧ t.few ∧ (mget k M).isSome = (mget k A).isSome ∧ (mget k A).getD Cod.zero = t ∧ (∀ u, mget k A = some u → u = t ∧ t.text = k ∧ mget k M = some (w, t)) := by
 have hg : mget k A = (mget k M).map (·.2) := by rw [← mget_perm hA (by rw [kmap_keys]; exact hn), kmap_get]
 cases hm : mget k M with
 | none => rw [hm] at hg; rw [hg]; exact ⟨_, _, rfl, CodR.zero _, by simp [Cod.few, Cod.zero], rfl, rfl, fun u hu => by cases hu⟩
 | some p =>
  obtain ⟨w, t⟩ := p
  rw [hm] at hg; rw [hg]
  obtain ⟨h1, h2, h3⟩ := hI _ (mget_some hm)
  exact ⟨w, t, rfl, h2, h3, rfl, rfl, fun u hu => by cases hu; exact ⟨rfl, h1.symm, rfl⟩⟩
theorem GI.keys {g : Nat} {C : List (Who × List ByteArray)} {A : List (ByteArray × Cod)} {T : Seg} (h : GI g C A T) : ∀ p ∈ A, p.1 = p.2.text := by
 obtain ⟨Td, _, rfl, vc, MC, vm, M, q, Tc, Tm, Tq, rfl, ⟨hMC, hIC, hC⟩, hM, hI, hA, hQ⟩ := h
 intro p hp
 obtain ⟨x, hx, rfl⟩ := mem_kmap (hA.mem_iff.2 hp)
 exact (hI x hx).1
theorem GI.nd {g : Nat} {C : List (Who × List ByteArray)} {A : List (ByteArray × Cod)} {T : Seg} (h : GI g C A T) : (A.map (·.1)).Nodup := by
 obtain ⟨Td, _, rfl, vc, MC, vm, M, q, Tc, Tm, Tq, rfl, ⟨hMC, hIC, hC⟩, hM, hI, hA, hQ⟩ := h
 exact gi_nd hM.nd hA
theorem GI.ndC {g : Nat} {C : List (Who × List ByteArray)} {A : List (ByteArray × Cod)} {T : Seg} (h : GI g C A T) : (C.map (·.1)).Nodup := by
 obtain ⟨Td, _, rfl, vc, MC, vm, M, q, Tc, Tm, Tq, rfl, ⟨hMC, hIC, hC⟩, hM, hI, hA, hQ⟩ := h
 exact ((hC.map (·.1)).nodup_iff).1 (by rw [kmap_keys]; exact hMC.nd)
theorem gnew_spec (R : Rds) : Spec Tryz.prog 28 [] R [] fun v H' => ∃ T, H' = [T] ∧ ∃ g, v = .pointer (some ⟨g, 0, none⟩) ∧ GI g [] [] T := by
 refine Spec.body Tryz.func28 rfl Tryz.results28 Tryz.ntmps28 rfl ?_
 refine .sr<|.ag rfl<|.z ?_
 refine .makeMap (fun b1 => ?_)
 refine .makeMap (fun b2 => ?_)
 refine .callN (qnew_spec _) (fun u T0 hu => ?_)
 obtain ⟨q, rfl, hq⟩ := hu
 refine .q .bld ?_
 refine .boxA rfl (fun b5 => ?_)
 refine .ag rfl<|.zn ?_
 refine .ret (retQ_r _ (.one (.tmp rfl)) ((HLe.pick [0, 2, 1, 0] _).trans (HLe.ofPerm (H' := [(b5, .cells [.map (some b1), .map (some b2), .pointer (some ⟨q, 0, none⟩)].toArray 110 (0, 0)) :: ([(b1, .map #[] 0)] ++ ([(b2, .map #[] 0)] ++ T0)) ++ []]) (by simp [take, dropAt]; exact .refl _))) ?_)
 ·exact ⟨_, rfl, _, rfl, [], _, rfl, .map (some b1), [], .map (some b2), [], q, _, _, T0, rfl, ⟨MS.nil, by simp, .refl _⟩, MS.nil, by simp, .refl _, hq⟩
theorem gok_spec (g b : Nat) (x y : Value) (R : Rds) [pc : PC R (.pointer (some ⟨g, 0, none⟩)) [x, .map (some b), y]] : Spec Tryz.prog 50 [.pointer (some ⟨g, 0, none⟩)] R [] fun v H' => v = .bool true ∧ H' = [] := by
 refine Spec.body Tryz.func50 rfl Tryz.results50 Tryz.ntmps50 rfl ?_
 refine .sr<|.ag rfl<|.z<|.mo rfl<|.q (.neNilP rfl rfl) ?_
 refine .mo rfl<|.gt rfl ?_
 refine .mo rfl<|.gt rfl ?_
 refine .nc rfl<|.gt rfl ?_
 refine .fa rfl<|.gt rfl ?_
 refine .lo rfl<|.gt rfl ?_
 refine .q (.neNilM rfl rfl) ?_
 refine .q .pickT<|.ag rfl<|.zn ?_
 refine .ret (retQ_r _ (.one (.tmp rfl)) (.none _) ?_)
 ·exact ⟨rfl, rfl⟩
theorem gput_spec (g : Nat) (C : List (Who × List ByteArray)) (A : List (ByteArray × Cod)) (T : Seg) (h : GI g C A T) (w : Value) (t : Cod) (R : Rds) (ht : CodR R (w, t)) (hf : t.few) (hl : A.length < 1000000000) :
  Spec Tryz.prog 156 [.pointer (some ⟨g, 0, none⟩), .agg (encG (w, t)).toArray] R [T] fun v H' => ∃ T', H' = [T'] ∧ v = .tuple #[] ∧ GI g C (kset t.text t A) T' := by
 obtain ⟨Td, _, rfl, vc, MC, vm, M, q, Tc, Tm, Tq, rfl, ⟨hMC, hIC, hC⟩, hM, hI, hA, hQ⟩ := h
 obtain ⟨bm, rfl⟩ : ∃ b, vm = .map (some b) := by obtain ⟨b, es, clock, h1, _⟩ := hM; exact ⟨b, h1⟩
 have io : Ones (encG (w, t)) := ⟨ht.ones⟩
 have ic : One vc := ⟨by obtain ⟨b, es, clock, h1, _⟩ := hMC; subst h1; rfl⟩
 refine Spec.segs (H' := [[(g, .cells [vc, .map (some bm), .pointer (some ⟨q, 0, none⟩)].toArray 110 (0, 0))], Tc, Tm, Tq, Td]) (by simp) ?_
 refine Spec.body Tryz.func156 rfl Tryz.results156 Tryz.ntmps156 rfl ?_
 refine .sr ?_
 refine .boxA rfl (fun b3 => ?_)
 refine .zs<|.region_all [8] mixed ?_
 refine .takeO 0 rfl .move (by kernel_rfl)<|.takeO 1 rfl (.nilCheck rfl) (by kernel_rfl)<|.takeO 2 rfl (.fieldAddr rfl) (by kernel_rfl)<|.takeO 3 rfl (.load1 rfl) (by kernel_rfl)<|.takeO 4 rfl (.fieldAddr rfl) (by kernel_rfl)<|.takeO 5 rfl (.load1 rfl) (by kernel_rfl)<|.takeO 6 rfl (.loadA rfl) (by kernel_rfl) ?_
 refine RA.step 7 rfl (by kernel_rfl) rfl ?_
 refine .callN (gcopied_spec w t _ (ht.mono fun b o hb => .inl hb) hf) (fun v T1 hv => ?_)
 obtain ⟨w1, rfl, hc1⟩ := hv
 have i1 : Ones (encG (w1, t)) := ⟨hc1.ones⟩
 refine .nil (Next.sub ?_)
 refine RA.step 8 rfl (by kernel_rfl) rfl ?_
 refine .update (u := ((w1, t) : GP)) hM rfl (show _ = some (Value.string t.text) from rfl) rfl (fun Tm2 hM2 _ => ?_)
 refine .nil (Next.mod rfl ?_)
 refine RA.nil (by kernel_rfl) ?_
 refine seqQ_n ?_
 refine .region_tail 8 mixed (by kernel_rfl) ?_
 conv => arg 6; dsimp only [List.take]
 refine .mo rfl<|.nc rfl<|.fa rfl<|.lo rfl<|.fa rfl<|.lo rfl<|.fa rfl<|.lo rfl<|.nil ?_
 refine .callM (qset_spec q _ Tq hQ t.text t.expires (by rw [kmap_length]; omega) _) (fun v Tq2 hv => ?_)
 obtain ⟨rfl, hQ2⟩ := hv
 refine .nil<|retQ_n _ .none (.one [2, 2, 2, 2, 2, 0] _) ?_
 ·refine ⟨((g, .cells [vc, .map (some bm), .pointer (some ⟨q, 0, none⟩)].toArray 110 (0, 0)) :: (Tc ++ (Tm2 ++ Tq2))) ++ (Td ++ T1), by simp [take, dropAt], rfl, Td ++ T1, _, rfl, _, MC, _, _, q, Tc, Tm2, Tq2, rfl, ⟨hMC, fun p hp => (hIC p hp).mono fun b o hb => sg0_left hb, hC⟩, hM2, fun p hp => ?_, ?_, by rw [kmap_set]; exact hQ2⟩
  ·rcases mset_mem hM.nd hp with hp | rfl
   ·obtain ⟨q1, q2, q3⟩ := hI p hp
    exact ⟨q1, q2.mono fun b o hb => sg0_left hb, q3⟩
   ·exact ⟨rfl, hc1.mono fun b o hb => sg0_right hb, hf⟩
  ·exact (kmap_perm (mset_perm hM.nd)).trans (by rw [kmap_set]; exact kset_perm hA)
def Cod.fresh (t : Cod) : Cod := ⟨t.text, t.client, t.user, t.uri, t.scopes, t.chall, t.expires, t.family, false⟩
def gissue (A : List (ByteArray × Cod)) (t : Cod) : Int × List (ByteArray × Cod) :=
 if (mget t.text A).isSome then (22, A) else if 4096 ≤ A.length then (8, A) else (0, kset t.text t.fresh A)
theorem gissue_spec (g : Nat) (C : List (Who × List ByteArray)) (A : List (ByteArray × Cod)) (T : Seg) (h : GI g C A T) (w : Value) (t : Cod) (R : Rds) (ht : CodR R (w, t)) (hf : t.few) :
  Spec Tryz.prog 92 [.pointer (some ⟨g, 0, none⟩), .agg (encG (w, t)).toArray] R [T] fun v H' => ∃ T', H' = [T'] ∧ v = .int .i64 (gissue A t).1 ∧ GI g C (gissue A t).2 T' := by
 have h0 := h
 obtain ⟨Td, _, rfl, vc, MC, vm, M, q, Tc, Tm, Tq, rfl, ⟨hMC, hIC, hC⟩, hM, hI, hA, hQ⟩ := h
 obtain ⟨bm, rfl⟩ : ∃ b, vm = .map (some b) := by obtain ⟨b, es, clock, h1, _⟩ := hM; exact ⟨b, h1⟩
 have io : Ones (encG (w, t)) := ⟨ht.ones⟩
 have iw : One w := ht.oneCell
 have ic : One vc := ⟨by obtain ⟨b, es, clock, h1, _⟩ := hMC; subst h1; rfl⟩
 have hlen : M.length = A.length := by simpa [kmap_length] using hA.length_eq
 obtain ⟨w0, t0, hr0, hc0, hf0, hs0, _, _⟩ := gi_get hM.nd hI hA t.text
 have i0 : Ones (encG (w0, t0)) := ⟨hc0.ones⟩
 refine Spec.segs (H' := [[(g, .cells [vc, .map (some bm), .pointer (some ⟨q, 0, none⟩)].toArray 110 (0, 0))], Tc, Tm, Tq, Td]) (by simp) ?_
 refine Spec.body Tryz.func92 rfl Tryz.results92 Tryz.ntmps92 rfl ?_
 refine .sr ?_
 refine .boxA rfl (fun b3 => ?_)
 refine .ag rfl<|.zs<|.sr<|.mo rfl ?_
 refine .callR (gok_spec g bm _ _ _) (fun v hv => ?_)
 subst hv
 refine .q .not<|.zn<|.condF<|.kn<|.seq<|.seq<|.region_all [11] mixed ?_
 refine .takeO 0 rfl .move (by kernel_rfl)<|.takeO 1 rfl (.nilCheck rfl) (by kernel_rfl)<|.takeO 2 rfl (.fieldAddr rfl) (by kernel_rfl)<|.takeO 3 rfl (.load1 rfl) (by kernel_rfl)<|.takeO 4 rfl (.fieldAddr rfl) (by kernel_rfl)<|.takeO 5 rfl (.load1 rfl) (by kernel_rfl) ?_
 refine .takeO 6 rfl (Quiet.cast (v' := .tuple [.agg (encG (w0, t0)).toArray, .bool (mget t.text A).isSome].toArray) (.lookup2 hM.rx rfl (show _ = some (Value.string t.text) from rfl)) (by rw [← hs0, ← hr0]; rfl)) (by kernel_rfl) ?_
 refine .takeO 7 rfl .move (by kernel_rfl)<|.takeO 8 rfl .extract (by kernel_rfl)<|.take 9 rfl .extract (by kernel_rfl) ?_
 refine RA.step 10 rfl (by kernel_rfl) rfl ?_
 refine .allocA (fun b5 => ?_)
 refine .nil (Next.sub ?_)
 refine RA.step 11 rfl (by kernel_rfl) rfl ?_
 refine .storeA rfl rfl ?_
 refine .nil (Next.mod rfl ?_)
 refine .take 12 rfl .assign (by kernel_rfl) ?_
 refine RA.nil (by kernel_rfl) ?_
 refine seqQ_n<|.sr<|.mo rfl<|.zn ?_
 refine .cond rfl (fun h2 => ?_) (fun h2 => ?_)
 refine .sr<|.ag rfl<|.zn ?_
 refine .ret (seqQ_r (retQ_r _ (.one (.tmp rfl)) (.one [2, 2, 2, 2, 2] _) ?_))
 ·have e : gissue A t = (22, A) := by unfold gissue; rw [if_pos h2]
  rw [e]; exact ⟨_, by simp [take, dropAt], rfl, h0⟩
 refine .kn<|.seq<|.sr<|.mo rfl<|.nc rfl<|.fa rfl<|.lo rfl<|.q (.lenM hM.rx rfl) ?_
 refine .q .geq<|.zn ?_
 refine .cond rfl (fun h3 => ?_) (fun h3 => ?_)
 refine .sr<|.ag rfl<|.zn ?_
 refine .ret (seqQ_r (retQ_r _ (.one (.tmp rfl)) (.one [2, 2, 2, 2, 2] _) ?_))
 ·have e : gissue A t = (8, A) := by unfold gissue; rw [if_neg (by rw [h2]; simp), if_pos (by have := of_decide_eq_true h3; omega)]
  rw [e]; exact ⟨_, by simp [take, dropAt], rfl, h0⟩
 have hlt : ¬ 4096 ≤ A.length := by have := of_decide_eq_false h3; omega
 refine .kn<|.sr<|.fa rfl<|.store1 rfl rfl<|.z<|.mo rfl<|.q (.loadA rfl) ?_
 refine .sub (H' := [((g, .cells [vc, .map (some bm), .pointer (some ⟨q, 0, none⟩)].toArray 110 (0, 0)) :: (Tc ++ (Tm ++ Tq))) ++ Td]) ((HLe.pick [2, 2, 2, 2, 2] _).trans (HLe.ofPerm (by simp [take, dropAt]))) ?_
 refine .callM (gput_spec g C A _ h0 w t.fresh _ ht hf (by omega)) (fun v T2 hv => ?_)
 obtain ⟨rfl, hV2⟩ := hv
 refine .z<|.ag rfl<|.zn ?_
 refine .ret (retQ_r _ (.one (.tmp rfl)) (.one [0] _) ?_)
 ·have e : gissue A t = (0, kset t.text t.fresh A) := by unfold gissue; rw [if_neg (by rw [h2]; simp), if_neg hlt]
  rw [e]; exact ⟨T2, by simp [take], rfl, hV2⟩
theorem mem_take_succ {α : Type} {l : List α} {i : Nat} {x : α} (h : l[i]? = some x) (y : α) : y ∈ l.take (i + 1) ↔ y ∈ l.take i ∨ y = x := by
 rw [List.take_add_one, h]; simp
theorem nodup_take_succ {α : Type} {l : List α} {i : Nat} {x : α} (h : l[i]? = some x) : (l.take (i + 1)).Nodup ↔ (l.take i).Nodup ∧ x ∉ l.take i := by
 rw [List.take_add_one, h, List.nodup_append]
 simp only [Option.toList_some, List.nodup_cons, List.not_mem_nil, not_false_eq_true, List.nodup_nil, and_self, true_and, List.mem_singleton]
 constructor
 ·rintro ⟨h1, h2⟩
  exact ⟨h1, fun hm => h2 x hm x rfl rfl⟩
 ·rintro ⟨h1, h2⟩
  exact ⟨h1, fun a ha b hb => by rw [hb]; exact fun e => h2 (e ▸ ha)⟩
theorem sindex_spec (v : Value) (l : List ByteArray) (s : ByteArray) (R : Rds) (h : RS R 1 encS v l) :
  Spec Tryz.prog 211 [v, .string s] R [] fun u H' => (∃ k : Int, u = .int .i64 k ∧ (0 ≤ k ↔ s ∈ l)) ∧ H' = [] := by
 have hle := h.le
 refine Spec.body Tryz.func211 rfl Tryz.results211 Tryz.ntmps211 rfl ?_
 refine .sr<|.ag rfl<|.zs<|.sr<|.mo rfl<|.q (.lenR h) ?_
 refine .mo rfl<|.zn<|.block ?_
 refine .loop (X := Nat) (fun i => i ≤ l.length ∧ s ∉ l.take i) (fun i => [(0, v), (1, .string s), (7, .int .i64 l.length), (8, .int .i64 (i : Nat))]) (fun _ => []) (fun i => l.length - i) 0 ⟨by omega, by simp⟩ (EnvLe.k4 rfl rfl rfl rfl) (HLe.refl _) ?_
 rintro i ⟨hi, hn⟩
 refine .sr<|.q .lss<|.zs ?_
 refine .cond rfl (fun h1 => ?_) (fun h1 => ?_)
 have hlt : i < l.length := by simp at h1; omega
 obtain ⟨z, hz⟩ : ∃ z, l[i]? = some z := ⟨_, List.getElem?_eq_getElem hlt⟩
 refine .kn<|.seq<|.block<|.sr<|.mo rfl<|.ag rfl<|.z<|.mo rfl<|.mo rfl<|.mo rfl ?_
 refine .indexR i h hz (fun pz => ?_)
 refine .lo rfl<|.q .eqS<|.zn ?_
 refine .cond rfl (fun h2 => ?_) (fun h2 => ?_)
 refine .sr<|.mo rfl<|.ag rfl<|.zn ?_
 refine .ret (blkQ_r (seqQ_r (loopQ_r (blkQ_r (seqQ_r (retQ_r _ (.one (.tmp rfl)) (.none _) ?_))))))
 ·have he : s = z := by simpa using h2
  exact ⟨⟨_, rfl, by rw [he]; simp [List.mem_of_getElem? hz]⟩, rfl⟩
 refine .skip<|blkQ_n<|seqQ_n<|.region ?_
 refine .q (.inc (n := i) (by omega)) ?_
 refine .mo rfl<|.nil ?_
 ·exact loopQ_i (i + 1) ⟨by omega, by rw [mem_take_succ hz]; simp at h2; simp [hn, h2]⟩ (by omega) (EnvLe.k4 rfl rfl rfl rfl) (HLe.refl _)
 refine .exit<|seqQ_x<|loopQ_x<|blkQ_x<|seqQ_n<|.sr<|.ag rfl<|.zn ?_
 refine .ret (retQ_r _ (.one (.tmp rfl)) (.none _) ?_)
 ·have he : i = l.length := by simp at h1; omega
  rw [he, List.take_length] at hn
  exact ⟨⟨_, rfl, by simp [hn]⟩, rfl⟩
theorem scontains_spec (v : Value) (l : List ByteArray) (s : ByteArray) (R : Rds) (h : RS R 1 encS v l) :
  Spec Tryz.prog 150 [v, .string s] R [] fun u H' => u = .bool (decide (s ∈ l)) ∧ H' = [] := by
 refine Spec.body Tryz.func150 rfl Tryz.results150 Tryz.ntmps150 rfl ?_
 refine .sr<|.ag rfl<|.z<|.mo rfl<|.mo rfl ?_
 refine .callR (sindex_spec v l s _ h.rx) (fun u hu => ?_)
 obtain ⟨k, rfl, hk⟩ := hu
 refine .q .geq<|.ag rfl<|.zn ?_
 refine .ret (retQ_r _ (.one (.tmp rfl)) (.none _) ?_)
 ·exact ⟨by simp only [hk], rfl⟩
theorem distinct_spec (v : Value) (l : List ByteArray) (R : Rds) (h : RS R 1 encS v l) :
  Spec Tryz.prog 147 [v] R [] fun u H' => u = .bool (decide l.Nodup) ∧ H' = [] := by
 have hle := h.le
 refine Spec.body Tryz.func147 rfl Tryz.results147 Tryz.ntmps147 rfl ?_
 refine .sr<|.ag rfl<|.zs<|.sr<|.mo rfl<|.q (.lenR h) ?_
 refine .mo rfl<|.zn<|.block ?_
 refine .loop (X := Nat) (fun i => i ≤ l.length ∧ (l.take i).Nodup) (fun i => [(0, v), (5, v), (6, .int .i64 l.length), (7, .int .i64 (i : Nat))]) (fun _ => []) (fun i => l.length - i) 0 ⟨by omega, by simp⟩ (EnvLe.k4 rfl rfl rfl rfl) (HLe.refl _) ?_
 rintro i ⟨hi, hn⟩
 refine .sr<|.q .lss<|.zs ?_
 refine .cond rfl (fun h1 => ?_) (fun h1 => ?_)
 have hlt : i < l.length := by simp at h1; omega
 obtain ⟨z, hz⟩ : ∃ z, l[i]? = some z := ⟨_, List.getElem?_eq_getElem hlt⟩
 refine .kn<|.seq<|.block<|.sr<|.mo rfl ?_
 refine .indexR i h hz (fun pz => ?_)
 refine .lo rfl<|.ag rfl<|.ag rfl<|.z<|.mo rfl<|.mo rfl ?_
 refine .sliceR 0 i h rfl ⟨_, rfl⟩ (by omega) (by omega) (fun v2 hv2 => ?_)
 rw [List.drop_zero, Nat.sub_zero] at hv2
 refine .mo rfl ?_
 refine .callR (scontains_spec v2 _ z _ hv2.rx) (fun u hu => ?_)
 subst hu
 refine .zn ?_
 refine .cond rfl (fun h2 => ?_) (fun h2 => ?_)
 refine .sr<|.ag rfl<|.zn ?_
 refine .ret (blkQ_r (seqQ_r (loopQ_r (blkQ_r (seqQ_r (retQ_r _ (.one (.tmp rfl)) (.none _) ?_))))))
 ·have hx : z ∈ l.take i := by simpa using h2
  exact ⟨by rw [decide_eq_false (fun hc : l.Nodup => ((nodup_take_succ hz).1 (hc.sublist (List.take_sublist _ _))).2 hx)], rfl⟩
 refine .skip<|blkQ_n<|seqQ_n<|.region ?_
 refine .q (.inc (n := i) (by omega)) ?_
 refine .mo rfl<|.nil ?_
 ·exact loopQ_i (i + 1) ⟨by omega, (nodup_take_succ hz).2 ⟨hn, by simpa using h2⟩⟩ (by omega) (EnvLe.k4 rfl rfl rfl rfl) (HLe.refl _)
 refine .exit<|seqQ_x<|loopQ_x<|blkQ_x<|seqQ_n<|.sr<|.ag rfl<|.zn ?_
 refine .ret (retQ_r _ (.one (.tmp rfl)) (.none _) ?_)
 ·have he : i = l.length := by simp at h1; omega
  rw [he, List.take_length] at hn
  exact ⟨by rw [decide_eq_true hn], rfl⟩
theorem sindexF_spec (f : FuncId) (caps : List Value) [e : Ent Tryz.prog f] (p : ByteArray → Bool) (v : Value) (l : List ByteArray) (R : Rds) (h : RS R 1 encS v l) (hf : ∀ s ∈ l, ∀ R', (∀ b o, R b o → R' b o) → Spec Tryz.prog f (.string s :: caps) R' [] fun u H' => u = .bool (p s) ∧ H' = []) :
  Spec Tryz.prog 223 [v, .func (.func f) #[] caps.toArray] R [] fun u H' => (∃ k : Int, u = .int .i64 k ∧ (decide (0 ≤ k) = l.any p)) ∧ H' = [] := by
 have hle := h.le
 refine Spec.body Tryz.func223 rfl Tryz.results223 Tryz.ntmps223 rfl ?_
 refine .sr<|.ag rfl<|.zs<|.sr<|.mo rfl<|.q (.lenR h) ?_
 refine .mo rfl<|.zn<|.block ?_
 refine .loop (X := Nat) (fun i => i ≤ l.length ∧ (l.take i).any p = false) (fun i => [(0, v), (1, .func (.func f) #[] caps.toArray), (7, .int .i64 l.length), (8, .int .i64 (i : Nat))]) (fun _ => []) (fun i => l.length - i) 0 ⟨by omega, by simp⟩ (EnvLe.k4 rfl rfl rfl rfl) (HLe.refl _) ?_
 rintro i ⟨hi, hn⟩
 refine .sr<|.q .lss<|.zs ?_
 refine .cond rfl (fun h1 => ?_) (fun h1 => ?_)
 have hlt : i < l.length := by simp at h1; omega
 obtain ⟨z, hz⟩ : ∃ z, l[i]? = some z := ⟨_, List.getElem?_eq_getElem hlt⟩
 have hzm := List.mem_of_getElem? hz
 have hta : (l.take (i + 1)).any p = ((l.take i).any p || p z) := by rw [List.take_add_one, hz, List.any_append]; simp
 refine .kn<|.seq<|.block<|.sr<|.mo rfl<|.ag rfl<|.z<|.mo rfl<|.mo rfl<|.mo rfl ?_
 refine .indexR i h hz (fun pz => ?_)
 refine .lo rfl ?_
 refine .callRV (first := []) (captured := caps) (vs := [.string z]) (hf z hzm _ fun b o hb => .inl hb) (fun u hu => ?_)
 subst hu
 refine .zn ?_
 refine .cond rfl (fun h2 => ?_) (fun h2 => ?_)
 refine .sr<|.mo rfl<|.ag rfl<|.zn ?_
 refine .ret (blkQ_r (seqQ_r (loopQ_r (blkQ_r (seqQ_r (retQ_r _ (.one (.tmp rfl)) (.none _) ?_))))))
 ·refine ⟨⟨_, rfl, ?_⟩, rfl⟩
  rw [List.any_eq_true.2 ⟨z, hzm, h2⟩]; simp
 refine .skip<|blkQ_n<|seqQ_n<|.region ?_
 refine .q (.inc (n := i) (by omega)) ?_
 refine .mo rfl<|.nil ?_
 ·exact loopQ_i (i + 1) ⟨by omega, by rw [hta, hn, h2]; rfl⟩ (by omega) (EnvLe.k4 rfl rfl rfl rfl) (HLe.refl _)
 refine .exit<|seqQ_x<|loopQ_x<|blkQ_x<|seqQ_n<|.sr<|.ag rfl<|.zn ?_
 refine .ret (retQ_r _ (.one (.tmp rfl)) (.none _) ?_)
 ·have he : i = l.length := by simp at h1; omega
  rw [he, List.take_length] at hn
  exact ⟨⟨_, rfl, by rw [hn]; rfl⟩, rfl⟩
theorem scontainsF_spec (f : FuncId) (caps : List Value) [e : Ent Tryz.prog f] (p : ByteArray → Bool) (v : Value) (l : List ByteArray) (R : Rds) (h : RS R 1 encS v l) (hf : ∀ s ∈ l, ∀ R', (∀ b o, R b o → R' b o) → Spec Tryz.prog f (.string s :: caps) R' [] fun u H' => u = .bool (p s) ∧ H' = []) :
  Spec Tryz.prog 164 [v, .func (.func f) #[] caps.toArray] R [] fun u H' => u = .bool (l.any p) ∧ H' = [] := by
 refine Spec.body Tryz.func164 rfl Tryz.results164 Tryz.ntmps164 rfl ?_
 refine .sr<|.ag rfl<|.z<|.mo rfl<|.mo rfl ?_
 refine .callR (sindexF_spec f caps p v l _ h.rx fun s hs R' hR => hf s hs R' fun b o hb => hR b o (.inl hb)) (fun u hu => ?_)
 obtain ⟨k, rfl, hk⟩ := hu
 refine .q .geq<|.ag rfl<|.zn ?_
 refine .ret (retQ_r _ (.one (.tmp rfl)) (.none _) ?_)
 ·exact ⟨by simp only [hk], rfl⟩
theorem call1_spec (f : FuncId) [e : Ent Tryz.prog f] (q : ByteArray → Bool) (s : ByteArray) (b : Nat) (R : Rds) (hb : PC R (.pointer (some ⟨b, 0, none⟩)) [.func (.func f) #[] #[]]) (hf : ∀ R', Spec Tryz.prog f [.string s] R' [] fun u H' => u = .bool (q s) ∧ H' = []) :
  Spec Tryz.prog 210 [.string s, .pointer (some ⟨b, 0, none⟩)] R [] fun u H' => u = .bool (!q s) ∧ H' = [] := by
 refine Spec.body Tryz.func210 rfl Tryz.results210 Tryz.ntmps210 rfl ?_
 refine .sr<|.ag rfl<|.z<|.lo rfl<|.mo rfl ?_
 refine .callRV (first := []) (captured := []) (vs := [.string s]) (hf _) (fun u hu => ?_)
 subst hu
 refine .q .not<|.ag rfl<|.zn ?_
 refine .ret (retQ_r _ (.one (.tmp rfl)) (.none _) ?_)
 ·exact ⟨rfl, rfl⟩
theorem call_spec (f : FuncId) [e : Ent Tryz.prog f] (q : ByteArray → Bool) (v : Value) (l : List ByteArray) (R : Rds) (h : RS R 1 encS v l) (hf : ∀ s ∈ l, ∀ R', Spec Tryz.prog f [.string s] R' [] fun u H' => u = .bool (q s) ∧ H' = []) :
  Spec Tryz.prog 148 [v, .func (.func f) #[] #[]] R [] fun u H' => u = .bool (l.all q) ∧ H' = [] := by
 refine Spec.body Tryz.func148 rfl Tryz.results148 Tryz.ntmps148 rfl ?_
 refine .sr ?_
 refine .box1 rfl (fun b3 => ?_)
 refine .ag rfl<|.z<|.mo rfl<|.q .makeFunc ?_
 refine .callR (scontainsF_spec 210 [.pointer (some ⟨b3, 0, none⟩)] (fun s => !q s) v l _ h.rx fun s hs R' hR => call1_spec f q s b3 R' (PC.of (E := 148) (fr := (0, 0)) (hR _ _ (.inr (by simp)))) (hf s hs)) (fun u hu => ?_)
 subst hu
 refine .q .not<|.ag rfl<|.zn ?_
 refine .ret (retQ_r _ (.one (.tmp rfl)) (.none _) ?_)
 ·exact ⟨by congr 1; rw [List.all_eq_not_any_not], rfl⟩
def bAll (s : ByteArray) (p : Int → Bool) : Bool := s.data.toList.all fun c => p (c.toNat : Int)
theorem bAll_true {s : ByteArray} {p : Int → Bool} (h : ∀ j (hj : j < s.size), p (s[j]'hj).toNat = true) : bAll s p = true := by
 unfold bAll
 rw [List.all_eq_true]
 intro c hc
 obtain ⟨j, hj, rfl⟩ := List.mem_iff_getElem.1 hc
 exact h j (by simpa using hj)
theorem bAll_false {s : ByteArray} {p : Int → Bool} {j : Nat} (hj : j < s.size) (h : p (s[j]'hj).toNat = false) : bAll s p = false := by
 unfold bAll
 rw [List.all_eq_false]
 refine ⟨s[j], ?_, by rw [h]; simp⟩
 have : s[j] = s.data.toList[j]'(by simpa using hj) := by simp [ByteArray.getElem_eq_getElem_data]
 rw [this]
 exact List.getElem_mem _
def zSmall (z : Int) : Bool := decide (97 ≤ z) && decide (z ≤ 122)
def zFig (z : Int) : Bool := (decide (48 ≤ z) && decide (z ≤ 57)) || z == 95
def zId (z : Int) : Bool := zSmall z || zFig z || (decide (65 ≤ z) && decide (z ≤ 90)) || z == 46 || z == 45
def zWord (z : Int) : Bool := zSmall z || zFig z
def isID (s : ByteArray) : Bool := bAll s zId && decide (1 ≤ s.size) && decide (s.size ≤ 32)
def reserved (s : ByteArray) : Bool := decide (s = ⟨#[117, 115, 101, 114]⟩) || decide (s = ⟨#[116, 104, 105, 115]⟩) || decide (s = ⟨#[110, 97, 109, 101, 115, 112, 97, 99, 101]⟩) || decide (s = ⟨#[114, 101, 108, 97, 116, 105, 111, 110]⟩) || decide (s = ⟨#[115, 99, 111, 112, 101]⟩)
def isWord (s : ByteArray) : Bool := !reserved s && (bAll s zWord && decide (1 ≤ s.size) && decide (s.size ≤ 32)) && (if h : 0 < s.size then zSmall (s[0]'h).toNat else false)
theorem small_spec (z : Int) (R : Rds) : Spec Tryz.prog 145 [.int .u8 z] R [] fun v H' => v = .bool (zSmall z) ∧ H' = [] := by
 refine Spec.body Tryz.func145 rfl Tryz.results145 Tryz.ntmps145 rfl ?_
 refine .sr<|.ag rfl<|.z<|.mo rfl<|.q .geq<|.mo rfl ?_
 refine .split (t := 5) rfl (fun g1_2 => ?_) (fun g1_2 => ?_)
 refine .gT g1_2<|.mo rfl<|.gT g1_2<|.q .leq<|.q (.pickTh g1_2) ?_
 refine .ag rfl<|.zn ?_
 refine .ret (retQ_r _ (.one (.tmp rfl)) (.none _) ?_)
 ·exact ⟨by simp_all [zSmall] <;> omega, rfl⟩
 refine .gF g1_2<|.gF g1_2<|.q (.pickFh g1_2) ?_
 refine .ag rfl<|.zn ?_
 refine .ret (retQ_r _ (.one (.tmp rfl)) (.none _) ?_)
 ·exact ⟨by simp_all [zSmall] <;> omega, rfl⟩
theorem figure_spec (z : Int) (R : Rds) : Spec Tryz.prog 146 [.int .u8 z] R [] fun v H' => v = .bool (zFig z) ∧ H' = [] := by
 refine Spec.body Tryz.func146 rfl Tryz.results146 Tryz.ntmps146 rfl ?_
 refine .sr<|.ag rfl<|.z<|.mo rfl<|.q .geq<|.mo rfl ?_
 refine .split (t := 5) rfl (fun g1_2 => ?_) (fun g1_2 => ?_)
 refine .gT g1_2<|.mo rfl<|.gT g1_2<|.q .leq<|.q (.pickTh g1_2) ?_
 refine .mo rfl ?_
 refine .split (t := 9) rfl (fun g1_6 => ?_) (fun g1_6 => ?_)
 refine .gF g1_6<|.gF g1_6<|.q (.pickTh g1_6) ?_
 refine .ag rfl<|.zn ?_
 refine .ret (retQ_r _ (.one (.tmp rfl)) (.none _) ?_)
 ·exact ⟨by simp_all [zFig] <;> omega, rfl⟩
 refine .gT g1_6<|.mo rfl<|.gT g1_6<|.q .eqI<|.q (.pickFh g1_6) ?_
 refine .ag rfl<|.zn ?_
 refine .ret (retQ_r _ (.one (.tmp rfl)) (.none _) ?_)
 ·exact ⟨by simp_all [zFig] <;> omega, rfl⟩
 refine .gF g1_2<|.gF g1_2<|.q (.pickFh g1_2) ?_
 refine .mo rfl<|.gt rfl ?_
 refine .mo rfl<|.gt rfl ?_
 refine .q .eqI<|.q .pickF<|.ag rfl<|.zn ?_
 refine .ret (retQ_r _ (.one (.tmp rfl)) (.none _) ?_)
 ·exact ⟨by simp_all [zFig] <;> omega, rfl⟩
theorem id1_spec (z : Int) (R : Rds) : Spec Tryz.prog 144 [.int .u8 z] R [] fun v H' => v = .bool (zId z) ∧ H' = [] := by
 refine Spec.body Tryz.func144 rfl Tryz.results144 Tryz.ntmps144 rfl ?_
 refine .sr<|.ag rfl<|.z<|.mo rfl ?_
 refine .callR (small_spec z _) (fun v hv => ?_)
 subst hv
 refine .mo rfl ?_
 refine .split (t := 5) rfl (fun g1_2 => ?_) (fun g1_2 => ?_)
 refine .gF g1_2<|.gF g1_2<|.q (.pickTh g1_2) ?_
 refine .mo rfl<|.gf rfl rfl<|.gf rfl rfl<|.gf rfl rfl<|.gfU rfl ?_
 refine .gfU rfl ?_
 refine .gf rfl rfl<|.q .pickT<|.mo rfl<|.gf rfl rfl<|.gf rfl rfl<|.q .pickT<|.mo rfl<|.gf rfl rfl<|.gf rfl rfl<|.q .pickT<|.ag rfl<|.zn ?_
 refine .ret (retQ_r _ (.one (.tmp rfl)) (.none _) ?_)
 ·exact ⟨by simp_all [zId] <;> omega, rfl⟩
 refine .gT g1_2<|.mo rfl<|.gT g1_2 ?_
 refine .callR (figure_spec z _) (fun v hv => ?_)
 subst hv
 refine .q (.pickFh g1_2) ?_
 refine .mo rfl ?_
 refine .split (t := 9) rfl (fun g1_6 => ?_) (fun g1_6 => ?_)
 refine .gF g1_6<|.gF g1_6<|.gF g1_6<|.gfU rfl ?_
 refine .gfU rfl ?_
 refine .gF g1_6<|.q (.pickTh g1_6) ?_
 refine .mo rfl<|.gf rfl rfl<|.gf rfl rfl<|.q .pickT<|.mo rfl<|.gf rfl rfl<|.gf rfl rfl<|.q .pickT<|.ag rfl<|.zn ?_
 refine .ret (retQ_r _ (.one (.tmp rfl)) (.none _) ?_)
 ·exact ⟨by simp_all [zId] <;> omega, rfl⟩
 refine .gT g1_6<|.mo rfl<|.gT g1_6<|.q .geq<|.gT g1_6<|.mo rfl ?_
 refine .split (t := 12) rfl (fun g1_9 => ?_) (fun g1_9 => ?_)
 refine .gT g1_9<|.mo rfl<|.gT g1_9<|.q .leq<|.gT g1_6<|.q (.pickTh g1_9) ?_
 refine .q (.pickFh g1_6) ?_
 refine .mo rfl ?_
 refine .split (t := 17) rfl (fun g1_14 => ?_) (fun g1_14 => ?_)
 refine .gF g1_14<|.gF g1_14<|.q (.pickTh g1_14) ?_
 refine .mo rfl<|.gf rfl rfl<|.gf rfl rfl<|.q .pickT<|.ag rfl<|.zn ?_
 refine .ret (retQ_r _ (.one (.tmp rfl)) (.none _) ?_)
 ·exact ⟨by simp_all [zId] <;> omega, rfl⟩
 refine .gT g1_14<|.mo rfl<|.gT g1_14<|.q .eqI<|.q (.pickFh g1_14) ?_
 refine .mo rfl ?_
 refine .split (t := 21) rfl (fun g1_18 => ?_) (fun g1_18 => ?_)
 refine .gF g1_18<|.gF g1_18<|.q (.pickTh g1_18) ?_
 refine .ag rfl<|.zn ?_
 refine .ret (retQ_r _ (.one (.tmp rfl)) (.none _) ?_)
 ·exact ⟨by simp_all [zId] <;> omega, rfl⟩
 refine .gT g1_18<|.mo rfl<|.gT g1_18<|.q .eqI<|.q (.pickFh g1_18) ?_
 refine .ag rfl<|.zn ?_
 refine .ret (retQ_r _ (.one (.tmp rfl)) (.none _) ?_)
 ·exact ⟨by simp_all [zId] <;> omega, rfl⟩
 refine .gF g1_9<|.gF g1_9<|.gT g1_6<|.q (.pickFh g1_9) ?_
 refine .q (.pickFh g1_6) ?_
 refine .mo rfl<|.gt rfl ?_
 refine .mo rfl<|.gt rfl ?_
 refine .q .eqI<|.q .pickF<|.mo rfl ?_
 refine .split (t := 21) rfl (fun g1_18 => ?_) (fun g1_18 => ?_)
 refine .gF g1_18<|.gF g1_18<|.q (.pickTh g1_18) ?_
 refine .ag rfl<|.zn ?_
 refine .ret (retQ_r _ (.one (.tmp rfl)) (.none _) ?_)
 ·exact ⟨by simp_all [zId] <;> omega, rfl⟩
 refine .gT g1_18<|.mo rfl<|.gT g1_18<|.q .eqI<|.q (.pickFh g1_18) ?_
 refine .ag rfl<|.zn ?_
 refine .ret (retQ_r _ (.one (.tmp rfl)) (.none _) ?_)
 ·exact ⟨by simp_all [zId] <;> omega, rfl⟩
theorem word1_spec (z : Int) (R : Rds) : Spec Tryz.prog 257 [.int .u8 z] R [] fun v H' => v = .bool (zWord z) ∧ H' = [] := by
 refine Spec.body Tryz.func257 rfl Tryz.results257 Tryz.ntmps257 rfl ?_
 refine .sr<|.ag rfl<|.z<|.mo rfl ?_
 refine .callR (small_spec z _) (fun v hv => ?_)
 subst hv
 refine .mo rfl ?_
 refine .split (t := 5) rfl (fun g1_2 => ?_) (fun g1_2 => ?_)
 refine .gF g1_2<|.gF g1_2<|.q (.pickTh g1_2) ?_
 refine .ag rfl<|.zn ?_
 refine .ret (retQ_r _ (.one (.tmp rfl)) (.none _) ?_)
 ·exact ⟨by simp_all [zWord] <;> omega, rfl⟩
 refine .gT g1_2<|.mo rfl<|.gT g1_2 ?_
 refine .callR (figure_spec z _) (fun v hv => ?_)
 subst hv
 refine .q (.pickFh g1_2) ?_
 refine .ag rfl<|.zn ?_
 refine .ret (retQ_r _ (.one (.tmp rfl)) (.none _) ?_)
 ·exact ⟨by simp_all [zWord] <;> omega, rfl⟩
theorem all_spec (s : ByteArray) (f : FuncId) [e : Ent Tryz.prog f] (p : Int → Bool) (hf : ∀ z R, Spec Tryz.prog f [.int .u8 z] R [] fun v H' => v = .bool (p z) ∧ H' = []) (hs : s.size ≤ 9223372036854775807) (R : Rds) :
  Spec Tryz.prog 143 [.string s, .func (.func f) #[] #[]] R [] fun v H' => v = .bool (bAll s p && decide (1 ≤ s.size) && decide (s.size ≤ 32)) ∧ H' = [] := by
 refine Spec.body Tryz.func143 rfl Tryz.results143 Tryz.ntmps143 rfl ?_
 refine .sr<|.ag rfl<|.zs<|.sr<|.mo rfl<|.q .lenS<|.mo rfl<|.zn<|.block ?_
 refine .loop (X := Nat) (fun i => i ≤ s.size ∧ ∀ j (hj : j < s.size), j < i → p (s[j]'hj).toNat = true) (fun i => [(0, .string s), (1, .func (.func f) #[] #[]), (7, .int .i64 (s.size : Nat)), (8, .int .i64 (i : Nat))]) (fun _ => []) (fun i => s.size - i) 0 ⟨by omega, by omega⟩ (EnvLe.k4 rfl rfl rfl rfl) (HLe.refl _) ?_
 rintro i ⟨hi, hp⟩
 refine .sr<|.q .lss<|.zs ?_
 refine .cond rfl (fun h1 => ?_) (fun h1 => ?_)
 have hlt : i < s.size := by simp at h1; omega
 refine .kn<|.seq<|.block<|.sr<|.mo rfl<|.ag rfl<|.z<|.mo rfl<|.mo rfl<|.mo rfl<|.q (.indexS i hlt) ?_
 refine .callRV (first := []) (captured := []) (vs := [.int .u8 (s[i]'hlt).toNat]) (hf _ _) (fun v hv => ?_)
 subst hv
 refine .q .not<|.zn ?_
 refine .cond rfl (fun h2 => ?_) (fun h2 => ?_)
 refine .sr<|.ag rfl<|.zn ?_
 refine .ret (blkQ_r (seqQ_r (loopQ_r (blkQ_r (seqQ_r (retQ_r _ (.one (.tmp rfl)) (.none _) ?_))))))
 ·have := bAll_false hlt (p := p) (by simpa using h2)
  exact ⟨by simp [this], rfl⟩
 refine .skip<|blkQ_n<|seqQ_n<|.region ?_
 refine .q (.inc (n := i) (by omega)) ?_
 refine .mo rfl<|.nil ?_
 ·exact loopQ_i (i + 1) ⟨by omega, fun j hj hji => by
   rcases Nat.lt_or_ge j i with hh | hh
   ·exact hp j hj hh
   ·obtain rfl : j = i := by omega
    simpa using h2⟩ (by omega) (EnvLe.k4 rfl rfl rfl rfl) (HLe.refl _)
 have hb : bAll s p = true := bAll_true fun j hj => hp j hj (by simp at h1; omega)
 refine .exit<|seqQ_x<|loopQ_x<|blkQ_x<|seqQ_n<|.sr<|.mo rfl<|.q .lenS<|.q .geq<|.mo rfl ?_
 refine .split (t := 21) rfl (fun g7_3 => ?_) (fun g7_3 => ?_)
 refine .gT g7_3<|.mo rfl<|.gT g7_3<|.q .lenS<|.gT g7_3<|.q .leq<|.q (.pickTh g7_3) ?_
 refine .ag rfl<|.zn ?_
 refine .ret (retQ_r _ (.one (.tmp rfl)) (.none _) ?_)
 ·exact ⟨by rw [Value.bool.injEq, Bool.eq_iff_iff]; simp [hb] at *; omega, rfl⟩
 refine .gF g7_3<|.gF g7_3<|.gF g7_3<|.q (.pickFh g7_3) ?_
 refine .ag rfl<|.zn ?_
 refine .ret (retQ_r _ (.one (.tmp rfl)) (.none _) ?_)
 ·exact ⟨by rw [Value.bool.injEq, Bool.eq_iff_iff]; simp [hb] at *; omega, rfl⟩
theorem id_spec (s : ByteArray) (hs : s.size ≤ 9223372036854775807) (R : Rds) : Spec Tryz.prog 85 [.string s] R [] fun v H' => v = .bool (isID s) ∧ H' = [] := by
 refine Spec.body Tryz.func85 rfl Tryz.results85 Tryz.ntmps85 rfl ?_
 refine .sr<|.ag rfl<|.z<|.mo rfl ?_
 refine .callR (all_spec s 144 zId id1_spec hs _) (fun v hv => ?_)
 subst hv
 refine .ag rfl<|.zn ?_
 refine .ret (retQ_r _ (.one (.tmp rfl)) (.none _) ?_)
 ·exact ⟨rfl, rfl⟩
theorem word_spec (s : ByteArray) (hs : s.size ≤ 9223372036854775807) (R : Rds) : Spec Tryz.prog 206 [.string s] R [] fun v H' => v = .bool (isWord s) ∧ H' = [] := by
 refine Spec.body Tryz.func206 rfl Tryz.results206 Tryz.ntmps206 rfl ?_
 refine .sr<|.ag rfl<|.zs<|.sr<|.mo rfl<|.zn<|.block<|.seq<|.sr<|.q .eqS<|.ag rfl<|.zn ?_
 refine Tri.cut (X := Unit) (fun _ => True) (fun _ => [(0, .string s), (4, .bool (reserved s))]) (fun _ => []) ?_ ?_
 refine .cond rfl (fun h1 => ?_) (fun h1 => ?_)
 refine .skip ?_
 ·refine joinQ_n () trivial ?_ (HLe.refl _)
  (simp only [reserved, h1, Bool.true_or]; exact (EnvLe.k2 rfl rfl))
 refine .sr<|.q .eqS<|.ag rfl<|.zn ?_
 refine .cond rfl (fun h2 => ?_) (fun h2 => ?_)
 refine .skip ?_
 ·refine joinQ_n () trivial ?_ (HLe.refl _)
  (simp only [reserved, h1, h2, Bool.false_or, Bool.true_or]; exact (EnvLe.k2 rfl rfl))
 refine .sr<|.q .eqS<|.ag rfl<|.zn ?_
 refine .cond rfl (fun h3 => ?_) (fun h3 => ?_)
 refine .skip ?_
 ·refine joinQ_n () trivial ?_ (HLe.refl _)
  (simp only [reserved, h1, h2, h3, Bool.false_or, Bool.true_or]; exact (EnvLe.k2 rfl rfl))
 refine .sr<|.q .eqS<|.ag rfl<|.zn ?_
 refine .cond rfl (fun h4 => ?_) (fun h4 => ?_)
 refine .skip ?_
 ·refine joinQ_n () trivial ?_ (HLe.refl _)
  (simp only [reserved, h1, h2, h3, h4, Bool.false_or]; exact (EnvLe.k2 rfl rfl))
 refine .region<|.q .eqS<|.ag rfl<|.nil ?_
 ·refine joinQ_n () trivial ?_ (HLe.refl _)
  (simp only [reserved, h1, h2, h3, h4, Bool.false_or]; exact (EnvLe.k2 rfl rfl))
 intro x hx
 refine seqQ_n ?_
 refine .cond rfl (fun h5 => ?_) (fun h5 => ?_)
 refine .sr<|.ag rfl<|.zn ?_
 refine .ret (blkQ_r (seqQ_r (retQ_r _ (.one (.tmp rfl)) (.none _) ?_)))
 ·refine ⟨?_, rfl⟩
  (simp [isWord, h5]; done)
 refine .skip<|blkQ_n<|seqQ_n<|.sr<|.mo rfl ?_
 refine .callR (all_spec s 257 zWord word1_spec hs _) (fun v hv => ?_)
 subst hv
 refine .mo rfl ?_
 refine .split (t := 12) rfl (fun g8_2 => ?_) (fun g8_2 => ?_)
 refine .gT g8_2<|.mo rfl<|.gT g8_2 ?_
 have hpos : 0 < s.size := by simp at g8_2; omega
 refine .q (.indexS 0 hpos) ?_
 refine .gT g8_2 ?_
 refine .callR (small_spec _ _) (fun v hv => ?_)
 subst hv
 refine .q (.pickTh g8_2) ?_
 refine .ag rfl<|.zn ?_
 refine .ret (retQ_r _ (.one (.tmp rfl)) (.none _) ?_)
 ·refine ⟨?_, rfl⟩
  (rw [isWord, h5, g8_2, dif_pos hpos, Bool.not_false, Bool.true_and, Bool.true_and])
 refine .gF g8_2<|.gF g8_2<|.gF g8_2<|.q (.pickFh g8_2) ?_
 refine .ag rfl<|.zn ?_
 refine .ret (retQ_r _ (.one (.tmp rfl)) (.none _) ?_)
 ·refine ⟨?_, rfl⟩
  (rw [isWord, g8_2, Bool.and_false, Bool.false_and])
def zSeen (z : Int) : Bool := decide (33 ≤ z) && decide (z ≤ 126)
def zHash (z : Int) : Bool := z != 35
def https : ByteArray := ⟨#[104, 116, 116, 112, 115, 58, 47, 47]⟩
def isAddr (s : ByteArray) : Bool := decide (9 ≤ s.size) && decide (s.size ≤ 200) && bAll s zSeen && bAll s zHash && decide (s.extract 0 8 = https)
def isSecret (s : ByteArray) : Bool := decide (s = ⟨#[]⟩) || (decide (8 ≤ s.size) && decide (s.size ≤ 64) && bAll s zSeen)
structure Cli where
 id : ByteArray
 secret : ByteArray
 uris : List ByteArray
 scopes : List ByteArray
def Cli.check (c : Cli) : Int :=
 if isID c.id = false then 9 else if isSecret c.secret = false then 4
 else if c.uris.length < 1 ∨ 8 < c.uris.length ∨ ¬ c.uris.Nodup ∨ c.uris.all isAddr = false then 4
 else if 16 < c.scopes.length ∨ ¬ c.scopes.Nodup ∨ c.scopes.all isWord = false then 4 else 0
def Cli.fits (c : Cli) : Prop := c.id.size ≤ 9223372036854775807 ∧ c.secret.size ≤ 9223372036854775807 ∧ (∀ s ∈ c.uris, s.size ≤ 9223372036854775807) ∧ ∀ s ∈ c.scopes, s.size ≤ 9223372036854775807
theorem index_hash : ∀ (l : List UInt8), decide (0 ≤ Lib.indexByte l 35) = !(l.all fun c => zHash (c.toNat : Int))
 | [] => rfl
 | b :: l => by
  have ih := index_hash l
  have hge := Lib.indexByte_ge l 35
  unfold Lib.indexByte
  rw [List.all_cons]
  by_cases hb : b = 35
  ·subst hb; simp [zHash]
  ·have h1 : (b == 35) = false := by simpa using hb
   have h2 : zHash (b.toNat : Int) = true := by
    have : b.toNat ≠ 35 := fun e => hb (UInt8.toNat_inj.1 e)
    simp [zHash]; omega
   rw [h1, h2, Bool.true_and, ← ih]
   simp only [Bool.false_eq_true, if_false]
   by_cases h3 : Lib.indexByte l 35 = -1
   ·simp [h3]
   ·have : (Lib.indexByte l 35 == -1) = false := by simpa using h3
    rw [this]
    simp only [Bool.false_eq_true, if_false]
    rw [Bool.eq_iff_iff]; simp; omega
theorem hasHash_spec (s : ByteArray) (R : Rds) : Spec Tryz.prog 255 [.string s, .string ⟨#[35]⟩] R [] fun v H' => v = .bool (!bAll s zHash) ∧ H' = [] :=
 (Spec.ofCalls (Tryz.strings_Contains_one s 35) R).mono fun v H' ⟨h1, h2⟩ => ⟨by rw [h1, index_hash]; rfl, h2⟩
theorem pre_spec (s : ByteArray) (R : Rds) (h : 8 ≤ s.size) : Spec Tryz.prog 256 [.string s, .string https] R [] fun v H' => v = .bool (decide (s.extract 0 8 = https)) ∧ H' = [] :=
 (Spec.ofCalls (Tryz.strings_HasPrefix s https) R).mono fun v H' ⟨h1, h2⟩ => ⟨by
  rw [h1, ← Lib.hasPrefix_raw, beq_str, show https.size = 8 from rfl, decide_eq_true h, Bool.true_and], h2⟩
theorem seen_spec (s : ByteArray) (hs : s.size ≤ 9223372036854775807) (R : Rds) : Spec Tryz.prog 254 [.string s] R [] fun v H' => v = .bool (bAll s zSeen) ∧ H' = [] := by
 refine Spec.body Tryz.func254 rfl Tryz.results254 Tryz.ntmps254 rfl ?_
 refine .sr<|.ag rfl<|.zs<|.sr<|.mo rfl<|.q .lenS<|.mo rfl<|.zn<|.block ?_
 refine .loop (X := Nat) (fun i => i ≤ s.size ∧ ∀ j (hj : j < s.size), j < i → zSeen (s[j]'hj).toNat = true) (fun i => [(0, .string s), (5, .int .i64 (s.size : Nat)), (6, .int .i64 (i : Nat))]) (fun _ => []) (fun i => s.size - i) 0 ⟨by omega, by omega⟩ (EnvLe.k3 rfl rfl rfl) (HLe.refl _) ?_
 rintro i ⟨hi, hp⟩
 refine .sr<|.q .lss<|.zs ?_
 refine .cond rfl (fun h1 => ?_) (fun h1 => ?_)
 have hlt : i < s.size := by simp at h1; omega
 refine .kn<|.seq<|.block<|.sr<|.mo rfl<|.ag rfl<|.z<|.mo rfl<|.mo rfl<|.q (.indexS i hlt) ?_
 refine .q .lss<|.mo rfl ?_
 refine .split (t := 13) rfl (fun g4_4 => ?_) (fun g4_4 => ?_)
 refine .gF g4_4<|.gF g4_4<|.gF g4_4<|.gF g4_4<|.q (.pickTh g4_4) ?_
 refine .zn<|.condT<|.sr<|.ag rfl<|.zn ?_
 refine .ret (blkQ_r (seqQ_r (loopQ_r (blkQ_r (seqQ_r (retQ_r _ (.one (.tmp rfl)) (.none _) ?_))))))
 ·refine ⟨?_, rfl⟩
  rw [bAll_false hlt (by clear hp; simp at g4_4; simp [zSeen]; omega)]
 refine .gT g4_4<|.mo rfl<|.gT g4_4<|.mo rfl<|.gT g4_4<|.q (.indexS i hlt) ?_
 refine .gT g4_4<|.q .gtr<|.q (.pickFh g4_4) ?_
 refine .zn ?_
 refine .cond rfl (fun h2 => ?_) (fun h2 => ?_)
 refine .sr<|.ag rfl<|.zn ?_
 refine .ret (blkQ_r (seqQ_r (loopQ_r (blkQ_r (seqQ_r (retQ_r _ (.one (.tmp rfl)) (.none _) ?_))))))
 ·refine ⟨?_, rfl⟩
  rw [bAll_false hlt (by clear hp; simp at h2; simp [zSeen]; omega)]
 refine .skip<|blkQ_n<|seqQ_n<|.region ?_
 refine .q (.inc (n := i) (by omega)) ?_
 refine .mo rfl<|.nil ?_
 ·exact loopQ_i (i + 1) ⟨by omega, fun j hj hji => by
   rcases Nat.lt_or_ge j i with hh | hh
   ·exact hp j hj hh
   ·obtain rfl : j = i := by omega
    clear hp
    simp at g4_4 h2; simp [zSeen]; omega⟩ (by omega) (EnvLe.k3 rfl rfl rfl) (HLe.refl _)
 have hb : bAll s zSeen = true := bAll_true fun j hj => hp j hj (by simp at h1; omega)
 refine .exit<|seqQ_x<|loopQ_x<|blkQ_x<|seqQ_n<|.sr<|.ag rfl<|.zn ?_
 refine .ret (retQ_r _ (.one (.tmp rfl)) (.none _) ?_)
 ·refine ⟨?_, rfl⟩
  rw [hb]
theorem isAddr_short {s : ByteArray} (h : s.size < 9 ∨ 200 < s.size) : isAddr s = false := by
 unfold isAddr
 rcases h with h | h
 ·rw [decide_eq_false (show ¬ 9 ≤ s.size by omega)]; simp
 ·rw [decide_eq_false (show ¬ s.size ≤ 200 by omega)]; simp
theorem isAddr_seen {s : ByteArray} (h : bAll s zSeen = false) : isAddr s = false := by
 unfold isAddr; rw [h]; simp
theorem isAddr_hash {s : ByteArray} (h : bAll s zHash = false) : isAddr s = false := by
 unfold isAddr; rw [h]; simp
theorem isAddr_of {s : ByteArray} (h1 : 9 ≤ s.size) (h2 : s.size ≤ 200) (h3 : bAll s zSeen = true) (h4 : bAll s zHash = true) : isAddr s = decide (s.extract 0 8 = https) := by
 unfold isAddr; rw [decide_eq_true h1, decide_eq_true h2, h3, h4]; simp
theorem addr_spec (s : ByteArray) (hs : s.size ≤ 9223372036854775807) (R : Rds) : Spec Tryz.prog 205 [.string s] R [] fun v H' => v = .bool (isAddr s) ∧ H' = [] := by
 refine Spec.body Tryz.func205 rfl Tryz.results205 Tryz.ntmps205 rfl ?_
 refine .sr<|.ag rfl<|.z<|.mo rfl<|.q .lenS<|.q .geq<|.mo rfl ?_
 refine .split (t := 6) rfl (fun g1_3 => ?_) (fun g1_3 => ?_)
 refine .gT g1_3<|.mo rfl<|.gT g1_3<|.q .lenS<|.gT g1_3<|.q .leq<|.q (.pickTh g1_3) ?_
 refine .mo rfl ?_
 refine .split (t := 11) rfl (fun g1_8 => ?_) (fun g1_8 => ?_)
 refine .gT g1_8<|.mo rfl<|.gT g1_8 ?_
 refine .callR (seen_spec s hs _) (fun v hv => ?_)
 subst hv
 refine .q (.pickTh g1_8) ?_
 refine .mo rfl ?_
 refine .split (t := 15) rfl (fun g1_12 => ?_) (fun g1_12 => ?_)
 refine .gT g1_12<|.mo rfl<|.gT g1_12 ?_
 refine .callR (hasHash_spec s _) (fun v hv => ?_)
 subst hv
 refine .gT g1_12<|.q .not<|.q (.pickTh g1_12) ?_
 refine .mo rfl ?_
 refine .split (t := 20) rfl (fun g1_17 => ?_) (fun g1_17 => ?_)
 refine .gT g1_17<|.mo rfl<|.gT g1_17 ?_
 have h9 : 8 ≤ s.size := by simp at g1_3; omega
 refine .callR (pre_spec s _ h9) (fun v hv => ?_)
 subst hv
 refine .q (.pickTh g1_17) ?_
 refine .ag rfl<|.zn ?_
 refine .ret (retQ_r _ (.one (.tmp rfl)) (.none _) ?_)
 ·refine ⟨?_, rfl⟩
  rw [isAddr_of (by simp at g1_3; omega) (by simp at g1_8; omega) g1_12 (by simpa using g1_17)]
 refine .gF g1_17<|.gF g1_17<|.q (.pickFh g1_17) ?_
 refine .ag rfl<|.zn ?_
 refine .ret (retQ_r _ (.one (.tmp rfl)) (.none _) ?_)
 ·refine ⟨?_, rfl⟩
  rw [isAddr_hash (by simpa using g1_17)]
 refine .gF g1_12<|.gF g1_12<|.gF g1_12<|.q (.pickFh g1_12) ?_
 refine .mo rfl<|.gf rfl rfl<|.gf rfl rfl<|.q .pickF<|.ag rfl<|.zn ?_
 refine .ret (retQ_r _ (.one (.tmp rfl)) (.none _) ?_)
 ·refine ⟨?_, rfl⟩
  rw [isAddr_seen g1_12]
 refine .gF g1_8<|.gF g1_8<|.q (.pickFh g1_8) ?_
 refine .mo rfl<|.gf rfl rfl<|.gf rfl rfl<|.gf rfl rfl<|.q .pickF<|.mo rfl<|.gf rfl rfl<|.gf rfl rfl<|.q .pickF<|.ag rfl<|.zn ?_
 refine .ret (retQ_r _ (.one (.tmp rfl)) (.none _) ?_)
 ·refine ⟨?_, rfl⟩
  rw [isAddr_short (by simp at g1_8; omega)]
 refine .gF g1_3<|.gF g1_3<|.gF g1_3<|.q (.pickFh g1_3) ?_
 refine .mo rfl<|.gf rfl rfl<|.gf rfl rfl<|.q .pickF<|.mo rfl<|.gf rfl rfl<|.gf rfl rfl<|.gf rfl rfl<|.q .pickF<|.mo rfl<|.gf rfl rfl<|.gf rfl rfl<|.q .pickF<|.ag rfl<|.zn ?_
 refine .ret (retQ_r _ (.one (.tmp rfl)) (.none _) ?_)
 ·refine ⟨?_, rfl⟩
  rw [isAddr_short (by simp at g1_3; omega)]
theorem secret_spec (s : ByteArray) (hs : s.size ≤ 9223372036854775807) (R : Rds) : Spec Tryz.prog 204 [.string s] R [] fun v H' => v = .bool (isSecret s) ∧ H' = [] := by
 refine Spec.body Tryz.func204 rfl Tryz.results204 Tryz.ntmps204 rfl ?_
 refine .sr<|.ag rfl<|.z<|.mo rfl<|.q .eqS<|.mo rfl ?_
 refine .split (t := 5) rfl (fun g1_2 => ?_) (fun g1_2 => ?_)
 refine .gF g1_2<|.gF g1_2<|.gF g1_2<|.gF g1_2<|.gfU rfl ?_
 refine .gfU rfl ?_
 refine .gfU rfl ?_
 refine .gF g1_2<|.gF g1_2<|.gfU rfl ?_
 refine .gfU rfl ?_
 refine .gF g1_2<|.q (.pickTh g1_2) ?_
 refine .ag rfl<|.zn ?_
 refine .ret (retQ_r _ (.one (.tmp rfl)) (.none _) ?_)
 ·refine ⟨?_, rfl⟩
  unfold isSecret
  rw [Value.bool.injEq, Bool.eq_iff_iff]
  simp at *
  simp [*]
  try omega
 refine .gT g1_2<|.mo rfl<|.gT g1_2<|.q .lenS<|.gT g1_2<|.q .geq<|.gT g1_2<|.mo rfl ?_
 refine .split (t := 9) rfl (fun g1_6 => ?_) (fun g1_6 => ?_)
 refine .gT g1_6<|.mo rfl<|.gT g1_6<|.q .lenS<|.gT g1_6<|.q .leq<|.gT g1_2<|.q (.pickTh g1_6) ?_
 refine .gT g1_2<|.mo rfl ?_
 refine .split (t := 14) rfl (fun g1_11 => ?_) (fun g1_11 => ?_)
 refine .gT g1_11<|.mo rfl<|.gT g1_11 ?_
 refine .callR (seen_spec s hs _) (fun v hv => ?_)
 subst hv
 refine .gT g1_2<|.q (.pickTh g1_11) ?_
 refine .q (.pickFh g1_2) ?_
 refine .ag rfl<|.zn ?_
 refine .ret (retQ_r _ (.one (.tmp rfl)) (.none _) ?_)
 ·refine ⟨?_, rfl⟩
  unfold isSecret
  rw [Value.bool.injEq, Bool.eq_iff_iff]
  simp at *
  simp [*]
  try omega
 refine .gF g1_11<|.gF g1_11<|.gT g1_2<|.q (.pickFh g1_11) ?_
 refine .q (.pickFh g1_2) ?_
 refine .ag rfl<|.zn ?_
 refine .ret (retQ_r _ (.one (.tmp rfl)) (.none _) ?_)
 ·refine ⟨?_, rfl⟩
  unfold isSecret
  rw [Value.bool.injEq, Bool.eq_iff_iff]
  simp at *
  simp [*]
  try omega
 refine .gF g1_6<|.gF g1_6<|.gF g1_6<|.gT g1_2<|.q (.pickFh g1_6) ?_
 refine .gT g1_2<|.mo rfl<|.gf rfl rfl<|.gf rfl rfl<|.gT g1_2<|.q .pickF<|.q (.pickFh g1_2) ?_
 refine .ag rfl<|.zn ?_
 refine .ret (retQ_r _ (.one (.tmp rfl)) (.none _) ?_)
 ·refine ⟨?_, rfl⟩
  unfold isSecret
  rw [Value.bool.injEq, Bool.eq_iff_iff]
  simp at *
  simp [*]
  try omega
structure CR where
 id : ByteArray
 secret : ByteArray
 vu : Value
 vs : Value
def CR.cells (r : CR) : List Value := [.string r.id, .string r.secret, r.vu, r.vs]
structure CliR (R : Rds) (r : CR) (c : Cli) : Prop where
 id : r.id = c.id
 secret : r.secret = c.secret
 u : RS R 1 encS r.vu c.uris
 s : RS R 1 encS r.vs c.scopes
theorem CliR.mono {R R' : Rds} {r : CR} {c : Cli} (h : CliR R r c) (hr : ∀ b o, R b o → R' b o) : CliR R' r c := ⟨h.id, h.secret, h.u.mono hr, h.s.mono hr⟩
theorem CliR.ones {R : Rds} {r : CR} {c : Cli} (h : CliR R r c) : ∀ u ∈ r.cells, oneCell u = true := by
 have h1 := h.u.oneCell.h
 have h2 := h.s.oneCell.h
 simp [CR.cells, h1, h2]
 exact ⟨rfl, rfl⟩
theorem check_spec (r : CR) (c : Cli) (R : Rds) (h : CliR R r c) (hf : c.fits) : Spec Tryz.prog 140 [.agg r.cells.toArray] R [] fun v H' => v = .int .i64 c.check ∧ H' = [] := by
  obtain ⟨rid, rsec, vu, vs⟩ := r
  obtain ⟨e1, e2, hu, hs⟩ := h
  simp only at e1 e2 hu hs
  subst e1; subst e2
  obtain ⟨f1, f2, f3, f4⟩ := hf
  have i1 := hu.oneCell
  have i2 := hs.oneCell
  refine Spec.body Tryz.func140 rfl Tryz.results140 Tryz.ntmps140 rfl ?_
  refine .sr ?_
  refine .boxA rfl (fun b1 => ?_)
  refine .ag rfl<|.zs<|.block<|.sr<|.fa rfl<|.lo rfl ?_
  refine .callR (id_spec c.id f1 _) (fun v hv => ?_)
  subst hv
  refine .q .not<|.ag rfl<|.zn ?_
  refine .cond rfl (fun h1 => ?_) (fun h1 => ?_)
  refine .sr<|.ag rfl<|.zn ?_
  refine .ret (blkQ_r (seqQ_r (retQ_r _ (.one (.tmp rfl)) (.none _) ?_)))
  · refine ⟨?_, rfl⟩
    congr 1
    unfold Cli.check
    simp only [Bool.not_eq_true', Bool.not_eq_false', decide_eq_true_eq, decide_eq_false_iff_not] at *
    have neg2 : isID c.id = true → ¬ isID c.id = false := fun h => by rw [h]; simp
    have neg3 : isSecret c.secret = true → ¬ isSecret c.secret = false := fun h => by rw [h]; simp
    rw [if_pos (by assumption)]
  refine .sr<|.fa rfl<|.lo rfl ?_
  refine .callR (secret_spec c.secret f2 _) (fun v hv => ?_)
  subst hv
  refine .q .not<|.ag rfl<|.zn ?_
  refine .cond rfl (fun h2 => ?_) (fun h2 => ?_)
  refine .sr<|.ag rfl<|.zn ?_
  refine .ret (blkQ_r (seqQ_r (retQ_r _ (.one (.tmp rfl)) (.none _) ?_)))
  · refine ⟨?_, rfl⟩
    congr 1
    unfold Cli.check
    simp only [Bool.not_eq_true', Bool.not_eq_false', decide_eq_true_eq, decide_eq_false_iff_not] at *
    have neg2 : isID c.id = true → ¬ isID c.id = false := fun h => by rw [h]; simp
    have neg3 : isSecret c.secret = true → ¬ isSecret c.secret = false := fun h => by rw [h]; simp
    rw [if_neg (neg2 (by assumption)), if_pos (by assumption)]
  refine .sr<|.fa rfl<|.lo rfl<|.q (.lenR hu) ?_
  refine .q .lss<|.mo rfl ?_
  refine .split (t := 18) rfl (fun g5_4 => ?_) (fun g5_4 => ?_)
  refine .gF g5_4<|.gF g5_4<|.gF g5_4<|.gF g5_4<|.q (.pickTh g5_4) ?_
  refine .mo rfl<|.gf rfl rfl<|.gf rfl rfl<|.gf rfl rfl<|.gf rfl rfl<|.q .pickT<|.mo rfl<|.gf rfl rfl<|.gf rfl rfl<|.gf rfl rfl<|.gf rfl rfl<|.q .pickT<|.ag rfl<|.zn<|.condT<|.sr<|.ag rfl<|.zn ?_
  refine .ret (blkQ_r (seqQ_r (retQ_r _ (.one (.tmp rfl)) (.none _) ?_)))
  · refine ⟨?_, rfl⟩
    congr 1
    unfold Cli.check
    simp only [Bool.not_eq_true', Bool.not_eq_false', decide_eq_true_eq, decide_eq_false_iff_not] at *
    have neg2 : isID c.id = true → ¬ isID c.id = false := fun h => by rw [h]; simp
    have neg3 : isSecret c.secret = true → ¬ isSecret c.secret = false := fun h => by rw [h]; simp
    (rw [if_neg (neg2 (by assumption)), if_neg (neg3 (by assumption))]
     have hn : ∀ {a b : Prop}, a → b → (a ∧ b) := fun x y => ⟨x, y⟩
     first
       | rw [if_pos (.inl (by omega))]
       | rw [if_pos (.inr (.inl (by omega)))]
       | rw [if_pos (.inr (.inr (.inl (by assumption))))]
       | rw [if_pos (.inr (.inr (.inr (by assumption))))]
       | (have hu1 : ¬ (c.uris.length < 1 ∨ 8 < c.uris.length ∨ ¬ c.uris.Nodup ∨ c.uris.all isAddr = false) := by
            rintro (h | h | h | h)
            · omega
            · omega
            · exact h (by assumption)
            · rw [show c.uris.all isAddr = true by assumption] at h; cases h
          rw [if_neg hu1]
          first
            | rw [if_pos (.inl (by omega))]
            | rw [if_pos (.inr (.inl (by assumption)))]
            | rw [if_pos (.inr (.inr (by assumption)))]
            | (rw [if_neg]
               rintro (h | h | h)
               · omega
               · exact h (by assumption)
               · rw [show c.scopes.all isWord = true by assumption] at h; cases h)))
  refine .gT g5_4<|.fa rfl<|.gT g5_4<|.lo rfl<|.gT g5_4<|.q (.lenR hu) ?_
  refine .gT g5_4<|.q .gtr<|.q (.pickFh g5_4) ?_
  refine .mo rfl ?_
  refine .split (t := 24) rfl (fun g5_10 => ?_) (fun g5_10 => ?_)
  refine .gF g5_10<|.gF g5_10<|.gF g5_10<|.gF g5_10<|.q (.pickTh g5_10) ?_
  refine .mo rfl<|.gf rfl rfl<|.gf rfl rfl<|.gf rfl rfl<|.gf rfl rfl<|.q .pickT<|.ag rfl<|.zn<|.condT<|.sr<|.ag rfl<|.zn ?_
  refine .ret (blkQ_r (seqQ_r (retQ_r _ (.one (.tmp rfl)) (.none _) ?_)))
  · refine ⟨?_, rfl⟩
    congr 1
    unfold Cli.check
    simp only [Bool.not_eq_true', Bool.not_eq_false', decide_eq_true_eq, decide_eq_false_iff_not] at *
    have neg2 : isID c.id = true → ¬ isID c.id = false := fun h => by rw [h]; simp
    have neg3 : isSecret c.secret = true → ¬ isSecret c.secret = false := fun h => by rw [h]; simp
    (rw [if_neg (neg2 (by assumption)), if_neg (neg3 (by assumption))]
     have hn : ∀ {a b : Prop}, a → b → (a ∧ b) := fun x y => ⟨x, y⟩
     first
       | rw [if_pos (.inl (by omega))]
       | rw [if_pos (.inr (.inl (by omega)))]
       | rw [if_pos (.inr (.inr (.inl (by assumption))))]
       | rw [if_pos (.inr (.inr (.inr (by assumption))))]
       | (have hu1 : ¬ (c.uris.length < 1 ∨ 8 < c.uris.length ∨ ¬ c.uris.Nodup ∨ c.uris.all isAddr = false) := by
            rintro (h | h | h | h)
            · omega
            · omega
            · exact h (by assumption)
            · rw [show c.uris.all isAddr = true by assumption] at h; cases h
          rw [if_neg hu1]
          first
            | rw [if_pos (.inl (by omega))]
            | rw [if_pos (.inr (.inl (by assumption)))]
            | rw [if_pos (.inr (.inr (by assumption)))]
            | (rw [if_neg]
               rintro (h | h | h)
               · omega
               · exact h (by assumption)
               · rw [show c.scopes.all isWord = true by assumption] at h; cases h)))
  refine .gT g5_10<|.fa rfl<|.gT g5_10<|.lo rfl<|.gT g5_10 ?_
  refine .callR (distinct_spec vu c.uris _ hu.rx) (fun v hv => ?_)
  subst hv
  refine .gT g5_10<|.q .not<|.q (.pickFh g5_10) ?_
  refine .mo rfl ?_
  refine .split (t := 30) rfl (fun g5_16 => ?_) (fun g5_16 => ?_)
  refine .gF g5_16<|.gF g5_16<|.gF g5_16<|.gF g5_16<|.q (.pickTh g5_16) ?_
  refine .ag rfl<|.zn<|.condT<|.sr<|.ag rfl<|.zn ?_
  refine .ret (blkQ_r (seqQ_r (retQ_r _ (.one (.tmp rfl)) (.none _) ?_)))
  · refine ⟨?_, rfl⟩
    congr 1
    unfold Cli.check
    simp only [Bool.not_eq_true', Bool.not_eq_false', decide_eq_true_eq, decide_eq_false_iff_not] at *
    have neg2 : isID c.id = true → ¬ isID c.id = false := fun h => by rw [h]; simp
    have neg3 : isSecret c.secret = true → ¬ isSecret c.secret = false := fun h => by rw [h]; simp
    (rw [if_neg (neg2 (by assumption)), if_neg (neg3 (by assumption))]
     have hn : ∀ {a b : Prop}, a → b → (a ∧ b) := fun x y => ⟨x, y⟩
     first
       | rw [if_pos (.inl (by omega))]
       | rw [if_pos (.inr (.inl (by omega)))]
       | rw [if_pos (.inr (.inr (.inl (by assumption))))]
       | rw [if_pos (.inr (.inr (.inr (by assumption))))]
       | (have hu1 : ¬ (c.uris.length < 1 ∨ 8 < c.uris.length ∨ ¬ c.uris.Nodup ∨ c.uris.all isAddr = false) := by
            rintro (h | h | h | h)
            · omega
            · omega
            · exact h (by assumption)
            · rw [show c.uris.all isAddr = true by assumption] at h; cases h
          rw [if_neg hu1]
          first
            | rw [if_pos (.inl (by omega))]
            | rw [if_pos (.inr (.inl (by assumption)))]
            | rw [if_pos (.inr (.inr (by assumption)))]
            | (rw [if_neg]
               rintro (h | h | h)
               · omega
               · exact h (by assumption)
               · rw [show c.scopes.all isWord = true by assumption] at h; cases h)))
  refine .gT g5_16<|.fa rfl<|.gT g5_16<|.lo rfl<|.gT g5_16 ?_
  refine .callR (call_spec 205 isAddr vu c.uris _ hu.rx fun s hs' R' => addr_spec s (f3 s hs') R') (fun v hv => ?_)
  subst hv
  refine .gT g5_16<|.q .not<|.q (.pickFh g5_16) ?_
  refine .ag rfl<|.zn ?_
  refine .cond rfl (fun h3 => ?_) (fun h3 => ?_)
  refine .sr<|.ag rfl<|.zn ?_
  refine .ret (blkQ_r (seqQ_r (retQ_r _ (.one (.tmp rfl)) (.none _) ?_)))
  · refine ⟨?_, rfl⟩
    congr 1
    unfold Cli.check
    simp only [Bool.not_eq_true', Bool.not_eq_false', decide_eq_true_eq, decide_eq_false_iff_not] at *
    have neg2 : isID c.id = true → ¬ isID c.id = false := fun h => by rw [h]; simp
    have neg3 : isSecret c.secret = true → ¬ isSecret c.secret = false := fun h => by rw [h]; simp
    (rw [if_neg (neg2 (by assumption)), if_neg (neg3 (by assumption))]
     have hn : ∀ {a b : Prop}, a → b → (a ∧ b) := fun x y => ⟨x, y⟩
     first
       | rw [if_pos (.inl (by omega))]
       | rw [if_pos (.inr (.inl (by omega)))]
       | rw [if_pos (.inr (.inr (.inl (by assumption))))]
       | rw [if_pos (.inr (.inr (.inr (by assumption))))]
       | (have hu1 : ¬ (c.uris.length < 1 ∨ 8 < c.uris.length ∨ ¬ c.uris.Nodup ∨ c.uris.all isAddr = false) := by
            rintro (h | h | h | h)
            · omega
            · omega
            · exact h (by assumption)
            · rw [show c.uris.all isAddr = true by assumption] at h; cases h
          rw [if_neg hu1]
          first
            | rw [if_pos (.inl (by omega))]
            | rw [if_pos (.inr (.inl (by assumption)))]
            | rw [if_pos (.inr (.inr (by assumption)))]
            | (rw [if_neg]
               rintro (h | h | h)
               · omega
               · exact h (by assumption)
               · rw [show c.scopes.all isWord = true by assumption] at h; cases h)))
  refine .sr<|.fa rfl<|.lo rfl<|.q (.lenR hs) ?_
  refine .q .gtr<|.mo rfl ?_
  refine .split (t := 41) rfl (fun g7_4 => ?_) (fun g7_4 => ?_)
  refine .gF g7_4<|.gF g7_4<|.gF g7_4<|.gF g7_4<|.q (.pickTh g7_4) ?_
  refine .mo rfl<|.gf rfl rfl<|.gf rfl rfl<|.gf rfl rfl<|.gf rfl rfl<|.q .pickT<|.ag rfl<|.zn<|.condT<|.sr<|.ag rfl<|.zn ?_
  refine .ret (blkQ_r (seqQ_r (retQ_r _ (.one (.tmp rfl)) (.none _) ?_)))
  · refine ⟨?_, rfl⟩
    congr 1
    unfold Cli.check
    simp only [Bool.not_eq_true', Bool.not_eq_false', decide_eq_true_eq, decide_eq_false_iff_not] at *
    have neg2 : isID c.id = true → ¬ isID c.id = false := fun h => by rw [h]; simp
    have neg3 : isSecret c.secret = true → ¬ isSecret c.secret = false := fun h => by rw [h]; simp
    (rw [if_neg (neg2 (by assumption)), if_neg (neg3 (by assumption))]
     have hn : ∀ {a b : Prop}, a → b → (a ∧ b) := fun x y => ⟨x, y⟩
     first
       | rw [if_pos (.inl (by omega))]
       | rw [if_pos (.inr (.inl (by omega)))]
       | rw [if_pos (.inr (.inr (.inl (by assumption))))]
       | rw [if_pos (.inr (.inr (.inr (by assumption))))]
       | (have hu1 : ¬ (c.uris.length < 1 ∨ 8 < c.uris.length ∨ ¬ c.uris.Nodup ∨ c.uris.all isAddr = false) := by
            rintro (h | h | h | h)
            · omega
            · omega
            · exact h (by assumption)
            · rw [show c.uris.all isAddr = true by assumption] at h; cases h
          rw [if_neg hu1]
          first
            | rw [if_pos (.inl (by omega))]
            | rw [if_pos (.inr (.inl (by assumption)))]
            | rw [if_pos (.inr (.inr (by assumption)))]
            | (rw [if_neg]
               rintro (h | h | h)
               · omega
               · exact h (by assumption)
               · rw [show c.scopes.all isWord = true by assumption] at h; cases h)))
  refine .gT g7_4<|.fa rfl<|.gT g7_4<|.lo rfl<|.gT g7_4 ?_
  refine .callR (distinct_spec vs c.scopes _ hs.rx) (fun v hv => ?_)
  subst hv
  refine .gT g7_4<|.q .not<|.q (.pickFh g7_4) ?_
  refine .mo rfl ?_
  refine .split (t := 47) rfl (fun g7_10 => ?_) (fun g7_10 => ?_)
  refine .gF g7_10<|.gF g7_10<|.gF g7_10<|.gF g7_10<|.q (.pickTh g7_10) ?_
  refine .ag rfl<|.zn<|.condT<|.sr<|.ag rfl<|.zn ?_
  refine .ret (blkQ_r (seqQ_r (retQ_r _ (.one (.tmp rfl)) (.none _) ?_)))
  · refine ⟨?_, rfl⟩
    congr 1
    unfold Cli.check
    simp only [Bool.not_eq_true', Bool.not_eq_false', decide_eq_true_eq, decide_eq_false_iff_not] at *
    have neg2 : isID c.id = true → ¬ isID c.id = false := fun h => by rw [h]; simp
    have neg3 : isSecret c.secret = true → ¬ isSecret c.secret = false := fun h => by rw [h]; simp
    (rw [if_neg (neg2 (by assumption)), if_neg (neg3 (by assumption))]
     have hn : ∀ {a b : Prop}, a → b → (a ∧ b) := fun x y => ⟨x, y⟩
     first
       | rw [if_pos (.inl (by omega))]
       | rw [if_pos (.inr (.inl (by omega)))]
       | rw [if_pos (.inr (.inr (.inl (by assumption))))]
       | rw [if_pos (.inr (.inr (.inr (by assumption))))]
       | (have hu1 : ¬ (c.uris.length < 1 ∨ 8 < c.uris.length ∨ ¬ c.uris.Nodup ∨ c.uris.all isAddr = false) := by
            rintro (h | h | h | h)
            · omega
            · omega
            · exact h (by assumption)
            · rw [show c.uris.all isAddr = true by assumption] at h; cases h
          rw [if_neg hu1]
          first
            | rw [if_pos (.inl (by omega))]
            | rw [if_pos (.inr (.inl (by assumption)))]
            | rw [if_pos (.inr (.inr (by assumption)))]
            | (rw [if_neg]
               rintro (h | h | h)
               · omega
               · exact h (by assumption)
               · rw [show c.scopes.all isWord = true by assumption] at h; cases h)))
  refine .gT g7_10<|.fa rfl<|.gT g7_10<|.lo rfl<|.gT g7_10 ?_
  refine .callR (call_spec 206 isWord vs c.scopes _ hs.rx fun s hs' R' => word_spec s (f4 s hs') R') (fun v hv => ?_)
  subst hv
  refine .gT g7_10<|.q .not<|.q (.pickFh g7_10) ?_
  refine .ag rfl<|.zn ?_
  refine .cond rfl (fun h4 => ?_) (fun h4 => ?_)
  refine .sr<|.ag rfl<|.zn ?_
  refine .ret (blkQ_r (seqQ_r (retQ_r _ (.one (.tmp rfl)) (.none _) ?_)))
  · refine ⟨?_, rfl⟩
    congr 1
    unfold Cli.check
    simp only [Bool.not_eq_true', Bool.not_eq_false', decide_eq_true_eq, decide_eq_false_iff_not] at *
    have neg2 : isID c.id = true → ¬ isID c.id = false := fun h => by rw [h]; simp
    have neg3 : isSecret c.secret = true → ¬ isSecret c.secret = false := fun h => by rw [h]; simp
    (rw [if_neg (neg2 (by assumption)), if_neg (neg3 (by assumption))]
     have hn : ∀ {a b : Prop}, a → b → (a ∧ b) := fun x y => ⟨x, y⟩
     first
       | rw [if_pos (.inl (by omega))]
       | rw [if_pos (.inr (.inl (by omega)))]
       | rw [if_pos (.inr (.inr (.inl (by assumption))))]
       | rw [if_pos (.inr (.inr (.inr (by assumption))))]
       | (have hu1 : ¬ (c.uris.length < 1 ∨ 8 < c.uris.length ∨ ¬ c.uris.Nodup ∨ c.uris.all isAddr = false) := by
            rintro (h | h | h | h)
            · omega
            · omega
            · exact h (by assumption)
            · rw [show c.uris.all isAddr = true by assumption] at h; cases h
          rw [if_neg hu1]
          first
            | rw [if_pos (.inl (by omega))]
            | rw [if_pos (.inr (.inl (by assumption)))]
            | rw [if_pos (.inr (.inr (by assumption)))]
            | (rw [if_neg]
               rintro (h | h | h)
               · omega
               · exact h (by assumption)
               · rw [show c.scopes.all isWord = true by assumption] at h; cases h)))
  refine .skip<|blkQ_n<|seqQ_n<|.sr<|.ag rfl<|.zn ?_
  refine .ret (retQ_r _ (.one (.tmp rfl)) (.none _) ?_)
  · refine ⟨?_, rfl⟩
    congr 1
    unfold Cli.check
    simp only [Bool.not_eq_true', Bool.not_eq_false', decide_eq_true_eq, decide_eq_false_iff_not] at *
    have neg2 : isID c.id = true → ¬ isID c.id = false := fun h => by rw [h]; simp
    have neg3 : isSecret c.secret = true → ¬ isSecret c.secret = false := fun h => by rw [h]; simp
    (rw [if_neg (neg2 (by assumption)), if_neg (neg3 (by assumption))]
     have hn : ∀ {a b : Prop}, a → b → (a ∧ b) := fun x y => ⟨x, y⟩
     first
       | rw [if_pos (.inl (by omega))]
       | rw [if_pos (.inr (.inl (by omega)))]
       | rw [if_pos (.inr (.inr (.inl (by assumption))))]
       | rw [if_pos (.inr (.inr (.inr (by assumption))))]
       | (have hu1 : ¬ (c.uris.length < 1 ∨ 8 < c.uris.length ∨ ¬ c.uris.Nodup ∨ c.uris.all isAddr = false) := by
            rintro (h | h | h | h)
            · omega
            · omega
            · exact h (by assumption)
            · rw [show c.uris.all isAddr = true by assumption] at h; cases h
          rw [if_neg hu1]
          first
            | rw [if_pos (.inl (by omega))]
            | rw [if_pos (.inr (.inl (by assumption)))]
            | rw [if_pos (.inr (.inr (by assumption)))]
            | (rw [if_neg]
               rintro (h | h | h)
               · omega
               · exact h (by assumption)
               · rw [show c.scopes.all isWord = true by assumption] at h; cases h)))
def Cli.few (c : Cli) : Prop := c.uris.length ≤ 1000000 ∧ c.scopes.length ≤ 1000000
def Cli.zero : Cli := ⟨⟨#[]⟩, ⟨#[]⟩, [], []⟩
def CR.zero : CR := ⟨⟨#[]⟩, ⟨#[]⟩, .slice none 0 0, .slice none 0 0⟩
theorem CliR.zero (R : Rds) : CliR R CR.zero Cli.zero := ⟨rfl, rfl, RS.nil', RS.nil'⟩
theorem copied_spec (r : CR) (c : Cli) (R : Rds) (h : CliR R r c) (hf : c.few) : Spec Tryz.prog 55 [.agg r.cells.toArray] R [] fun v H' => ∃ T, H' = [T] ∧ ∃ r', v = .agg r'.cells.toArray ∧ CliR (sg T) r' c := by
 have io : Ones r.cells := ⟨h.ones⟩
 obtain ⟨rid, rsec, vu, vs⟩ := r
 obtain ⟨e1, e2, hu, hs⟩ := h
 simp only at e1 e2 hu hs
 subst e1; subst e2
 have i1 := hu.oneCell
 have i2 := hs.oneCell
 refine Spec.body Tryz.func55 rfl Tryz.results55 Tryz.ntmps55 rfl ?_
 refine .sr ?_
 refine .boxA rfl (fun b1 => ?_)
 refine .allocA (fun b2 => ?_)
 refine .zs<|.region_all [7, 9] mixed ?_
 refine .takeO 0 rfl (.fieldAddr rfl) (by kernel_rfl)<|.takeO 1 rfl (.load1 rfl) (by kernel_rfl)<|.takeO 3 rfl (.fieldAddr rfl) (by kernel_rfl)<|.takeO 4 rfl (.load1 rfl) (by kernel_rfl) ?_
 refine RA.step 2 rfl (by kernel_rfl) rfl ?_
 refine .callN (sclone_spec vu c.uris _ hu.rx hf.1) (fun v1 T1 hO1 => ?_)
 have i3 := hO1.oneCell
 refine .nil (Next.sub ?_)
 refine .takeO 6 rfl (.fieldAddr rfl) (by kernel_rfl) ?_
 refine RA.step 5 rfl (by kernel_rfl) rfl ?_
 refine .callN (sclone_spec vs c.scopes _ hs.rx hf.2) (fun v2 T2 hO2 => ?_)
 have i4 := hO2.oneCell
 refine .nil (Next.sub ?_)
 refine RA.step 7 rfl (by kernel_rfl) rfl ?_
 refine .store1 rfl rfl ?_
 refine .nil (Next.mod rfl ?_)
 refine .take 8 rfl (.fieldAddrA rfl) (by kernel_rfl) ?_
 refine RA.step 9 rfl (by kernel_rfl) rfl ?_
 refine .store1 rfl rfl ?_
 refine .nil (Next.mod rfl ?_)
 refine RA.nil (by kernel_rfl) ?_
 refine seqQ_n<|.sr<|.q (.loadA rfl)<|.storeA rfl rfl<|.zn ?_
 refine .ret (retQ_r _ (.one (.cellA rfl rfl)) (.one [0, 0] _) ?_)
 ·exact ⟨T2 ++ T1, by simp [take, dropAt], ⟨c.id, c.secret, v1, v2⟩, rfl, rfl, rfl, hO1.sg.right, hO2.sg.left⟩
def RI (g : Nat) (A : List Cli) (T : Seg) : Prop := ∃ vm M Tm Ti, T = (g, .cells [vm].toArray 116 (0, 0)) :: (Tm ++ Ti) ∧ MS (fun s : ByteArray => .string s) (fun p : CR × Cli => .agg p.1.cells.toArray) vm M Tm ∧
 (∀ p ∈ M, p.1 = p.2.2.id ∧ CliR (sg Ti) p.2.1 p.2.2 ∧ p.2.2.few) ∧ (M.map (·.2.2)).Perm A
def cget (id : ByteArray) (A : List Cli) : Option Cli := A.find? fun c => decide (c.id = id)
theorem ri_get {M : List (ByteArray × (CR × Cli))} {Ti : Seg} {A : List Cli} (hn : (M.map (·.1)).Nodup) (hM : ∀ p ∈ M, p.1 = p.2.2.id ∧ CliR (sg Ti) p.2.1 p.2.2 ∧ p.2.2.few) (hA : (M.map (·.2.2)).Perm A) (id : ByteArray) :
  (mget id M = none ∧ cget id A = none ∧ ∀ c ∈ A, c.id ≠ id) ∨ ∃ r c, mget id M = some (r, c) ∧ cget id A = some c ∧ c.id = id ∧ CliR (sg Ti) r c ∧ c.few ∧ c ∈ A := by
 have nA : (A.map (·.id)).Nodup := by
  refine ((hA.map (·.id)).nodup_iff).1 ?_
  rw [List.map_map]
  have : M.map ((fun c : Cli => c.id) ∘ fun p : ByteArray × (CR × Cli) => p.2.2) = M.map (·.1) := List.map_congr_left fun p hp => (hM p hp).1.symm
  rw [this]; exact hn
 cases hm : mget id M with
 | none =>
  have h1 := mget_none.1 hm
  have h2 : ∀ c ∈ A, c.id ≠ id := fun c hc he => by
   obtain ⟨p, hp, rfl⟩ := List.mem_map.1 (hA.mem_iff.2 hc)
   exact h1 (List.mem_map.2 ⟨p, hp, (hM p hp).1.trans he⟩)
  exact .inl ⟨rfl, List.find?_eq_none.2 fun c hc => by simpa using h2 c hc, h2⟩
 | some q =>
  obtain ⟨r, c⟩ := q
  have h1 := mget_some hm
  obtain ⟨h2, h3, h4⟩ := hM _ h1
  have hc : c ∈ A := hA.mem_iff.1 (List.mem_map.2 ⟨_, h1, rfl⟩)
  refine .inr ⟨r, c, rfl, ?_, h2.symm, h3, h4, hc⟩
  cases hf : cget id A with
  | none => exact absurd h2.symm (by have := List.find?_eq_none.1 hf c hc; simpa using this)
  | some c' =>
   have h5 := List.mem_of_find?_eq_some hf
   have h6 : c'.id = id := by simpa using List.find?_some hf
   obtain ⟨i, hi, rfl⟩ := List.mem_iff_getElem.1 h5
   obtain ⟨j, hj, hje⟩ := List.mem_iff_getElem.1 hc
   have : i = j := (List.getElem_inj (xs := A.map fun c : Cli => c.id) (i := i) (j := j) (h₀ := by simpa using hi) (h₁ := by simpa using hj) nA).1 (by simp [h6, hje]; exact h2)
   subst this
   rw [hje]
theorem cnew_spec (R : Rds) : Spec Tryz.prog 30 [] R [] fun v H' => ∃ T, H' = [T] ∧ ∃ g, v = .pointer (some ⟨g, 0, none⟩) ∧ RI g [] T := by
 refine Spec.body Tryz.func30 rfl Tryz.results30 Tryz.ntmps30 rfl ?_
 refine .sr<|.ag rfl<|.z ?_
 refine .makeMap (fun b1 => ?_)
 refine .q .bld ?_
 refine .boxA rfl (fun b3 => ?_)
 refine .ag rfl<|.zn ?_
 refine .ret (retQ_r _ (.one (.tmp rfl)) (.one [0, 0] _) ?_)
 ·exact ⟨_, rfl, _, rfl, .map (some b1), [], _, [], by simp [take, dropAt]; rfl, MS.nil, by simp, .refl _⟩
theorem cok_spec (g b : Nat) (R : Rds) [pc : PC R (.pointer (some ⟨g, 0, none⟩)) [.map (some b)]] : Spec Tryz.prog 54 [.pointer (some ⟨g, 0, none⟩)] R [] fun v H' => v = .bool true ∧ H' = [] := by
 refine Spec.body Tryz.func54 rfl Tryz.results54 Tryz.ntmps54 rfl ?_
 refine .sr<|.ag rfl<|.z<|.mo rfl<|.q (.neNilP rfl rfl) ?_
 refine .mo rfl<|.gt rfl ?_
 refine .mo rfl<|.gt rfl ?_
 refine .nc rfl<|.gt rfl ?_
 refine .fa rfl<|.gt rfl ?_
 refine .lo rfl<|.gt rfl ?_
 refine .q (.neNilM rfl rfl) ?_
 refine .q .pickT<|.ag rfl<|.zn ?_
 refine .ret (retQ_r _ (.one (.tmp rfl)) (.none _) ?_)
 ·exact ⟨rfl, rfl⟩
theorem cget_spec (g : Nat) (A : List Cli) (T : Seg) (h : RI g A T) (id : ByteArray) (R : Rds) (hr : ∀ p ∈ T, R p.1 p.2) :
  Spec Tryz.prog 16 [.pointer (some ⟨g, 0, none⟩), .string id] R [] fun v H' => ∃ T', H' = [T'] ∧ ∃ r', v = .tuple [.agg r'.cells.toArray, .bool (cget id A).isSome].toArray ∧ CliR (sg T') r' ((cget id A).getD Cli.zero) := by
 obtain ⟨vm, M, Tm, Ti, rfl, hM, hI, hA⟩ := h
 obtain ⟨bm, rfl⟩ : ∃ b, vm = .map (some b) := by obtain ⟨b, es, clock, h1, _⟩ := hM; exact ⟨b, h1⟩
 have pq : PC R (.pointer (some ⟨g, 0, none⟩)) [.map (some bm)] := PC.of (E := 116) (fr := (0, 0)) (hr (g, .cells [.map (some bm)].toArray 116 (0, 0)) (by simp))
 have rm : ∀ H', RM (Rx R H') (fun s : ByteArray => .string s) (fun p : CR × Cli => .agg p.1.cells.toArray) (.map (some bm)) M := fun H' => hM.rm fun p hp => .inl (hr p (by simp [hp]))
 have hT : ∀ b o, sg Ti b o → R b o := fun b o hb => hr (b, o) (by have : (b, o) ∈ Ti := hb; simp [this])
 obtain ⟨r0, hr0, hc0, hs0, hf0⟩ : ∃ r0 : CR, ((mget id M).map fun p : CR × Cli => Value.agg p.1.cells.toArray).getD (.agg CR.zero.cells.toArray) = .agg r0.cells.toArray ∧ CliR R r0 ((cget id A).getD Cli.zero) ∧ (mget id M).isSome = (cget id A).isSome ∧ ((cget id A).getD Cli.zero).few := by
  rcases ri_get hM.nd hI hA id with ⟨h1, h2, _⟩ | ⟨r, c, h1, h2, _, h3, h4, _⟩
  ·rw [h1, h2]; exact ⟨CR.zero, rfl, CliR.zero R, rfl, by simp [Cli.few, Cli.zero]⟩
  ·rw [h1, h2]; exact ⟨r, rfl, h3.mono hT, rfl, h4⟩
 have i0 : Ones r0.cells := ⟨hc0.ones⟩
 refine Spec.body Tryz.func16 rfl Tryz.results16 Tryz.ntmps16 rfl ?_
 refine .sr ?_
 refine .allocA (fun b4 => ?_)
 refine .ag rfl<|.zs<|.sr<|.mo rfl ?_
 refine .callR (cok_spec g bm _) (fun v hv => ?_)
 subst hv
 refine .q .not<|.zn<|.condF<|.kn<|.sr<|.mo rfl<|.nc rfl<|.fa rfl<|.lo rfl<|.mo rfl ?_
 refine .q (Quiet.cast (v' := .tuple [.agg r0.cells.toArray, .bool (cget id A).isSome].toArray) (.lookup2 (rm _) rfl (show _ = some (Value.string id) from rfl)) (by rw [← hs0, ← hr0]; rfl)) ?_
 refine .mo rfl<|.q .extract<|.q .extract ?_
 refine .allocA (fun b6 => ?_)
 refine .storeA rfl rfl<|.ag rfl<|.z<|.q (.loadA rfl) ?_
 refine .callN (copied_spec r0 _ _ (hc0.mono fun b o hb => .inl hb) hf0) (fun v T1 hv => ?_)
 obtain ⟨r1, rfl, hc1⟩ := hv
 have i1 : Ones r1.cells := ⟨hc1.ones⟩
 refine .mo rfl<|.storeA rfl rfl<|.ag rfl<|.zn ?_
 refine .ret (retQ_r _ (.two (.cellA rfl rfl) (.tmp rfl)) (.one [0] _) ?_)
 ·exact ⟨T1, by simp [take, dropAt], r1, rfl, hc1⟩
theorem cauth_spec (g : Nat) (A : List Cli) (T : Seg) (h : RI g A T) (id sec : ByteArray) (R : Rds) (hr : ∀ p ∈ T, R p.1 p.2) :
  Spec Tryz.prog 22 [.pointer (some ⟨g, 0, none⟩), .string id, .string sec] R [] fun v H' => v = .int .i64 (if (cget id A).map (·.secret) = some sec then 0 else 17) ∧ H' = [] := by
 refine Spec.body Tryz.func22 rfl Tryz.results22 Tryz.ntmps22 rfl ?_
 refine .sr<|.ag rfl<|.z<|.mo rfl<|.mo rfl ?_
 refine .callN (cget_spec g A T h id _ fun p hp => .inl (hr p hp)) (fun v T1 hv => ?_)
 obtain ⟨r1, rfl, hc1⟩ := hv
 have i1 : Ones r1.cells := ⟨hc1.ones⟩
 refine .mo rfl<|.q .extract<|.q .extract ?_
 refine .allocA (fun b7 => ?_)
 refine .storeA rfl rfl<|.ag rfl<|.zs<|.sr<|.mo rfl<|.q .not<|.mo rfl ?_
 refine .split (t := 17) rfl (fun g2_2 => ?_) (fun g2_2 => ?_)
 refine .gF g2_2<|.gF g2_2<|.gF g2_2<|.gF g2_2<|.q (.pickTh g2_2) ?_
 refine .zn<|.condT<|.sr<|.ag rfl<|.zn ?_
 refine .ret (seqQ_r (retQ_r _ (.one (.tmp rfl)) (.none _) ?_))
 ·refine ⟨?_, rfl⟩
  congr 1
  have he := hc1.secret
  cases hg : cget id A with
  | none => simp_all
  | some c => rw [hg] at he; simp at he; simp_all
 refine .gT g2_2<|.fa rfl<|.gT g2_2<|.lo rfl<|.gT g2_2<|.mo rfl<|.gT g2_2<|.q .neS<|.q (.pickFh g2_2) ?_
 refine .zn ?_
 refine .cond rfl (fun h1 => ?_) (fun h1 => ?_)
 refine .sr<|.ag rfl<|.zn ?_
 refine .ret (seqQ_r (retQ_r _ (.one (.tmp rfl)) (.none _) ?_))
 ·refine ⟨?_, rfl⟩
  congr 1
  have he := hc1.secret
  cases hg : cget id A with
  | none => simp_all
  | some c => rw [hg] at he; simp at he; simp_all
 refine .kn<|.sr<|.ag rfl<|.zn ?_
 refine .ret (retQ_r _ (.one (.tmp rfl)) (.none _) ?_)
 ·refine ⟨?_, rfl⟩
  congr 1
  have he := hc1.secret
  cases hg : cget id A with
  | none => simp_all
  | some c => rw [hg] at he; simp at he; simp_all
def cadd (A : List Cli) (c : Cli) : Int × List Cli := if c.check ≠ 0 then (c.check, A) else if (cget c.id A).isSome then (10, A) else if 64 ≤ A.length then (8, A) else (0, A ++ [c])
def cdel (id : ByteArray) (A : List Cli) : List Cli := A.filter fun c => decide (c.id ≠ id)
theorem cadd_spec (g : Nat) (A : List Cli) (T : Seg) (h : RI g A T) (r : CR) (c : Cli) (R : Rds) (hc : CliR R r c) (hf : c.fits) (hw : c.few) :
  Spec Tryz.prog 82 [.pointer (some ⟨g, 0, none⟩), .agg r.cells.toArray] R [T] fun v H' => ∃ T', H' = [T'] ∧ v = .int .i64 (cadd A c).1 ∧ RI g (cadd A c).2 T' := by
 have hRI := h
 obtain ⟨vm, M, Tm, Ti, rfl, hM, hI, hA⟩ := h
 obtain ⟨bm, rfl⟩ : ∃ b, vm = .map (some b) := by obtain ⟨b, es, clock, h1, _⟩ := hM; exact ⟨b, h1⟩
 have hg := ri_get hM.nd hI hA c.id
 have hlen : M.length = A.length := by simpa using hA.length_eq
 obtain ⟨r0, hr0, i0, hs0⟩ : ∃ r0 : CR, ((mget c.id M).map fun p : CR × Cli => Value.agg p.1.cells.toArray).getD (.agg CR.zero.cells.toArray) = .agg r0.cells.toArray ∧ Ones r0.cells ∧ (mget c.id M).isSome = (cget c.id A).isSome := by
  rcases hg with ⟨h1, h2, _⟩ | ⟨r, c, h1, h2, _, h3, h4, _⟩
  ·rw [h1, h2]; exact ⟨CR.zero, rfl, ⟨(CliR.zero (fun _ _ => False)).ones⟩, rfl⟩
  ·rw [h1, h2]; exact ⟨r, rfl, ⟨h3.ones⟩, rfl⟩
 have io : Ones r.cells := ⟨hc.ones⟩
 have hid := hc.id
 refine Spec.segs (H' := [[(g, .cells [.map (some bm)].toArray 116 (0, 0))], Tm, Ti]) (by simp) ?_
 refine Spec.body Tryz.func82 rfl Tryz.results82 Tryz.ntmps82 rfl ?_
 refine .sr ?_
 refine .boxA rfl (fun b3 => ?_)
 refine .ag rfl<|.zs<|.sr<|.mo rfl ?_
 refine .callR (cok_spec g bm _) (fun v hv => ?_)
 subst hv
 refine .q .not<|.zn<|.condF<|.kn<|.seq<|.sr<|.q (.loadA rfl) ?_
 refine .callR (check_spec r c _ (hc.mono fun b o hb => .inl hb) hf) (fun v hv => ?_)
 subst hv
 refine .ag rfl<|.z<|.mo rfl<|.q .neI<|.zn ?_
 refine .cond rfl (fun h2 => ?_) (fun h2 => ?_)
 refine .sr<|.mo rfl<|.ag rfl<|.zn ?_
 refine .ret (seqQ_r (retQ_r _ (.one (.tmp rfl)) (.one [1, 1, 1] _) ?_))
 ·refine ⟨(g, .cells [.map (some bm)].toArray 116 (0, 0)) :: (Tm ++ Ti), by simp [take, dropAt], ?_⟩
  have e : cadd A c = (c.check, A) := by unfold cadd; rw [if_pos (by simpa using h2)]
  rw [e]; exact ⟨rfl, hRI⟩
 refine .kn<|.seq<|.seq<|.region_all [11] mixed ?_
 refine .takeO 0 rfl .move (by kernel_rfl)<|.takeO 1 rfl (.nilCheck rfl) (by kernel_rfl)<|.takeO 2 rfl (.fieldAddr rfl) (by kernel_rfl)<|.takeO 3 rfl (.load1 rfl) (by kernel_rfl)<|.takeO 4 rfl (.fieldAddr rfl) (by kernel_rfl)<|.takeO 5 rfl (.load1 rfl) (by kernel_rfl) ?_
 refine .takeO 6 rfl (Quiet.cast (v' := .tuple [.agg r0.cells.toArray, .bool (cget c.id A).isSome].toArray) (.lookup2 hM.rx rfl (show _ = some (Value.string r.id) from rfl)) (by rw [hid, ← hs0, ← hr0]; rfl)) (by kernel_rfl) ?_
 refine .takeO 7 rfl .move (by kernel_rfl)<|.takeO 8 rfl .extract (by kernel_rfl)<|.take 9 rfl .extract (by kernel_rfl) ?_
 refine RA.step 10 rfl (by kernel_rfl) rfl ?_
 refine .allocA (fun b6 => ?_)
 refine .nil (Next.sub ?_)
 refine RA.step 11 rfl (by kernel_rfl) rfl ?_
 refine .storeA rfl rfl ?_
 refine .nil (Next.mod rfl ?_)
 refine .take 12 rfl .assign (by kernel_rfl) ?_
 refine RA.nil (by kernel_rfl) ?_
 refine seqQ_n<|.sr<|.mo rfl<|.zn ?_
 refine .cond rfl (fun h3 => ?_) (fun h3 => ?_)
 refine .sr<|.ag rfl<|.zn ?_
 refine .ret (seqQ_r (retQ_r _ (.one (.tmp rfl)) (.one [2, 2, 2] _) ?_))
 ·refine ⟨(g, .cells [.map (some bm)].toArray 116 (0, 0)) :: (Tm ++ Ti), by simp [take, dropAt], ?_⟩
  have e : cadd A c = (10, A) := by unfold cadd; rw [if_neg (by simpa using h2), if_pos h3]
  rw [e]; exact ⟨rfl, hRI⟩
 refine .kn<|.seq<|.sr<|.mo rfl<|.nc rfl<|.fa rfl<|.lo rfl<|.q (.lenM hM.rx rfl) ?_
 refine .q .geq<|.zn ?_
 refine .cond rfl (fun h4 => ?_) (fun h4 => ?_)
 refine .sr<|.ag rfl<|.zn ?_
 refine .ret (seqQ_r (retQ_r _ (.one (.tmp rfl)) (.one [2, 2, 2] _) ?_))
 ·refine ⟨(g, .cells [.map (some bm)].toArray 116 (0, 0)) :: (Tm ++ Ti), by simp [take, dropAt], ?_⟩
  have e : cadd A c = (8, A) := by unfold cadd; rw [if_neg (by simpa using h2), if_neg (by rw [h3]; simp), if_pos (by have := of_decide_eq_true h4; omega)]
  rw [e]; exact ⟨rfl, hRI⟩
 refine .kn<|.seq<|.region_all [8] mixed ?_
 refine .takeO 0 rfl .move (by kernel_rfl)<|.takeO 1 rfl (.nilCheck rfl) (by kernel_rfl)<|.takeO 2 rfl (.fieldAddr rfl) (by kernel_rfl)<|.takeO 3 rfl (.load1 rfl) (by kernel_rfl)<|.takeO 4 rfl (.fieldAddr rfl) (by kernel_rfl)<|.takeO 5 rfl (.load1 rfl) (by kernel_rfl)<|.takeO 6 rfl (.loadA rfl) (by kernel_rfl) ?_
 refine RA.step 7 rfl (by kernel_rfl) rfl ?_
 refine .callN (copied_spec r c _ (hc.mono fun b o hb => .inl hb) hw) (fun v T1 hv => ?_)
 obtain ⟨r1, rfl, hc1⟩ := hv
 refine .nil (Next.sub ?_)
 refine RA.step 8 rfl (by kernel_rfl) rfl ?_
 refine .update (u := (r1, c)) hM rfl (show _ = some (Value.string r.id) from rfl) rfl (fun Tm2 hM2 _ => ?_)
 refine .nil (Next.mod rfl ?_)
 refine RA.nil (by kernel_rfl) ?_
 refine seqQ_n<|.sr<|.ag rfl<|.zn ?_
 refine .ret (retQ_r _ (.one (.tmp rfl)) (.one [3, 3, 3, 0] _) ?_)
 ·refine ⟨(g, .cells [.map (some bm)].toArray 116 (0, 0)) :: (Tm2 ++ (Ti ++ T1)), by simp [take, dropAt], ?_⟩
  have e : cadd A c = (0, A ++ [c]) := by unfold cadd; rw [if_neg (by simpa using h2), if_neg (by rw [h3]; simp), if_neg (by have := of_decide_eq_false h4; omega)]
  rw [e]
  have hno : mget c.id M = none := by
   rw [← Option.not_isSome_iff_eq_none, hs0, h3]; simp
  refine ⟨rfl, _, _, Tm2, Ti ++ T1, rfl, hM2, ?_, ?_⟩
  ·rw [hid, mset_new (mget_none.1 hno)]
   intro p hp
   rcases List.mem_append.1 hp with hp | hp
   ·obtain ⟨q1, q2, q3⟩ := hI p hp
    exact ⟨q1, q2.mono fun b o hb => List.mem_append_left _ hb, q3⟩
   ·simp only [List.mem_singleton] at hp
    subst hp
    exact ⟨rfl, hc1.mono fun b o hb => List.mem_append_right _ hb, hw⟩
  ·rw [hid, mset_new (mget_none.1 hno), List.map_append]
   exact hA.append_right _
theorem cdel_perm {M : List (ByteArray × (CR × Cli))} {A : List Cli} {id : ByteArray} (hn : (M.map (·.1)).Nodup) (hM : ∀ p ∈ M, p.1 = p.2.2.id) (hA : (M.map (·.2.2)).Perm A) : ((mdel id M).map (·.2.2)).Perm (cdel id A) := by
 rw [mdel_kdel hn]
 refine List.Perm.trans ?_ (hA.filter _)
 unfold kdel
 rw [List.filter_map]
 refine List.Perm.of_eq (congrArg _ (List.filter_congr fun p hp => ?_))
 simp [hM p hp]
theorem cremove_spec (g : Nat) (A : List Cli) (T : Seg) (h : RI g A T) (id : ByteArray) (R : Rds) :
  Spec Tryz.prog 83 [.pointer (some ⟨g, 0, none⟩), .string id] R [T] fun v H' => ∃ T', H' = [T'] ∧ v = .int .i64 (if (cget id A).isSome then 0 else 11) ∧ RI g (cdel id A) T' := by
 have hRI := h
 obtain ⟨vm, M, Tm, Ti, rfl, hM, hI, hA⟩ := h
 obtain ⟨bm, rfl⟩ : ∃ b, vm = .map (some b) := by obtain ⟨b, es, clock, h1, _⟩ := hM; exact ⟨b, h1⟩
 have hg := ri_get hM.nd hI hA id
 obtain ⟨r0, hr0, i0, hs0⟩ : ∃ r0 : CR, ((mget id M).map fun p : CR × Cli => Value.agg p.1.cells.toArray).getD (.agg CR.zero.cells.toArray) = .agg r0.cells.toArray ∧ Ones r0.cells ∧ (mget id M).isSome = (cget id A).isSome := by
  rcases hg with ⟨h1, h2, _⟩ | ⟨r, c, h1, h2, _, h3, h4, _⟩
  ·rw [h1, h2]; exact ⟨CR.zero, rfl, ⟨(CliR.zero (fun _ _ => False)).ones⟩, rfl⟩
  ·rw [h1, h2]; exact ⟨r, rfl, ⟨h3.ones⟩, rfl⟩
 refine Spec.segs (H' := [[(g, .cells [.map (some bm)].toArray 116 (0, 0))], Tm, Ti]) (by simp) ?_
 refine Spec.body Tryz.func83 rfl Tryz.results83 Tryz.ntmps83 rfl ?_
 refine .sr<|.ag rfl<|.zs<|.sr<|.mo rfl ?_
 refine .callR (cok_spec g bm _) (fun v hv => ?_)
 subst hv
 refine .q .not<|.zn<|.condF<|.kn<|.seq<|.sr<|.mo rfl<|.nc rfl<|.fa rfl<|.lo rfl<|.mo rfl ?_
 refine .q (Quiet.cast (v' := .tuple [.agg r0.cells.toArray, .bool (cget id A).isSome].toArray) (.lookup2 hM.rx rfl (show _ = some (Value.string id) from rfl)) (by rw [← hs0, ← hr0]; rfl)) ?_
 refine .mo rfl<|.q .extract<|.q .extract ?_
 refine .allocA (fun b5 => ?_)
 refine .storeA rfl rfl<|.ag rfl<|.z<|.mo rfl<|.q .not<|.zn ?_
 refine .cond rfl (fun h2 => ?_) (fun h2 => ?_)
 refine .sr<|.ag rfl<|.zn ?_
 refine .ret (seqQ_r (retQ_r _ (.one (.tmp rfl)) (.one [1, 1, 1] _) ?_))
 ·have hno : (cget id A).isSome = false := by simpa using h2
  refine ⟨(g, .cells [.map (some bm)].toArray 116 (0, 0)) :: (Tm ++ Ti), by simp [take, dropAt], by rw [hno]; rfl, ?_⟩
  have e : cdel id A = A := by
   unfold cdel
   rw [List.filter_eq_self]
   intro c hc
   rcases hg with ⟨_, _, h3⟩ | ⟨r, c, _, h3, _⟩
   ·simpa using h3 c hc
   ·rw [h3] at hno; simp at hno
  rw [e]; exact hRI
 refine .kn<|.sr<|.mo rfl<|.nc rfl<|.fa rfl<|.lo rfl<|.mo rfl ?_
 refine .delete hM rfl (show _ = some (Value.string id) from rfl) (fun Tm2 hM2 _ => ?_)
 refine .z<|.ag rfl<|.zn ?_
 refine .ret (retQ_r _ (.one (.tmp rfl)) (.one [1, 1, 1] _) ?_)
 ·have hyes : (cget id A).isSome = true := by simpa using h2
  refine ⟨(g, .cells [.map (some bm)].toArray 116 (0, 0)) :: (Tm2 ++ Ti), by simp [take, dropAt], by rw [hyes]; rfl, _, _, Tm2, Ti, rfl, hM2, fun p hp => hI p (mdel_sub p hp), cdel_perm hM.nd (fun p hp => (hI p hp).1) hA⟩
def Cli.short (c : Cli) : Cli := ⟨Go.Proofs.YtkagfkbkpiebjaaGreatDoor.short c.id 40, Go.Proofs.YtkagfkbkpiebjaaGreatDoor.short c.secret 70, texts c.uris 10 210, texts c.scopes 18 40⟩
theorem Cli.short_fits (c : Cli) : c.short.fits := by
 have h1 := short_size (s := c.id) (n := 40)
 have h2 := short_size (s := c.secret) (n := 70)
 refine ⟨by unfold Cli.short; simp only; omega, by unfold Cli.short; simp only; omega, fun s hs => ?_, fun s hs => ?_⟩
 ·have := texts_size s hs; omega
 ·have := texts_size s hs; omega
theorem Cli.short_few (c : Cli) : c.short.few := by
 unfold Cli.few Cli.short texts
 simp; omega
theorem cshort_spec (r : CR) (c : Cli) (R : Rds) (h : CliR R r c) : Spec Tryz.prog 57 [.agg r.cells.toArray] R [] fun v H' => ∃ T, H' = [T] ∧ ∃ r', v = .agg r'.cells.toArray ∧ CliR (sg T) r' c.short := by
 have io : Ones r.cells := ⟨h.ones⟩
 obtain ⟨rid, rsec, vu, vs⟩ := r
 obtain ⟨e1, e2, hu, hs⟩ := h
 simp only at e1 e2 hu hs
 subst e1; subst e2
 have i1 := hu.oneCell
 have i2 := hs.oneCell
 refine Spec.body Tryz.func57 rfl Tryz.results57 Tryz.ntmps57 rfl ?_
 refine .sr ?_
 refine .boxA rfl (fun b1 => ?_)
 refine .allocA (fun b2 => ?_)
 refine .zs<|.region_all [13] mixed ?_
 refine .takeO 0 rfl (.fieldAddr rfl) (by kernel_rfl)<|.takeO 1 rfl (.load1 rfl) (by kernel_rfl)<|.takeO 3 rfl (.fieldAddr rfl) (by kernel_rfl)<|.takeO 4 rfl (.load1 rfl) (by kernel_rfl)<|.takeO 6 rfl (.fieldAddr rfl) (by kernel_rfl)<|.takeO 7 rfl (.load1 rfl) (by kernel_rfl)<|.takeO 9 rfl (.fieldAddr rfl) (by kernel_rfl)<|.takeO 10 rfl (.load1 rfl) (by kernel_rfl) ?_
 refine RA.step 2 rfl (by kernel_rfl) rfl ?_
 refine .callR (short_spec c.id 40 _) (fun u hu => ?_)
 subst hu
 refine .nil (Next.sub ?_)
 refine RA.step 5 rfl (by kernel_rfl) rfl ?_
 refine .callR (short_spec c.secret 70 _) (fun u hu => ?_)
 subst hu
 refine .nil (Next.sub ?_)
 refine RA.step 8 rfl (by kernel_rfl) rfl ?_
 refine .callN (texts_spec vu c.uris 10 210 (by omega) _ hu.rx) (fun v1 T1 hO1 => ?_)
 obtain ⟨p1, k1, rfl, _⟩ := hO1.shape
 refine .nil (Next.sub ?_)
 refine RA.step 11 rfl (by kernel_rfl) rfl ?_
 refine .callN (texts_spec vs c.scopes 18 40 (by omega) _ hs.rx) (fun v2 T2 hO2 => ?_)
 obtain ⟨p2, k2, rfl, _⟩ := hO2.shape
 refine .nil (Next.sub ?_)
 refine .takeO 12 rfl .bld (by kernel_rfl) ?_
 refine RA.step 13 rfl (by kernel_rfl) rfl ?_
 refine .storeA rfl rfl ?_
 refine .nil (Next.mod rfl ?_)
 refine RA.nil (by kernel_rfl) ?_
 refine seqQ_n ?_
 refine .ret (retQ_r _ (.one (.cellA rfl rfl)) (.one [0, 0] _) ?_)
 ·exact ⟨T2 ++ T1, by simp [take, dropAt], ⟨short c.id 40, short c.secret 70, _, _⟩, rfl, rfl, rfl, hO1.sg.right, hO2.sg.left⟩
def Tok.fresh (t : Tok) : Tok := ⟨t.text, t.kind, t.client, t.user, t.scopes, t.family, t.expires, t.rev, false⟩
def tput (A : List (ByteArray × Tok)) (last : Int) (t : Tok) : Int × List (ByteArray × Tok) :=
 if rightB t last = false then (2, A) else if (mget t.text A).isSome then (22, A) else if 4096 ≤ A.length then (8, A) else (0, kset t.text t.fresh A)
theorem vPut_spec (g : Nat) (A : List (ByteArray × Tok)) (last : Int) (T : Seg) (h : VI g A last T) (w : Value) (t : Tok) (R : Rds) (ht : TokR R (w, t)) (hf : t.few) :
  Spec Tryz.prog 161 [.pointer (some ⟨g, 0, none⟩), .agg (encT (w, t)).toArray] R [T] fun v H' => ∃ T', H' = [T'] ∧ v = .int .i64 (tput A last t).1 ∧ VI g (tput A last t).2 last T' := by
 have h0 := h
 obtain ⟨Td, _, rfl, vm, M, q, Tm, Tq, rfl, hM, hI, hA, hQ⟩ := h
 obtain ⟨bm, rfl⟩ : ∃ b, vm = .map (some b) := by obtain ⟨b, es, clock, h1, _⟩ := hM; exact ⟨b, h1⟩
 have io : Ones (encT (w, t)) := ⟨ht.ones⟩
 have iw : One w := ht.oneCell
 have hlen : M.length = A.length := by simpa [kmap_length] using hA.length_eq
 obtain ⟨w0, t0, hr0, hc0, hf0, hs0, _, _⟩ := vi_get hM.nd hI hA t.text
 have i0 : Ones (encT (w0, t0)) := ⟨hc0.ones⟩
 refine Spec.segs (H' := [[(g, .cells [.map (some bm), .pointer (some ⟨q, 0, none⟩), .int .i64 last].toArray 102 (0, 0))], Tm, Tq, Td]) (by simp) ?_
 refine Spec.body Tryz.func161 rfl Tryz.results161 Tryz.ntmps161 rfl ?_
 refine .sr ?_
 refine .boxA rfl (fun b3 => ?_)
 refine .ag rfl<|.zs<|.sr<|.mo rfl ?_
 refine .callR (vok_spec g bm _ _ _) (fun v hv => ?_)
 subst hv
 refine .q .not<|.zn<|.condF<|.kn<|.seq<|.sr<|.mo rfl<|.q (.loadA rfl) ?_
 refine .callR (vright_spec g _ _ last w t _ iw) (fun v hv => ?_)
 subst hv
 refine .q .not<|.zn ?_
 refine .cond rfl (fun h2 => ?_) (fun h2 => ?_)
 refine .sr<|.ag rfl<|.zn ?_
 refine .ret (seqQ_r (retQ_r _ (.one (.tmp rfl)) (.one [1, 1, 1, 1] _) ?_))
 ·have e : tput A last t = (2, A) := by unfold tput; rw [if_pos (by simpa using h2)]
  rw [e]; exact ⟨_, by simp [take, dropAt], rfl, h0⟩
 have hrt : rightB t last = true := by simpa using h2
 refine .kn<|.seq<|.seq<|.region_all [11] mixed ?_
 refine .takeO 0 rfl .move (by kernel_rfl)<|.takeO 1 rfl (.nilCheck rfl) (by kernel_rfl)<|.takeO 2 rfl (.fieldAddr rfl) (by kernel_rfl)<|.takeO 3 rfl (.load1 rfl) (by kernel_rfl)<|.takeO 4 rfl (.fieldAddr rfl) (by kernel_rfl)<|.takeO 5 rfl (.load1 rfl) (by kernel_rfl) ?_
 refine .takeO 6 rfl (Quiet.cast (v' := .tuple [.agg (encT (w0, t0)).toArray, .bool (mget t.text A).isSome].toArray) (.lookup2 hM.rx rfl (show _ = some (Value.string t.text) from rfl)) (by rw [← hs0, ← hr0]; rfl)) (by kernel_rfl) ?_
 refine .takeO 7 rfl .move (by kernel_rfl)<|.takeO 8 rfl .extract (by kernel_rfl)<|.take 9 rfl .extract (by kernel_rfl) ?_
 refine RA.step 10 rfl (by kernel_rfl) rfl ?_
 refine .allocA (fun b5 => ?_)
 refine .nil (Next.sub ?_)
 refine RA.step 11 rfl (by kernel_rfl) rfl ?_
 refine .storeA rfl rfl ?_
 refine .nil (Next.mod rfl ?_)
 refine .take 12 rfl .assign (by kernel_rfl) ?_
 refine RA.nil (by kernel_rfl) ?_
 refine seqQ_n<|.sr<|.mo rfl<|.zn ?_
 refine .cond rfl (fun h3 => ?_) (fun h3 => ?_)
 refine .sr<|.ag rfl<|.zn ?_
 refine .ret (seqQ_r (retQ_r _ (.one (.tmp rfl)) (.one [2, 2, 2, 2] _) ?_))
 ·have e : tput A last t = (22, A) := by unfold tput; rw [if_neg (by simp [hrt]), if_pos h3]
  rw [e]; exact ⟨_, by simp [take, dropAt], rfl, h0⟩
 refine .kn<|.seq<|.sr<|.mo rfl<|.nc rfl<|.fa rfl<|.lo rfl<|.q (.lenM hM.rx rfl) ?_
 refine .q .geq<|.zn ?_
 refine .cond rfl (fun h4 => ?_) (fun h4 => ?_)
 refine .sr<|.ag rfl<|.zn ?_
 refine .ret (seqQ_r (retQ_r _ (.one (.tmp rfl)) (.one [2, 2, 2, 2] _) ?_))
 ·have e : tput A last t = (8, A) := by unfold tput; rw [if_neg (by simp [hrt]), if_neg (by rw [h3]; simp), if_pos (by have := of_decide_eq_true h4; omega)]
  rw [e]; exact ⟨_, by simp [take, dropAt], rfl, h0⟩
 have hlt : ¬ 4096 ≤ A.length := by have := of_decide_eq_false h4; omega
 refine .kn<|.sr<|.fa rfl<|.store1 rfl rfl<|.z<|.mo rfl<|.q (.loadA rfl) ?_
 refine .sub (H' := [((g, .cells [.map (some bm), .pointer (some ⟨q, 0, none⟩), .int .i64 last].toArray 102 (0, 0)) :: (Tm ++ Tq)) ++ Td]) ((HLe.pick [2, 2, 2, 2] _).trans (HLe.ofPerm (by simp [take, dropAt]))) ?_
 refine .callM (vput_spec g A last _ h0 w t.fresh _ ht hf (by omega)) (fun v T2 hv => ?_)
 obtain ⟨rfl, hV2⟩ := hv
 refine .z<|.ag rfl<|.zn ?_
 refine .ret (retQ_r _ (.one (.tmp rfl)) (.one [0] _) ?_)
 ·have e : tput A last t = (0, kset t.text t.fresh A) := by unfold tput; rw [if_neg (by simp [hrt]), if_neg (by rw [h3]; simp), if_neg hlt]
  rw [e]; exact ⟨T2, by simp [take], rfl, hV2⟩
def tfind (A : List (ByteArray × Tok)) (k : ByteArray) (now : Int) : Option Tok := (mget k A).filter fun t => decide (now < t.expires)
theorem vfind_spec (g : Nat) (A : List (ByteArray × Tok)) (last : Int) (T : Seg) (h : VI g A last T) (k : ByteArray) (now : Int) (R : Rds) (hr : ∀ p ∈ T, R p.1 p.2) :
    Spec Tryz.prog 61 [.pointer (some ⟨g, 0, none⟩), .string k, .int .i64 now] R [] fun v H' => ∃ T', H' = [T'] ∧ ∃ w t, v = .tuple [.agg (encT (w, t)).toArray, .bool (tfind A k now).isSome].toArray ∧ TokR (sg0 T') (w, t) ∧ (tfind A k now).getD Tok.zero = t := by
  obtain ⟨Td, _, rfl, vm, M, q, Tm, Tq, rfl, hM, hI, hA, hQ⟩ := h
  obtain ⟨bm, rfl⟩ : ∃ b, vm = .map (some b) := by obtain ⟨b, es, clock, h1, _⟩ := hM; exact ⟨b, h1⟩
  have pq : PC R (.pointer (some ⟨g, 0, none⟩)) [.map (some bm), .pointer (some ⟨q, 0, none⟩), .int .i64 last] := PC.of (E := 102) (fr := (0, 0)) (hr (g, .cells [.map (some bm), .pointer (some ⟨q, 0, none⟩), .int .i64 last].toArray 102 (0, 0)) (by simp))
  have rm : ∀ H', RM (Rx R H') (fun s : ByteArray => .string s) (fun p : TP => .agg (encT p).toArray) (.map (some bm)) M := fun H' => hM.rm fun p hp => .inl (hr p (by simp [hp]))
  have hT : ∀ b o, sg0 Td b o → R b o := fun b o hb => hr (b, o) (by have : (b, o) ∈ Td := hb.1; simp [this])
  obtain ⟨w0, t0, hr0, hc0, hf0, hs0, hz0, hu0⟩ := vi_get hM.nd hI hA k
  have i0 : Ones (encT (w0, t0)) := ⟨hc0.ones⟩
  refine Spec.body Tryz.func61 rfl Tryz.results61 Tryz.ntmps61 rfl ?_
  refine .sr ?_
  refine .allocA (fun b6 => ?_)
  refine .ag rfl<|.zs<|.sr<|.mo rfl ?_
  refine .callR (vok_spec g bm _ _ _) (fun v hv => ?_)
  subst hv
  refine .q .not<|.zn<|.condF<|.kn<|.sr<|.mo rfl<|.nc rfl<|.fa rfl<|.lo rfl<|.mo rfl ?_
  refine .q (Quiet.cast (v' := .tuple [.agg (encT (w0, t0)).toArray, .bool (mget k A).isSome].toArray) (.lookup2 (rm _) rfl (show _ = some (Value.string k) from rfl)) (by rw [← hs0, ← hr0]; rfl)) ?_
  refine .mo rfl<|.q .extract<|.q .extract ?_
  refine .allocA (fun b8 => ?_)
  refine .storeA rfl rfl<|.ag rfl<|.zs<|.sr<|.mo rfl<|.q .not<|.mo rfl ?_
  refine .split (t := 25) rfl (fun g4_2 => ?_) (fun g4_2 => ?_)
  refine .gF g4_2<|.gF g4_2<|.gF g4_2<|.gF g4_2<|.q (.pickTh g4_2) ?_
  refine .zn<|.condT<|.sr ?_
  refine .q .bld ?_
  refine .storeA rfl rfl<|.ag rfl<|.zn ?_
  refine .ret (seqQ_r (retQ_r _ (.two (.cellA rfl rfl) (.tmp rfl)) (.one [0] _) ?_))
  · skip
    (have he : tfind A k now = none := by
       unfold tfind
       first
         | (have hno : mget k A = none := by simpa using g4_2
            rw [hno]; rfl)
     rw [he]
     exact ⟨_, rfl, _, Tok.zero, rfl, TokR.zero _, rfl⟩)
  refine .gT g4_2<|.fa rfl<|.gT g4_2<|.lo rfl<|.gT g4_2<|.mo rfl<|.gT g4_2<|.q .leq<|.q (.pickFh g4_2) ?_
  refine .zn ?_
  refine .cond rfl (fun h2 => ?_) (fun h2 => ?_)
  refine .sr ?_
  refine .q .bld ?_
  refine .storeA rfl rfl<|.ag rfl<|.zn ?_
  refine .ret (seqQ_r (retQ_r _ (.two (.cellA rfl rfl) (.tmp rfl)) (.one [0] _) ?_))
  · skip
    (have he : tfind A k now = none := by
       unfold tfind
       first
         | (have hnow : ¬ now < t0.expires := by have h2' : t0.expires ≤ now := of_decide_eq_true h2; omega
            cases hu : mget k A with
            | none => rfl
            | some u => rw [(hu0 u hu).1, Option.filter, decide_eq_false hnow]; rfl)
     rw [he]
     exact ⟨_, rfl, _, Tok.zero, rfl, TokR.zero _, rfl⟩)
  refine .kn<|.sr<|.q (.loadA rfl) ?_
  refine .callN (tcopied_spec w0 t0 _ (hc0.mono fun b o hb => .inl (hT b o hb)) hf0) (fun v T1 hv => ?_)
  obtain ⟨w1, rfl, hc1⟩ := hv
  have i1 : Ones (encT (w1, t0)) := ⟨hc1.ones⟩
  refine .storeA rfl rfl<|.ag rfl<|.zn ?_
  refine .ret (retQ_r _ (.two (.cellA rfl rfl) (.tmp rfl)) (.one [0] _) ?_)
  · skip
    (have he : tfind A k now = some t0 := by
       have hsm : (mget k A).isSome = true := by simpa using g4_2
       obtain ⟨u, hu⟩ := Option.isSome_iff_exists.1 hsm
       have hnow : now < t0.expires := by have h2' : ¬ t0.expires ≤ now := of_decide_eq_false h2; omega
       unfold tfind
       rw [hu, (hu0 u hu).1]
       simp [hnow]
     rw [he]
     exact ⟨T1, by simp [take], w1, t0, rfl, hc1, rfl⟩)
def FnT (f : FuncId) (caps : List Value) (R : Rds) (p : Tok → Bool) : Prop := ∀ (w : Value) (t : Tok), One w → ∀ R', (∀ b o, R b o → R' b o) → Spec Tryz.prog f (.agg (encT (w, t)).toArray :: caps) R' [] fun u H' => u = .bool (p t) ∧ H' = []
theorem encT_ones {w : Value} {t : Tok} (h : One w) : Ones (encT (w, t)) := ⟨by
 have h1 := h.h
 intro u hu
 simp only [encT, List.mem_cons, List.not_mem_nil, or_false] at hu
 rcases hu with rfl | rfl | rfl | rfl | rfl | rfl | rfl | rfl | rfl <;> first | rfl | assumption⟩
theorem kmap_filter {κ β γ : Type} {f : β → γ} {q : γ → Bool} {A : List (κ × β)} : (kmap f A).filter (fun x => q x.2) = kmap f (A.filter fun x => q (f x.2)) := by unfold kmap; rw [List.filter_map]; rfl
theorem rm_hit {β : Type} {M : List (ByteArray × β)} (hn : (M.map (·.1)).Nodup) {todo : List ByteArray} {q : β → Bool} {k : ByteArray} {x : β} (hk : k ∈ todo) (hx : (k, x) ∈ M) (hq : q x = true) :
  kdel k (M.filter fun y => decide (y.1 ∈ todo) || !q y.2) = M.filter fun y => decide (y.1 ∈ todo.filter fun k' => decide (k' ≠ k)) || !q y.2 := by
 unfold kdel
 rw [List.filter_filter]
 refine List.filter_congr fun y hy => ?_
 by_cases h : y.1 = k
 ·have h1 : mget k M = some y.2 := mget_of_mem hn (by rw [← h]; exact hy)
  have h2 : mget k M = some x := mget_of_mem hn hx
  rw [h1] at h2
  simp only [Option.some.injEq] at h2
  simp [h, h2, hq]
 ·simp [h, List.mem_filter]
theorem rm_miss {β : Type} {M : List (ByteArray × β)} (hn : (M.map (·.1)).Nodup) {todo : List ByteArray} {q : β → Bool} {k : ByteArray} {x : β} (hk : k ∈ todo) (hx : (k, x) ∈ M) (hq : q x = false) :
  (M.filter fun y => decide (y.1 ∈ todo) || !q y.2) = M.filter fun y => decide (y.1 ∈ todo.filter fun k' => decide (k' ≠ k)) || !q y.2 := by
 refine List.filter_congr fun y hy => ?_
 by_cases h : y.1 = k
 ·have h1 : mget k M = some y.2 := mget_of_mem hn (by rw [← h]; exact hy)
  have h2 : mget k M = some x := mget_of_mem hn hx
  rw [h1] at h2
  simp only [Option.some.injEq] at h2
  simp [h, h2, hq]
 ·simp [h, List.mem_filter]
theorem filter_ne_twice {l : List ByteArray} {k : ByteArray} : ((l.filter fun k' => decide (k' ≠ k)).filter fun k' => decide (k' ≠ k)) = l.filter fun k' => decide (k' ≠ k) := by
 rw [List.filter_filter]; exact List.filter_congr fun x _ => Bool.and_self _
theorem filter_ne_lt {l : List ByteArray} {k : ByteArray} (h : k ∈ l) : (l.filter fun k' => decide (k' ≠ k)).length < l.length := by
 refine Nat.lt_of_le_of_ne (List.length_filter_le _ _) fun e => ?_
 have := List.length_filter_eq_length_iff.1 e k h
 simp at this
theorem filter_parts {α : Type} (q : α → Bool) : ∀ l : List α, l.length = (l.filter q).length + (l.filter fun x => !q x).length
 | [] => rfl
 | x :: l => by
  have := filter_parts q l
  rw [List.filter_cons, List.filter_cons]
  cases h : q x <;> simp <;> omega
theorem vremove_spec (g : Nat) (A : List (ByteArray × Tok)) (last : Int) (Td T : Seg) (h : VJ g A last Td T) (f : FuncId) (caps : List Value) [e : Ent Tryz.prog f] (p : Tok → Bool) (R : Rds) (hf : FnT f caps R p) :
  Spec Tryz.prog 157 [.pointer (some ⟨g, 0, none⟩), .func (.func f) #[] caps.toArray] R [T] fun v H' => ∃ T', H' = [T'] ∧ v = .int .i64 ((A.filter fun x => p x.2).length : Nat) ∧ VJ g (A.filter fun x => !p x.2) last Td T' := by
 obtain ⟨vm, M, q, Tm, Tq, rfl, hM, hI, hA, hQ⟩ := h
 obtain ⟨bm, rfl⟩ : ∃ b, vm = .map (some b) := by obtain ⟨b, es, clock, h1, _⟩ := hM; exact ⟨b, h1⟩
 have hQ0 := hQ.perm (kmap_perm hA.symm)
 have hql := hQ.len
 rw [kmap_length] at hql
 have hlen : M.length = A.length := by simpa [kmap_length] using hA.length_eq
 refine Spec.segs (H' := [[(g, .cells [.map (some bm), .pointer (some ⟨q, 0, none⟩), .int .i64 last].toArray 102 (0, 0))], Tm, Tq]) (by simp) ?_
 refine Spec.body Tryz.func157 rfl Tryz.results157 Tryz.ntmps157 rfl ?_
 refine .sr<|.ag rfl<|.z<|.ag rfl<|.zs<|.sr<|.mo rfl<|.nc rfl<|.fa rfl<|.lo rfl ?_
 refine .range (hM.rm (R := sg Tm) fun p hp => hp) (fun b o hb => .inr (by have hb' : (b, o) ∈ Tm := hb; simp [hb'])) rfl (fun it Ti0 hit0 => ?_)
 refine .zn<|.block ?_
 refine .loop (X := List ByteArray × List (ByteArray × TP) × Nat × Seg × Seg × Seg) (fun y => (y.1.Nodup ∧ y.2.2.1 + y.2.1.length = M.length) ∧ (y.2.1 = M.filter fun x => decide (x.1 ∈ y.1) || !p x.2.2) ∧ MS (fun s : ByteArray => .string s) (fun p : TP => .agg (encT p).toArray) (.map (some bm)) y.2.1 y.2.2.2.1 ∧ It (sg y.2.2.2.1) (fun s : ByteArray => .string s) (fun p : TP => .agg (encT p).toArray) (.map (some bm)) y.2.1 it y.1 y.2.2.2.2.2 ∧ QI q (kmap (fun t : Tok => t.expires) (kmap (fun p : TP => p.2) y.2.1)) y.2.2.2.2.1) (fun y => [(0, .pointer (some ⟨g, 0, none⟩)), (1, .func (.func f) #[] caps.toArray), (5, .int .i64 (y.2.2.1 : Nat)), (12, it)]) (fun y => [y.2.2.2.2.2, [(g, .cells [.map (some bm), .pointer (some ⟨q, 0, none⟩), .int .i64 last].toArray 102 (0, 0))], y.2.2.2.1, y.2.2.2.2.1]) (fun y => y.1.length) (M.map (·.1), M, 0, Tm, Tq, Ti0) ⟨⟨hM.nd, by simp⟩, (List.filter_eq_self.2 fun x hx => by
  have hx' : x.1 ∈ M.map (·.1) := List.mem_map.2 ⟨x, hx, rfl⟩
  show (decide (x.1 ∈ M.map (·.1)) || _) = true
  rw [decide_eq_true hx']; rfl).symm, hM, hit0, hQ0⟩ (EnvLe.k4 rfl rfl rfl rfl) (HLe.refl _) ?_
 rintro ⟨todo, M1, n, Tm1, Tq1, Ti1⟩ ⟨⟨hnd, hnl⟩, hM1e, hM1, hit, hQ1⟩
 simp only at hnd hnl hM1e hM1 hit hQ1 ⊢
 refine .sr ?_
 refine .nextB hit (fun b o hb => .inr (by have hb' : (b, o) ∈ Tm1 := hb; simp [hb'])) rfl (fun b rest Ti2 hfe ht => ?_)
 refine .q .extract<|.zs ?_
 refine .cond rfl (fun h1 => ?_) (fun h1 => ?_)
 obtain ⟨k, ⟨w0, t0⟩, hk, hku, hitc⟩ := ht h1
 have hkM : (k, ((w0, t0) : TP)) ∈ M := (List.mem_filter.1 (hM1e ▸ mget_some hku)).1
 obtain ⟨_, hc0, hf0⟩ := hI _ hkM
 have i0 : Ones (encT (w0, t0)) := ⟨hc0.ones⟩
 have iw0 : One w0 := hc0.oneCell
 have hnd2 : (todo.filter fun k' => decide (k' ≠ k)).Nodup := hnd.sublist List.filter_sublist
 have hlt := filter_ne_lt hk
 refine .kn<|.block<|.sr ?_
 refine .q (.entry hitc (fun b o hb => .inr (by have hb' : (b, o) ∈ Tm1 := hb; simp [hb'])) rfl) ?_
 refine .q .extract<|.q .extract ?_
 refine .allocA (fun b7 => ?_)
 refine .ag rfl<|.storeA rfl rfl<|.z<|.mo rfl<|.q (.loadA rfl) ?_
 refine .callRV (first := []) (captured := caps) (vs := [.agg (encT (w0, t0)).toArray]) (hf w0 t0 iw0 _ fun b o hb => .inl hb) (fun u hu => ?_)
 subst hu
 refine .zn ?_
 refine .cond rfl (fun h2 => ?_) (fun h2 => ?_)
 refine .sr<|.mo rfl<|.nc rfl<|.fa rfl<|.lo rfl<|.mo rfl ?_
 refine .delete hM1 rfl (show _ = some (Value.string k) from rfl) (fun Tm2 hM2 hit2 => ?_)
 have hit3 := hit2 it _ Ti2 hitc.it
 rw [filter_ne_twice] at hit3
 have hdel : mdel k M1 = kdel k M1 := mdel_kdel hM1.nd
 have hM2e := rm_hit (q := fun x : TP => p x.2) hM.nd hk hkM h2
 rw [← hM1e, ← hdel] at hM2e
 have hM2l : (mdel k M1).length + 1 = M1.length := by
  rw [mdel_length, hku]
  have : 0 < M1.length := List.length_pos_of_mem (mget_some hku)
  simp; omega
 refine .z<|.mo rfl<|.nc rfl<|.fa rfl<|.lo rfl<|.mo rfl ?_
 refine .callM (qdrop_spec q _ Tq1 hQ1 k _) (fun v Tq2 hv => ?_)
 obtain ⟨rfl, hQ2⟩ := hv
 rw [← kmap_del, ← kmap_del, ← hdel] at hQ2
 refine .zn<|.region<|.mo rfl ?_
 refine .q (.i64 ((n + 1 : Nat) : Int) .add ⟨by omega, by omega, by omega⟩) ?_
 refine .ag rfl<|.nil<|blkQ_n ?_
 ·exact loopQ_i (todo.filter fun k' => decide (k' ≠ k), mdel k M1, n + 1, Tm2, Tq2, Ti2) ⟨⟨hnd2, by simp only; omega⟩, hM2e, hM2, hit3, hQ2⟩ hlt (EnvLe.k4 rfl rfl rfl rfl) (HLe.pick [1, 1, 1, 1] _)
 have hM1e2 := rm_miss (q := fun x : TP => p x.2) hM.nd hk hkM h2
 rw [← hM1e] at hM1e2
 refine .skip<|blkQ_n ?_
 ·exact loopQ_i (todo.filter fun k' => decide (k' ≠ k), M1, n, Tm1, Tq1, Ti2) ⟨⟨hnd2, hnl⟩, hM1e2, hM1, hitc.it, hQ1⟩ hlt (EnvLe.k4 rfl rfl rfl rfl) (HLe.pick [1, 1, 1, 1] _)
 have ht0 := hfe h1
 subst ht0
 have hM1f : M1 = M.filter fun x => !p x.2.2 := by rw [hM1e]; exact List.filter_congr fun x _ => by simp
 have hn2 : n = (A.filter fun x => p x.2).length := by
  have h3 := (hA.filter fun x => p x.2).length_eq
  rw [kmap_filter, kmap_length] at h3
  have h4 := filter_parts (fun x : ByteArray × TP => p x.2.2) M
  rw [← hM1f] at h4
  omega
 refine .exit<|seqQ_x<|loopQ_x<|blkQ_x<|seqQ_n<|.sr<|.mo rfl<|.ag rfl<|.zn ?_
 refine .ret (retQ_r _ (.one (.tmp rfl)) (.one [1, 1, 1] _) ?_)
 ·refine ⟨(g, .cells [.map (some bm), .pointer (some ⟨q, 0, none⟩), .int .i64 last].toArray 102 (0, 0)) :: (Tm1 ++ Tq1), by simp [take, dropAt], by rw [hn2], _, M1, q, Tm1, Tq1, rfl, hM1, fun x hx => hI x (List.mem_filter.1 (hM1f ▸ hx)).1, ?_, ?_⟩
  ·rw [hM1f, ← kmap_filter (q := fun t => !p t)]
   exact hA.filter _
  ·refine hQ1.perm (kmap_perm ?_)
   rw [hM1f, ← kmap_filter (q := fun t => !p t)]
   exact hA.filter _
theorem tcut1_spec (fam : Int) (b : Nat) (w : Value) (t : Tok) (hw : One w) (R : Rds) [pc : PC R (.pointer (some ⟨b, 0, none⟩)) [.int .i64 fam]] :
  Spec Tryz.prog 158 [.agg (encT (w, t)).toArray, .pointer (some ⟨b, 0, none⟩)] R [] fun v H' => v = .bool (t.family == fam) ∧ H' = [] := by
 have i0 := encT_ones (t := t) hw
 refine Spec.body Tryz.func158 rfl Tryz.results158 Tryz.ntmps158 rfl ?_
 refine .sr ?_
 refine .boxA rfl (fun b2 => ?_)
 refine .ag rfl<|.z<|.fa rfl<|.lo rfl<|.lo rfl<|.q .eqI<|.ag rfl<|.zn ?_
 refine .ret (retQ_r _ (.one (.tmp rfl)) (.none _) ?_)
 ·exact ⟨rfl, rfl⟩
theorem vcut_spec (g : Nat) (A : List (ByteArray × Tok)) (last : Int) (Td T : Seg) (h : VJ g A last Td T) (fam : Int) (R : Rds) :
  Spec Tryz.prog 96 [.pointer (some ⟨g, 0, none⟩), .int .i64 fam] R [T] fun v H' => ∃ T', H' = [T'] ∧ v = .int .i64 ((A.filter fun x => x.2.family == fam).length : Nat) ∧ VJ g (A.filter fun x => !(x.2.family == fam)) last Td T' := by
 have h0 := h
 obtain ⟨vm, M, q, Tm, Tq, hT, hM, hI, hA, hQ⟩ := h
 obtain ⟨bm, rfl⟩ : ∃ b, vm = .map (some b) := by obtain ⟨b, es, clock, h1, _⟩ := hM; exact ⟨b, h1⟩
 have ps : PS T (.pointer (some ⟨g, 0, none⟩)) [.map (some bm), .pointer (some ⟨q, 0, none⟩), .int .i64 last] := PS.of (E := 102) (fr := (0, 0)) (by rw [hT]; simp)
 refine Spec.body Tryz.func96 rfl Tryz.results96 Tryz.ntmps96 rfl ?_
 refine .sr ?_
 refine .box1 rfl (fun b3 => ?_)
 refine .ag rfl<|.zs<|.sr<|.mo rfl ?_
 refine .callR (vok_spec g bm _ _ _) (fun v hv => ?_)
 subst hv
 refine .q .not<|.zn<|.condF<|.kn<|.sr<|.mo rfl<|.q .makeFunc ?_
 refine .callW (vremove_spec g A last Td T h0 158 [.pointer (some ⟨b3, 0, none⟩)] (fun t => t.family == fam) _ (fun w t hw R' hR => by
  have : PC R' (.pointer (some ⟨b3, 0, none⟩)) [.int .i64 fam] := PC.of (E := 3) (fr := (0, 0)) (hR _ _ (.inr (by simp)))
  exact tcut1_spec fam b3 w t hw R')) (fun v T2 hv => ?_)
 obtain ⟨rfl, hV2⟩ := hv
 refine .ag rfl<|.zn ?_
 refine .ret (retQ_r _ (.one (.tmp rfl)) (.one [1] _) ?_)
 ·exact ⟨T2, by simp [take], rfl, hV2⟩
def Tok.mark (t : Tok) : Tok := ⟨t.text, t.kind, t.client, t.user, t.scopes, t.family, t.expires, t.rev, true⟩
def trot (A : List (ByteArray × Tok)) (k client : ByteArray) (now : Int) : Tok × Int × List (ByteArray × Tok) :=
 match mget k A with
 | none => (Tok.zero, 18, A)
 | some t => if t.kind ≠ 2 ∨ t.client ≠ client then (Tok.zero, 18, A) else if t.used then (t, 10, A.filter fun x => !(x.2.family == t.family)) else if t.expires ≤ now then (Tok.zero, 18, A) else (t.mark, 0, kset k t.mark A)
theorem vrotate_spec (g : Nat) (A : List (ByteArray × Tok)) (last : Int) (T : Seg) (h : VI g A last T) (k client : ByteArray) (now : Int) (R : Rds) :
  Spec Tryz.prog 102 [.pointer (some ⟨g, 0, none⟩), .string k, .string client, .int .i64 now] R [T] fun v H' => ∃ T' Tn, H' = [T', Tn] ∧ ∃ w, v = .tuple [.agg (encT (w, (trot A k client now).1)).toArray, .int .i64 (trot A k client now).2.1].toArray ∧ TokR (sg0 Tn) (w, (trot A k client now).1) ∧ VI g (trot A k client now).2.2 last T' := by
 have hAn := h.nd
 have h0 := h
 obtain ⟨Td, T0, rfl, hJ⟩ := h
 have hJ0 := hJ
 obtain ⟨vm, M, q, Tm, Tq, hT0, hM, hI, hA, hQ⟩ := hJ
 obtain ⟨bm, rfl⟩ : ∃ b, vm = .map (some b) := by obtain ⟨b, es, clock, h1, _⟩ := hM; exact ⟨b, h1⟩
 have ps : PS T0 (.pointer (some ⟨g, 0, none⟩)) [.map (some bm), .pointer (some ⟨q, 0, none⟩), .int .i64 last] := PS.of (E := 102) (fr := (0, 0)) (by rw [hT0]; simp)
 have rm : RM (sg T0) (fun s : ByteArray => .string s) (fun p : TP => .agg (encT p).toArray) (.map (some bm)) M := hM.rm fun p hp => by rw [hT0]; simp [sg, hp]
 obtain ⟨w0, t0, hr0, hc0, hf0, hs0, hz0, hu0⟩ := vi_get hM.nd hI hA k
 have i0 : Ones (encT (w0, t0)) := ⟨hc0.ones⟩
 refine Spec.segs (H' := [T0, Td]) (by simp) ?_
 refine Spec.body Tryz.func102 rfl Tryz.results102 Tryz.ntmps102 rfl ?_
 refine .sr ?_
 refine .allocA (fun b8 => ?_)
 refine .ag rfl<|.zs<|.sr<|.mo rfl ?_
 refine .callR (vok_spec g bm _ _ _) (fun v hv => ?_)
 subst hv
 refine .q .not<|.zn<|.condF<|.kn<|.sr<|.mo rfl<|.nc rfl<|.fa rfl<|.lo rfl<|.mo rfl ?_
 refine .q (Quiet.cast (v' := .tuple [.agg (encT (w0, t0)).toArray, .bool (mget k A).isSome].toArray) (.lookup2 (rm.mono fun b o hb => .inr (by have hb' : (b, o) ∈ T0 := hb; simp [hb'])) rfl (show _ = some (Value.string k) from rfl)) (by rw [← hs0, ← hr0]; rfl)) ?_
 refine .mo rfl<|.q .extract<|.q .extract ?_
 refine .allocA (fun b10 => ?_)
 refine .storeA rfl rfl<|.ag rfl<|.zs<|.block<|.sr<|.mo rfl<|.q .not<|.mo rfl ?_
 refine .split (t := 28) rfl (fun g4_2 => ?_) (fun g4_2 => ?_)
 refine .gF g4_2<|.gF g4_2<|.gF g4_2<|.q (.pickTh g4_2) ?_
 refine .mo rfl<|.gf rfl rfl<|.gf rfl rfl<|.gf rfl rfl<|.gf rfl rfl<|.q .pickT<|.ag rfl<|.zn<|.condT<|.sr ?_
 refine .q .bld ?_
 refine .storeA rfl rfl<|.ag rfl<|.zn ?_
 refine .ret (blkQ_r (seqQ_r (retQ_r _ (.two (.cellA rfl rfl) (.tmp rfl)) ((HLe.pick [2, 2] _).trans (HLe.ofPerm (H' := [T0 ++ Td, []]) (by simp [take, dropAt]))) ?_)))
 ·have hm : mget k A = none := by simpa using g4_2
  have e : trot A k client now = (Tok.zero, 18, A) := by unfold trot; rw [hm]
  rw [e]; exact ⟨_, _, rfl, .slice none 0 0, rfl, TokR.zero _, h0⟩
 refine .gT g4_2<|.fa rfl<|.gT g4_2<|.lo rfl<|.gT g4_2<|.q .neI<|.q (.pickFh g4_2) ?_
 refine .mo rfl ?_
 refine .split (t := 33) rfl (fun g4_7 => ?_) (fun g4_7 => ?_)
 refine .gF g4_7<|.gF g4_7<|.gF g4_7<|.gF g4_7<|.q (.pickTh g4_7) ?_
 refine .ag rfl<|.zn<|.condT<|.sr ?_
 refine .q .bld ?_
 refine .storeA rfl rfl<|.ag rfl<|.zn ?_
 refine .ret (blkQ_r (seqQ_r (retQ_r _ (.two (.cellA rfl rfl) (.tmp rfl)) ((HLe.pick [2, 2] _).trans (HLe.ofPerm (H' := [T0 ++ Td, []]) (by simp [take, dropAt]))) ?_)))
 ·skip
  have hsm : (mget k A).isSome = true := by simpa using g4_2
  obtain ⟨u, hu⟩ := Option.isSome_iff_exists.1 hsm
  have hm : mget k A = some t0 := (hu0 u hu).1 ▸ hu
  have e : trot A k client now = (Tok.zero, 18, A) := by unfold trot; rw [hm]; simp only; rw [if_pos (.inl (by simpa using g4_7))]
  rw [e]; exact ⟨_, _, rfl, .slice none 0 0, rfl, TokR.zero _, h0⟩
 refine .gT g4_7<|.fa rfl<|.gT g4_7<|.lo rfl<|.gT g4_7<|.mo rfl<|.gT g4_7<|.q .neS<|.q (.pickFh g4_7) ?_
 refine .ag rfl<|.zn ?_
 refine .cond rfl (fun h2 => ?_) (fun h2 => ?_)
 refine .sr ?_
 refine .q .bld ?_
 refine .storeA rfl rfl<|.ag rfl<|.zn ?_
 refine .ret (blkQ_r (seqQ_r (retQ_r _ (.two (.cellA rfl rfl) (.tmp rfl)) ((HLe.pick [2, 2] _).trans (HLe.ofPerm (H' := [T0 ++ Td, []]) (by simp [take, dropAt]))) ?_)))
 ·skip
  have hsm : (mget k A).isSome = true := by simpa using g4_2
  obtain ⟨u, hu⟩ := Option.isSome_iff_exists.1 hsm
  have hm : mget k A = some t0 := (hu0 u hu).1 ▸ hu
  have e : trot A k client now = (Tok.zero, 18, A) := by unfold trot; rw [hm]; simp only; rw [if_pos (.inr (by simpa using h2))]
  rw [e]; exact ⟨_, _, rfl, .slice none 0 0, rfl, TokR.zero _, h0⟩
 obtain ⟨hm, hk2, hcl⟩ : mget k A = some t0 ∧ t0.kind = 2 ∧ t0.client = client := by
  have hsm : (mget k A).isSome = true := by simpa using g4_2
  obtain ⟨u, hu⟩ := Option.isSome_iff_exists.1 hsm
  exact ⟨(hu0 u hu).1 ▸ hu, by simpa using g4_7, by simpa using h2⟩
 have hno : ¬ (t0.kind ≠ 2 ∨ t0.client ≠ client) := by simp [hk2, hcl]
 refine .sr<|.fa rfl<|.lo rfl<|.ag rfl<|.zn ?_
 refine .cond rfl (fun h3 => ?_) (fun h3 => ?_)
 refine .sr<|.mo rfl<|.fa rfl<|.lo rfl ?_
 refine .callM (vcut_spec g A last Td T0 hJ0 t0.family _) (fun v T2 hv => ?_)
 obtain ⟨rfl, hV2⟩ := hv
 refine .z<|.q (.loadA rfl) ?_
 refine .callN (tcopied_spec w0 t0 _ (hc0.mono fun b o hb => .inr (by have hb' : (b, o) ∈ Td := hb.1; simp [hb'])) hf0) (fun v T1 hv => ?_)
 obtain ⟨w1, rfl, hc1⟩ := hv
 have i1 : Ones (encT (w1, t0)) := ⟨hc1.ones⟩
 refine .storeA rfl rfl<|.ag rfl<|.zn ?_
 refine .ret (blkQ_r (seqQ_r (retQ_r _ (.two (.cellA rfl rfl) (.tmp rfl)) ((HLe.pick [3, 3, 0] _).trans (HLe.ofPerm (H' := [T2 ++ Td, T1]) (by simp [take, dropAt]))) ?_)))
 ·have e : trot A k client now = (t0, 10, A.filter fun x => !(x.2.family == t0.family)) := by unfold trot; rw [hm]; simp only; rw [if_neg hno, if_pos h3]
  rw [e]; exact ⟨_, _, rfl, w1, rfl, hc1, Td, T2, rfl, hV2⟩
 refine .sr<|.fa rfl<|.lo rfl<|.mo rfl<|.q .leq<|.ag rfl<|.zn ?_
 refine .cond rfl (fun h4 => ?_) (fun h4 => ?_)
 refine .sr ?_
 refine .q .bld ?_
 refine .storeA rfl rfl<|.ag rfl<|.zn ?_
 refine .ret (blkQ_r (seqQ_r (retQ_r _ (.two (.cellA rfl rfl) (.tmp rfl)) ((HLe.pick [2, 2] _).trans (HLe.ofPerm (H' := [T0 ++ Td, []]) (by simp [take, dropAt]))) ?_)))
 ·have e : trot A k client now = (Tok.zero, 18, A) := by unfold trot; rw [hm]; simp only; rw [if_neg hno, if_neg (by rw [h3]; simp), if_pos (of_decide_eq_true h4)]
  rw [e]; exact ⟨_, _, rfl, .slice none 0 0, rfl, TokR.zero _, h0⟩
 refine .skip<|blkQ_n<|seqQ_n<|.sr<|.fa rfl<|.store1 rfl rfl<|.zs ?_
 refine .region_tail 6 mixed (by kernel_rfl) ?_
 conv => arg 6; dsimp only [List.take]
 refine .sub (HLe.open_ (S := [[(g, .cells [.map (some bm), .pointer (some ⟨q, 0, none⟩), .int .i64 last].toArray 102 (0, 0))], Tm, Tq]) 2 (by simp [hT0])) ?_
 show TriOps _ _ _ _ _ _ _ [_, _, _, _, _, _] _
 refine .mo rfl<|.nc rfl<|.fa rfl<|.lo rfl<|.mo rfl<|.q (.loadA rfl)<|.nil ?_
 refine .update (u := ((w0, t0.mark) : TP)) hM rfl (show _ = some (Value.string k) from rfl) rfl (fun Tm2 hM2 _ => ?_)
 refine .z<|.q (.loadA rfl) ?_
 refine .callN (tcopied_spec w0 t0.mark _ (TokR.mono (p := (w0, t0)) hc0 fun b o hb => .inr (by have hb' : (b, o) ∈ Td := hb.1; simp [hb'])) hf0) (fun v T1 hv => ?_)
 obtain ⟨w1, rfl, hc1⟩ := hv
 have i1 : Ones (encT (w1, t0.mark)) := ⟨hc1.ones⟩
 refine .storeA rfl rfl<|.ag rfl<|.zn ?_
 refine .ret (retQ_r _ (.two (.cellA rfl rfl) (.tmp rfl)) ((HLe.pick [1, 1, 1, 3, 0] _).trans (HLe.ofPerm (H' := [((g, .cells [.map (some bm), .pointer (some ⟨q, 0, none⟩), .int .i64 last].toArray 102 (0, 0)) :: (Tm2 ++ Tq)) ++ Td, T1]) (by simp [take, dropAt]))) ?_)
 ·have e : trot A k client now = (t0.mark, 0, kset k t0.mark A) := by unfold trot; rw [hm]; simp only; rw [if_neg hno, if_neg (by rw [h3]; simp), if_neg (of_decide_eq_false h4)]
  have hk : k = t0.text := (hu0 t0 hm).2.1.symm
  rw [e]
  refine ⟨_, _, rfl, w1, rfl, hc1, Td, _, rfl, _, _, q, Tm2, Tq, rfl, hM2, fun p hp => ?_, ?_, ?_⟩
  ·rcases mset_mem hM.nd hp with hp | rfl
   ·exact hI p hp
   ·exact ⟨hk, TokR.mono (p := (w0, t0)) hc0 fun b o hb => hb, hf0⟩
  ·exact (kmap_perm (mset_perm hM.nd)).trans (by rw [kmap_set]; exact kset_perm hA)
  ·refine hQ.perm ?_
   rw [kmap_set]
   exact (kset_same (by rw [kmap_keys]; exact hAn) (by rw [kmap_get, hm]; rfl)).symm
def Tok.short (t : Tok) : Tok := ⟨Go.Proofs.YtkagfkbkpiebjaaGreatDoor.short t.text 40, t.kind, Go.Proofs.YtkagfkbkpiebjaaGreatDoor.short t.client 40, Go.Proofs.YtkagfkbkpiebjaaGreatDoor.short t.user 40, texts t.scopes 5 20, t.family, t.expires, t.rev, t.used⟩
theorem Tok.short_few (t : Tok) : t.short.few := by
 unfold Tok.few Tok.short texts
 simp; omega
theorem trev1_spec (k : ByteArray) (b : Nat) (w : Value) (t : Tok) (hw : One w) (R : Rds) [pc : PC R (.pointer (some ⟨b, 0, none⟩)) [.string k]] :
  Spec Tryz.prog 168 [.agg (encT (w, t)).toArray, .pointer (some ⟨b, 0, none⟩)] R [] fun v H' => v = .bool (decide (t.text = k)) ∧ H' = [] := by
 have i0 := encT_ones (t := t) hw
 refine Spec.body Tryz.func168 rfl Tryz.results168 Tryz.ntmps168 rfl ?_
 refine .sr ?_
 refine .boxA rfl (fun b2 => ?_)
 refine .ag rfl<|.z<|.fa rfl<|.lo rfl<|.lo rfl<|.q .eqS<|.ag rfl<|.zn ?_
 refine .ret (retQ_r _ (.one (.tmp rfl)) (.none _) ?_)
 ·exact ⟨rfl, rfl⟩
def tdropB (client user : ByteArray) (t : Tok) : Bool := decide (t.client = client) && (decide (user = ⟨#[]⟩) || decide (user = t.user))
theorem tdrop1_spec (client user : ByteArray) (b b' : Nat) (w : Value) (t : Tok) (hw : One w) (R : Rds) [pc : PC R (.pointer (some ⟨b, 0, none⟩)) [.string client]] [pd : PC R (.pointer (some ⟨b', 0, none⟩)) [.string user]] :
  Spec Tryz.prog 209 [.agg (encT (w, t)).toArray, .pointer (some ⟨b, 0, none⟩), .pointer (some ⟨b', 0, none⟩)] R [] fun v H' => v = .bool (tdropB client user t) ∧ H' = [] := by
 have i0 := encT_ones (t := t) hw
 refine Spec.body Tryz.func209 rfl Tryz.results209 Tryz.ntmps209 rfl ?_
 refine .sr ?_
 refine .boxA rfl (fun b3 => ?_)
 refine .ag rfl<|.z<|.fa rfl<|.lo rfl<|.lo rfl<|.q .eqS<|.mo rfl ?_
 refine .split (t := 9) rfl (fun g1_4 => ?_) (fun g1_4 => ?_)
 refine .gT g1_4<|.lo rfl<|.gT g1_4<|.q .eqS<|.gT g1_4<|.mo rfl ?_
 refine .split (t := 12) rfl (fun g1_7 => ?_) (fun g1_7 => ?_)
 refine .gF g1_7<|.gF g1_7<|.gF g1_7<|.gF g1_7<|.gT g1_4<|.q (.pickTh g1_7) ?_
 refine .q (.pickTh g1_4) ?_
 refine .ag rfl<|.zn ?_
 refine .ret (retQ_r _ (.one (.tmp rfl)) (.none _) ?_)
 ·refine ⟨congrArg _ ?_, rfl⟩
  unfold tdropB
  simp_all
 refine .gT g1_7<|.lo rfl<|.gT g1_7<|.fa rfl<|.gT g1_7<|.lo rfl<|.gT g1_7<|.q .eqS<|.gT g1_4<|.q (.pickFh g1_7) ?_
 refine .q (.pickTh g1_4) ?_
 refine .ag rfl<|.zn ?_
 refine .ret (retQ_r _ (.one (.tmp rfl)) (.none _) ?_)
 ·refine ⟨congrArg _ ?_, rfl⟩
  unfold tdropB
  simp_all
 refine .gF g1_4<|.gF g1_4<|.gF g1_4<|.gfU rfl ?_
 refine .gfU rfl ?_
 refine .gfU rfl ?_
 refine .gfU rfl ?_
 refine .gF g1_4<|.q (.pickFh g1_4) ?_
 refine .ag rfl<|.zn ?_
 refine .ret (retQ_r _ (.one (.tmp rfl)) (.none _) ?_)
 ·refine ⟨congrArg _ ?_, rfl⟩
  unfold tdropB
  simp_all
theorem vdrop_spec (g : Nat) (A : List (ByteArray × Tok)) (last : Int) (T : Seg) (h : VI g A last T) (client user : ByteArray) (R : Rds) :
  Spec Tryz.prog 142 [.pointer (some ⟨g, 0, none⟩), .string client, .string user] R [T] fun v H' => ∃ T', H' = [T'] ∧ v = .tuple #[] ∧ VI g (A.filter fun x => !tdropB client user x.2) last T' := by
 obtain ⟨Td, T0, rfl, hJ⟩ := h
 have hJ0 := hJ
 obtain ⟨vm, M, q, Tm, Tq, hT0, hM, hI, hA, hQ⟩ := hJ
 obtain ⟨bm, rfl⟩ : ∃ b, vm = .map (some b) := by obtain ⟨b, es, clock, h1, _⟩ := hM; exact ⟨b, h1⟩
 have ps : PS T0 (.pointer (some ⟨g, 0, none⟩)) [.map (some bm), .pointer (some ⟨q, 0, none⟩), .int .i64 last] := PS.of (E := 102) (fr := (0, 0)) (by rw [hT0]; simp)
 refine Spec.segs (H' := [T0, Td]) (by simp) ?_
 refine Spec.body Tryz.func142 rfl Tryz.results142 Tryz.ntmps142 rfl ?_
 refine .sr ?_
 refine .box1 rfl (fun b4 => ?_)
 refine .box1 rfl (fun b5 => ?_)
 refine .z<|.mo rfl ?_
 refine .callR (vok_spec g bm _ _ _) (fun v hv => ?_)
 subst hv
 refine .zn<|.condT<|.region<|.mo rfl<|.q .makeFunc ?_
 refine .callW (vremove_spec g A last Td T0 hJ0 209 [.pointer (some ⟨b4, 0, none⟩), .pointer (some ⟨b5, 0, none⟩)] (tdropB client user) _ (fun w t hw R' hR => by
  have : PC R' (.pointer (some ⟨b4, 0, none⟩)) [.string client] := PC.of (E := 9) (fr := (0, 0)) (hR _ _ (.inr (by simp)))
  have : PC R' (.pointer (some ⟨b5, 0, none⟩)) [.string user] := PC.of (E := 9) (fr := (0, 0)) (hR _ _ (.inr (by simp)))
  exact tdrop1_spec client user b4 b5 w t hw R')) (fun v T2 hv => ?_)
 obtain ⟨rfl, hV2⟩ := hv
 refine .nil ?_
 refine retQ_n _ .none ((HLe.pick [2, 2] _).trans (HLe.ofPerm (H' := [T2 ++ Td]) (by simp [take, dropAt]))) ?_
 ·exact ⟨_, rfl, rfl, Td, T2, rfl, hV2⟩
def trev (A : List (ByteArray × Tok)) (k client : ByteArray) : Int × List (ByteArray × Tok) := match mget k A with
 | none => (0, A)
 | some t => if t.client ≠ client then (20, A) else if t.kind = 2 then (0, A.filter fun x => !(x.2.family == t.family)) else (0, A.filter fun x => !decide (x.2.text = k))
theorem vrevoke_spec (g : Nat) (A : List (ByteArray × Tok)) (last : Int) (T : Seg) (h : VI g A last T) (k client : ByteArray) (R : Rds) :
  Spec Tryz.prog 105 [.pointer (some ⟨g, 0, none⟩), .string k, .string client] R [T] fun v H' => ∃ T', H' = [T'] ∧ v = .int .i64 (trev A k client).1 ∧ VI g (trev A k client).2 last T' := by
 have h0 := h
 obtain ⟨Td, T0, rfl, hJ⟩ := h
 have hJ0 := hJ
 obtain ⟨vm, M, q, Tm, Tq, hT0, hM, hI, hA, hQ⟩ := hJ
 obtain ⟨bm, rfl⟩ : ∃ b, vm = .map (some b) := by obtain ⟨b, es, clock, h1, _⟩ := hM; exact ⟨b, h1⟩
 have ps : PS T0 (.pointer (some ⟨g, 0, none⟩)) [.map (some bm), .pointer (some ⟨q, 0, none⟩), .int .i64 last] := PS.of (E := 102) (fr := (0, 0)) (by rw [hT0]; simp)
 have rm : RM (sg T0) (fun s : ByteArray => .string s) (fun p : TP => .agg (encT p).toArray) (.map (some bm)) M := hM.rm fun p hp => by rw [hT0]; simp [sg, hp]
 obtain ⟨w0, t0, hr0, hc0, hf0, hs0, hz0, hu0⟩ := vi_get hM.nd hI hA k
 have i0 : Ones (encT (w0, t0)) := ⟨hc0.ones⟩
 refine Spec.segs (H' := [T0, Td]) (by simp) ?_
 refine Spec.body Tryz.func105 rfl Tryz.results105 Tryz.ntmps105 rfl ?_
 refine .sr ?_
 refine .box1 rfl (fun b4 => ?_)
 refine .ag rfl<|.zs<|.sr<|.mo rfl ?_
 refine .callR (vok_spec g bm _ _ _) (fun v hv => ?_)
 subst hv
 refine .q .not<|.zn<|.condF<|.kn<|.seq<|.region_all [10] mixed ?_
 refine .takeO 0 rfl .move (by kernel_rfl)<|.takeO 1 rfl (.nilCheck rfl) (by kernel_rfl)<|.takeO 2 rfl (.fieldAddr rfl) (by kernel_rfl)<|.takeO 3 rfl (.load1 rfl) (by kernel_rfl)<|.takeO 4 rfl (.load1 rfl) (by kernel_rfl) ?_
 refine .takeO 5 rfl (Quiet.cast (v' := .tuple [.agg (encT (w0, t0)).toArray, .bool (mget k A).isSome].toArray) (.lookup2 (rm.mono fun b o hb => .inr (by have hb' : (b, o) ∈ T0 := hb; simp [hb'])) rfl (show _ = some (Value.string k) from rfl)) (by rw [← hs0, ← hr0]; rfl)) (by kernel_rfl) ?_
 refine .takeO 6 rfl .move (by kernel_rfl)<|.takeO 7 rfl .extract (by kernel_rfl)<|.take 8 rfl .extract (by kernel_rfl) ?_
 refine RA.step 9 rfl (by kernel_rfl) rfl ?_
 refine .allocA (fun b7 => ?_)
 refine .nil (Next.sub ?_)
 refine RA.step 10 rfl (by kernel_rfl) rfl ?_
 refine .storeA rfl rfl ?_
 refine .nil (Next.mod rfl ?_)
 refine .take 11 rfl .assign (by kernel_rfl) ?_
 refine RA.nil (by kernel_rfl) ?_
 refine seqQ_n<|.seq<|.block<|.sr<|.mo rfl<|.q .not<|.ag rfl<|.zn ?_
 refine .cond rfl (fun h2 => ?_) (fun h2 => ?_)
 refine .sr<|.ag rfl<|.zn ?_
 refine .ret (blkQ_r (seqQ_r (retQ_r _ (.one (.tmp rfl)) ((HLe.pick [2, 2] _).trans (HLe.ofPerm (H' := [T0 ++ Td]) (by simp [take, dropAt]))) ?_)))
 ·have hm : mget k A = none := by simpa using h2
  have e : trev A k client = (0, A) := by unfold trev; rw [hm]
  rw [e]; exact ⟨_, rfl, rfl, h0⟩
 have hm : mget k A = some t0 := by
  have hsm : (mget k A).isSome = true := by simpa using h2
  obtain ⟨u, hu⟩ := Option.isSome_iff_exists.1 hsm
  exact (hu0 u hu).1 ▸ hu
 refine .sr<|.fa rfl<|.lo rfl<|.mo rfl<|.q .neS<|.ag rfl<|.zn ?_
 refine .cond rfl (fun h3 => ?_) (fun h3 => ?_)
 refine .sr<|.ag rfl<|.zn ?_
 refine .ret (blkQ_r (seqQ_r (retQ_r _ (.one (.tmp rfl)) ((HLe.pick [2, 2] _).trans (HLe.ofPerm (H' := [T0 ++ Td]) (by simp [take, dropAt]))) ?_)))
 ·have e : trev A k client = (20, A) := by unfold trev; rw [hm]; simp only; rw [if_pos (by simpa using h3)]
  rw [e]; exact ⟨_, rfl, rfl, h0⟩
 refine .sr<|.fa rfl<|.lo rfl<|.q .eqI<|.ag rfl<|.zn ?_
 refine .cond rfl (fun h4 => ?_) (fun h4 => ?_)
 refine .region<|.mo rfl<|.fa rfl<|.lo rfl ?_
 refine .callM (vcut_spec g A last Td T0 hJ0 t0.family _) (fun v T2 hv => ?_)
 obtain ⟨rfl, hV2⟩ := hv
 refine .nil<|blkQ_n<|seqQ_n<|.sr<|.ag rfl<|.zn ?_
 refine .ret (retQ_r _ (.one (.tmp rfl)) ((HLe.pick [2, 2] _).trans (HLe.ofPerm (H' := [T2 ++ Td]) (by simp [take, dropAt]))) ?_)
 ·have e : trev A k client = (0, A.filter fun x => !(x.2.family == t0.family)) := by unfold trev; rw [hm]; simp only; rw [if_neg (by simpa using h3), if_pos (by simpa using h4)]
  rw [e]; exact ⟨_, rfl, rfl, Td, T2, rfl, hV2⟩
 refine .region<|.mo rfl<|.q .makeFunc ?_
 refine .callW (vremove_spec g A last Td T0 hJ0 168 [.pointer (some ⟨b4, 0, none⟩)] (fun t => decide (t.text = k)) _ (fun w t hw R' hR => by
  have : PC R' (.pointer (some ⟨b4, 0, none⟩)) [.string k] := PC.of (E := 9) (fr := (0, 0)) (hR _ _ (.inr (by simp)))
  exact trev1_spec k b4 w t hw R')) (fun v T2 hv => ?_)
 obtain ⟨rfl, hV2⟩ := hv
 refine .nil<|blkQ_n<|seqQ_n<|.sr<|.ag rfl<|.zn ?_
 refine .ret (retQ_r _ (.one (.tmp rfl)) ((HLe.pick [2, 2] _).trans (HLe.ofPerm (H' := [T2 ++ Td]) (by simp [take, dropAt]))) ?_)
 ·have e : trev A k client = (0, A.filter fun x => !decide (x.2.text = k)) := by unfold trev; rw [hm]; simp only; rw [if_neg (by simpa using h3), if_neg (by simpa using h4)]
  rw [e]; exact ⟨_, rfl, rfl, Td, T2, rfl, hV2⟩
theorem sweep_step {β : Type} {M : List (ByteArray × β)} {Bs : List ByteArray} {k : ByteArray} : kdel k (M.filter fun x => decide (x.1 ∉ Bs)) = M.filter fun x => decide (x.1 ∉ Bs ++ [k]) := by
 unfold kdel
 rw [List.filter_filter]
 refine List.filter_congr fun x _ => ?_
 by_cases h : x.1 = k <;> simp [h]
theorem vsweep_spec (g : Nat) (A : List (ByteArray × Tok)) (last : Int) (T : Seg) (h : VI g A last T) (now : Int) (R : Rds) :
  Spec Tryz.prog 81 [.pointer (some ⟨g, 0, none⟩), .int .i64 now] R [T] fun v H' => ∃ T', H' = [T'] ∧ v = .tuple #[] ∧ VI g (A.filter fun x => decide (now < x.2.expires)) last T' := by
 have hAn := h.nd
 obtain ⟨Td, _, rfl, vm, M, q, Tm, Tq, rfl, hM, hI, hA, hQ⟩ := h
 obtain ⟨bm, rfl⟩ : ∃ b, vm = .map (some b) := by obtain ⟨b, es, clock, h1, _⟩ := hM; exact ⟨b, h1⟩
 refine Spec.segs (H' := [[(g, .cells [.map (some bm), .pointer (some ⟨q, 0, none⟩), .int .i64 last].toArray 102 (0, 0))], Tm, Tq, Td]) (by simp) ?_
 refine Spec.body Tryz.func81 rfl Tryz.results81 Tryz.ntmps81 rfl ?_
 refine .seq<|.sr<|.mo rfl ?_
 refine .callR (vok_spec g bm _ _ _) (fun v hv => ?_)
 subst hv
 refine .q .not<|.zn<|.condF<|.kn<|.sr<|.mo rfl<|.nc rfl<|.fa rfl<|.lo rfl<|.mo rfl ?_
 refine .call [2] (qdue_spec q _ Tq hQ now _) (fun u H' hu => ?_)
 obtain ⟨Tq2, To, B, A', rfl, hO, hQ2, hD, hD2⟩ := hu
 show TriOps _ _ _ _ _ _ _ [Tq2, To, [(g, .cells [.map (some bm), .pointer (some ⟨q, 0, none⟩), .int .i64 last].toArray 102 (0, 0))], Tm, Td] _
 have hOl := hO.le
 refine .q (.lenO hO) ?_
 refine .mo rfl<|.zn<|.block ?_
 refine .loop (X := Nat × List (ByteArray × TP) × Seg) (fun y => (y.1 ≤ B.length ∧ y.2.1 = M.filter fun x => decide (x.1 ∉ (B.map (·.1)).take y.1)) ∧ MS (fun s : ByteArray => .string s) (fun p : TP => .agg (encT p).toArray) (.map (some bm)) y.2.1 y.2.2) (fun y => [(0, .pointer (some ⟨g, 0, none⟩)), (14, u), (15, .int .i64 ((B.map (·.1)).length : Nat)), (16, .int .i64 (y.1 : Nat))]) (fun y => [Tq2, To, [(g, .cells [.map (some bm), .pointer (some ⟨q, 0, none⟩), .int .i64 last].toArray 102 (0, 0))], y.2.2, Td]) (fun y => B.length - y.1) (0, M, Tm) ⟨⟨by omega, by simp only [List.take_zero]; exact (List.filter_eq_self.2 fun x _ => by simp).symm⟩, hM⟩ (EnvLe.k4 rfl rfl rfl rfl) (HLe.refl _) ?_
 rintro ⟨i, M1, Tm1⟩ ⟨⟨hi, hM1e⟩, hM1⟩
 simp only at hi hM1e hM1 ⊢
 refine .sr<|.q .lss<|.zs ?_
 refine .cond rfl (fun h2 => ?_) (fun h2 => ?_)
 have hlt : i < (B.map (·.1)).length := by have := of_decide_eq_true h2; omega
 obtain ⟨k, hk⟩ : ∃ k, (B.map (·.1))[i]? = some k := ⟨_, List.getElem?_eq_getElem hlt⟩
 have hlt2 : i < B.length := by simpa using hlt
 refine .kn<|.seq<|.block<|.sr ?_
 refine .indexO i hO hk (fun p18 => ?_)
 refine .lo rfl<|.ag rfl<|.zn<|.region<|.mo rfl<|.nc rfl<|.fa rfl<|.lo rfl<|.mo rfl ?_
 refine .delete hM1 rfl (show _ = some (Value.string k) from rfl) (fun Tm2 hM2 _ => ?_)
 refine .nil<|blkQ_n<|seqQ_n<|.region ?_
 refine .q (.i64 ((i + 1 : Nat) : Int) .add ⟨by omega, by omega, by omega⟩) ?_
 refine .mo rfl<|.nil ?_
 ·exact loopQ_i (i + 1, mdel k M1, Tm2) ⟨⟨by simp only; omega, by simp only; rw [mdel_kdel hM1.nd, hM1e, sweep_step, List.take_add_one, hk]; rfl⟩, hM2⟩ (by simp only; omega) (EnvLe.k4 rfl rfl rfl rfl) (HLe.refl _)
 have hiB : i = B.length := by have := of_decide_eq_false h2; simp at this; omega
 have hM1f : M1 = M.filter fun x => decide (now < x.2.2.expires) := by
  rw [hM1e, hiB, List.take_of_length_le (by simp)]
  refine List.filter_congr fun x hx => ?_
  have hpm := hD.pm
  have hxA : (x.1, x.2.2) ∈ A := hA.mem_iff.1 (kmap_mem hx)
  have hxe : (x.1, x.2.2.expires) ∈ kmap (fun t : Tok => t.expires) A := kmap_mem hxA
  by_cases hle : now < x.2.2.expires
  ·have : x.1 ∉ B.map (·.1) := fun hm => by
    obtain ⟨p, hp, hpe⟩ := List.mem_map.1 hm
    have h5 : p ∈ kmap (fun t : Tok => t.expires) A := hpm.mem_iff.2 (List.mem_append_left _ hp)
    have h6 : mget x.1 (kmap (fun t : Tok => t.expires) A) = some p.2 := mget_of_mem (by rw [kmap_keys]; exact hAn) (by rw [← hpe]; exact h5)
    have h7 : mget x.1 (kmap (fun t : Tok => t.expires) A) = some x.2.2.expires := mget_of_mem (by rw [kmap_keys]; exact hAn) hxe
    rw [h6] at h7
    have h8 := hD.le p hp
    simp only [Option.some.injEq] at h7
    omega
   rw [decide_eq_true this, decide_eq_true hle]
  ·have : x.1 ∈ B.map (·.1) := by
    rcases List.mem_append.1 (hpm.mem_iff.1 hxe) with h5 | h5
    ·exact List.mem_map.2 ⟨_, h5, rfl⟩
    ·exact absurd (hD2 _ h5) hle
   rw [decide_eq_false hle, decide_eq_false (fun hh => hh this)]
 refine .exit<|seqQ_x<|loopQ_x<|blkQ_x ?_
 refine retQ_n _ .none ((HLe.pick [2, 2, 0, 1] _).trans (HLe.ofPerm (H' := [((g, .cells [.map (some bm), .pointer (some ⟨q, 0, none⟩), .int .i64 last].toArray 102 (0, 0)) :: (Tm1 ++ Tq2)) ++ Td]) (by simp [take, dropAt]))) ?_
 ·refine ⟨_, rfl, rfl, Td, _, rfl, _, M1, q, Tm1, Tq2, rfl, hM1, fun p hp => hI p (List.mem_filter.1 (hM1f ▸ hp)).1, ?_, ?_⟩
  ·rw [hM1f, ← kmap_filter (q := fun t : Tok => decide (now < t.expires))]
   exact hA.filter _
  ·refine hQ2.perm ((hD.filter hD2).trans (List.Perm.of_eq ?_))
   exact kmap_filter (f := fun t : Tok => t.expires) (q := fun z : Int => decide (now < z))
theorem tput_zero {A : List (ByteArray × Tok)} {last : Int} {t : Tok} (h : (tput A last t).1 = 0) : (tput A last t).2 = kset t.text t.fresh A ∧ mget t.text A = none ∧ rightB t last = true := by
 unfold tput at h ⊢
 split at h
 ·cases h
 ·split at h
  ·cases h
  ·split at h
   ·cases h
   ·rename_i h1 h2 h3
    rw [if_neg h1, if_neg h2, if_neg h3]
    exact ⟨rfl, by simpa using h2, by simpa using h1⟩
theorem tput_else {A : List (ByteArray × Tok)} {last : Int} {t : Tok} (h : (tput A last t).1 ≠ 0) : (tput A last t).2 = A := by
 unfold tput at h ⊢
 split
 ·rfl
 ·split
  ·rfl
  ·split
   ·rfl
   ·rename_i h1 h2 h3
    rw [if_neg h1, if_neg h2, if_neg h3] at h
    exact absurd rfl h
structure CmpOK {α : Type} (c : α → α → Int) : Prop where
 sw : ∀ x y, c x y < 0 ↔ 0 < c y x
 tr : ∀ x y z, c x y ≤ 0 → c y z ≤ 0 → c x z ≤ 0
 tl : ∀ x y z, c x y < 0 → c y z ≤ 0 → c x z < 0
section
variable {α β : Type} {c d : α → α → Int}
theorem CmpOK.refl (h : CmpOK c) (x : α) : c x x = 0 := by have := h.sw x x; omega
theorem CmpOK.zero_sw (h : CmpOK c) {x y : α} (h0 : c x y = 0) : c y x = 0 := by have h1 := h.sw x y; have h2 := h.sw y x; omega
theorem CmpOK.t2 (h : CmpOK c) (x y z : α) (h1 : c x y ≤ 0) (h2 : c y z < 0) : c x z < 0 := by
 have h3 := h.tr x y z h1 (by omega)
 rcases Int.lt_or_eq_of_le h3 with h4 | h4
 ·exact h4
 ·have h5 := h.zero_sw h4
  have h6 := h.tl y z x h2 (by omega)
  have h7 := (h.sw y x).1 h6
  omega
theorem CmpOK.map (h : CmpOK c) (f : β → α) : CmpOK (fun x y => c (f x) (f y)) := ⟨fun x y => h.sw _ _, fun x y z => h.tr _ _ _, fun x y z => h.tl _ _ _⟩
theorem CmpOK.so (h : CmpOK c) : SO (ltc c) where
 irr x := by unfold ltc; rw [h.refl]; rfl
 tr x y z h1 h2 := by
  unfold ltc at *
  have h1 := of_decide_eq_true h1
  have h2 := of_decide_eq_true h2
  exact decide_eq_true (h.tl x y z h1 (by omega))
 ntr x y z h1 h2 := by
  unfold ltc at *
  have h1 := of_decide_eq_false h1
  have h2 := of_decide_eq_false h2
  refine decide_eq_false fun h3 => ?_
  have e1 : c y x ≤ 0 := by have := h.sw y x; have := h.sw x y; omega
  have e2 : c z y ≤ 0 := by have := h.sw y z; have := h.sw z y; omega
  have e3 := h.tr z y x e2 e1
  have e4 := (h.sw x z).1 h3
  omega
end
theorem scmp_ok : CmpOK scmp where
 sw x y := by rw [← sLt_iff, ← sLt_iff']
 tr x y z h1 h2 := by
  have e1 : sLt y x = false := Bool.eq_false_iff.2 fun h => by have := sLt_iff'.1 h; omega
  have e2 : sLt z y = false := Bool.eq_false_iff.2 fun h => by have := sLt_iff'.1 h; omega
  have e3 := sLt_so.ntr z y x e2 e1
  rcases Int.lt_or_le 0 (scmp x z) with h | h
  ·rw [sLt_iff'.2 h] at e3; cases e3
  ·exact h
 tl x y z h1 h2 := by
  have e1 := sLt_iff.2 h1
  rcases Int.lt_or_eq_of_le h2 with h | h
  ·exact sLt_iff.1 (sLt_trans e1 (sLt_iff.2 h))
  ·rw [scmp_eq] at h; subst h; exact h1
def GPok (p : GP) : Prop := ∀ u ∈ encG p, oneCell u = true
def gcmp (p q : GP) : Int := scmp p.2.text q.2.text
theorem gcmp_spec (p q : GP) (R : Rds) (hp : GPok p) (hq : GPok q) : Spec Tryz.prog 53 [.agg (encG p).toArray, .agg (encG q).toArray] R [] fun v H' => v = .int .i64 (gcmp p q) ∧ H' = [] := by
 have i1 : Ones (encG p) := ⟨hp⟩
 have i2 : Ones (encG q) := ⟨hq⟩
 refine Spec.body Tryz.func53 rfl Tryz.results53 Tryz.ntmps53 rfl ?_
 refine .sr ?_
 refine .boxA rfl (fun b2 => ?_)
 refine .boxA rfl (fun b3 => ?_)
 refine .ag rfl<|.z<|.fa rfl<|.lo rfl<|.fa rfl<|.lo rfl ?_
 refine .callR (compare_spec p.2.text q.2.text _) (fun v hv => ?_)
 subst hv
 refine .ag rfl<|.zn ?_
 refine .ret (retQ_r _ (.one (.tmp rfl)) (.none _) ?_)
 ·exact ⟨rfl, rfl⟩
theorem ltc_gcmp (p q : GP) : ltc gcmp p q = sLt p.2.text q.2.text := by
 unfold ltc gcmp
 rw [Bool.eq_iff_iff, sLt_iff, decide_eq_true_eq]
theorem gcmp_so : SO (ltc gcmp) := ⟨fun x => by rw [ltc_gcmp]; exact sLt_so.irr _, fun x y z h1 h2 => by rw [ltc_gcmp] at *; exact sLt_so.tr _ _ _ h1 h2, fun x y z h1 h2 => by rw [ltc_gcmp] at *; exact sLt_so.ntr _ _ _ h1 h2⟩
def TPok (p : TP) : Prop := ∀ u ∈ encT p, oneCell u = true
def tcmp (p q : TP) : Int := scmp p.2.text q.2.text
theorem tcmp_spec (p q : TP) (R : Rds) (hp : TPok p) (hq : TPok q) : Spec Tryz.prog 48 [.agg (encT p).toArray, .agg (encT q).toArray] R [] fun v H' => v = .int .i64 (tcmp p q) ∧ H' = [] := by
 have i1 : Ones (encT p) := ⟨hp⟩
 have i2 : Ones (encT q) := ⟨hq⟩
 refine Spec.body Tryz.func48 rfl Tryz.results48 Tryz.ntmps48 rfl ?_
 refine .sr ?_
 refine .boxA rfl (fun b2 => ?_)
 refine .boxA rfl (fun b3 => ?_)
 refine .ag rfl<|.z<|.fa rfl<|.lo rfl<|.fa rfl<|.lo rfl ?_
 refine .callR (compare_spec p.2.text q.2.text _) (fun v hv => ?_)
 subst hv
 refine .ag rfl<|.zn ?_
 refine .ret (retQ_r _ (.one (.tmp rfl)) (.none _) ?_)
 ·exact ⟨rfl, rfl⟩
theorem ltc_tcmp (p q : TP) : ltc tcmp p q = sLt p.2.text q.2.text := by
 unfold ltc tcmp
 rw [Bool.eq_iff_iff, sLt_iff, decide_eq_true_eq]
theorem tcmp_so : SO (ltc tcmp) := ⟨fun x => by rw [ltc_tcmp]; exact sLt_so.irr _, fun x y z h1 h2 => by rw [ltc_tcmp] at *; exact sLt_so.tr _ _ _ h1 h2, fun x y z h1 h2 => by rw [ltc_tcmp] at *; exact sLt_so.ntr _ _ _ h1 h2⟩
end Go.Proofs.YtkagfkbkpiebjaaGreatDoor
