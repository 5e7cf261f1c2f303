/- Clients: which are right, by the program and by the document. No condition. -/
import Derived.Test.YtlmdgdehjpahiaaTxt
import Derived.Test.YtlmdgdehjpahiaaTup
import Derived.Test.YtlmdgdehjpahiaaShelfC
set_option linter.unusedVariables false
set_option maxRecDepth 4000
namespace Go.Proofs.Ytlmdgdehjpahiaa

def zSeen (z : Int) : Bool := decide (33 ≤ z) && decide (z ≤ 126)
def zHash (z : Int) : Bool := z != 35
def https : ByteArray := ⟨#[104, 116, 116, 112, 115, 58, 47, 47]⟩
def isAddr (s : ByteArray) : Bool := decide (9 ≤ s.size) && decide (s.size ≤ 200) && bAll s zSeen && bAll s zHash && decide (s.extract 0 8 = https)
def isSecret (s : ByteArray) : Bool := decide (s = ⟨#[]⟩) || (decide (8 ≤ s.size) && decide (s.size ≤ 64) && bAll s zSeen)
structure Cli where
  id : ByteArray
  secret : ByteArray
  uris : List ByteArray
  scopes : List ByteArray
def Cli.check (c : Cli) : Int :=
  if isID c.id = false then 9 else if isSecret c.secret = false then 4
  else if c.uris.length < 1 ∨ 8 < c.uris.length ∨ ¬ c.uris.Nodup ∨ c.uris.all isAddr = false then 4
  else if 16 < c.scopes.length ∨ ¬ c.scopes.Nodup ∨ c.scopes.all isWord = false then 4 else 0
/-- The texts are no longer than texts can be. -/
def Cli.fits (c : Cli) : Prop := c.id.size ≤ 9223372036854775807 ∧ c.secret.size ≤ 9223372036854775807 ∧ (∀ s ∈ c.uris, s.size ≤ 9223372036854775807) ∧ ∀ s ∈ c.scopes, s.size ≤ 9223372036854775807

theorem index_hash : ∀ (l : List UInt8), decide (0 ≤ Lib.indexByte l 35) = !(l.all fun c => zHash (c.toNat : Int))
  | [] => rfl
  | b :: l => by
    have ih := index_hash l
    have hge := Lib.indexByte_ge l 35
    unfold Lib.indexByte
    rw [List.all_cons]
    by_cases hb : b = 35
    · subst hb; simp [zHash]
    · have h1 : (b == 35) = false := by simpa using hb
      have h2 : zHash (b.toNat : Int) = true := by
        have : b.toNat ≠ 35 := fun e => hb (UInt8.toNat_inj.1 e)
        simp [zHash]; omega
      rw [h1, h2, Bool.true_and, ← ih]
      simp only [Bool.false_eq_true, if_false]
      by_cases h3 : Lib.indexByte l 35 = -1
      · simp [h3]
      · have : (Lib.indexByte l 35 == -1) = false := by simpa using h3
        rw [this]
        simp only [Bool.false_eq_true, if_false]
        rw [Bool.eq_iff_iff]; simp; omega
theorem hasHash_spec (s : ByteArray) (R : Rds) : Spec Try.prog 111 [.string s, .string ⟨#[35]⟩] R [] fun v H' => v = .bool (!bAll s zHash) ∧ H' = [] :=
  (Spec.ofCalls (Try.strings_Contains_one s 35) R).mono fun v H' ⟨h1, h2⟩ => ⟨by rw [h1, index_hash]; rfl, h2⟩
theorem pre_spec (s : ByteArray) (R : Rds) (h : 8 ≤ s.size) : Spec Try.prog 112 [.string s, .string https] R [] fun v H' => v = .bool (decide (s.extract 0 8 = https)) ∧ H' = [] :=
  (Spec.ofCalls (Try.strings_HasPrefix s https) R).mono fun v H' ⟨h1, h2⟩ => ⟨by
    rw [h1, ← Lib.hasPrefix_raw, beq_str, show https.size = 8 from rfl, decide_eq_true h, Bool.true_and], h2⟩
theorem seen_spec (s : ByteArray) (hs : s.size ≤ 9223372036854775807) (R : Rds) : Spec Try.prog 108 [.string s] R [] fun v H' => v = .bool (bAll s zSeen) ∧ H' = [] := by
  refine Spec.body Try.func108 rfl Try.results108 Try.ntmps108 rfl ?_
  refine .seq ?_
  refine .region ?_
  refine TriOps.q .assign ?_
  refine .nil ?_
  refine seqQ_n ?_
  refine .seq ?_
  refine .seq ?_
  refine .region ?_
  refine TriOps.q .move ?_
  refine TriOps.q .lenS ?_
  refine TriOps.q .move ?_
  refine .nil ?_
  refine seqQ_n ?_
  refine .block ?_
  refine .loop (X := Nat) (fun i => i ≤ s.size ∧ ∀ j (hj : j < s.size), j < i → zSeen (s[j]'hj).toNat = true) (fun i => [(0, .string s), (5, .int .i64 (s.size : Nat)), (6, .int .i64 (i : Nat))]) (fun _ => []) (fun i => s.size - i) 0 ⟨by omega, by omega⟩ ((((EnvLe.nil _).cons rfl).cons rfl).cons rfl) (HLe.refl _) ?_
  rintro i ⟨hi, hp⟩
  refine .seq ?_
  refine .region ?_
  refine TriOps.q .lss ?_
  refine .nil ?_
  refine seqQ_n ?_
  refine .seq ?_
  refine .cond rfl (fun h1 => ?_) (fun h1 => ?_)
  · skip
    have hlt : i < s.size := by simp at h1; omega
    refine .skip ?_
    refine seqQ_n ?_
    refine .seq ?_
    refine .block ?_
    refine .seq ?_
    refine .region ?_
    refine TriOps.q .move ?_
    refine TriOps.q .assign ?_
    refine .nil ?_
    refine seqQ_n ?_
    refine .seq ?_
    refine .region ?_
    refine TriOps.q .move ?_
    refine TriOps.q .move ?_
    refine TriOps.q (.indexS i hlt) ?_
    refine TriOps.q .lss ?_
    refine TriOps.q .move ?_
    refine TriOps.split (t := 13) rfl (fun g4_4 => ?_) (fun g4_4 => ?_)
    · skip
      refine TriOps.gF g4_4 ?_
      refine TriOps.gF g4_4 ?_
      refine TriOps.gF g4_4 ?_
      refine TriOps.gF g4_4 ?_
      refine TriOps.q (.pickTh g4_4) ?_
      refine .nil ?_
      refine seqQ_n ?_
      refine .condT ?_
      refine .seq ?_
      refine .region ?_
      refine TriOps.q .assign ?_
      refine .nil ?_
      refine seqQ_n ?_
      refine .ret (blkQ_r (seqQ_r (loopQ_r (blkQ_r (seqQ_r (retQ_r _ (.one (.tmp rfl)) (.none _) ?_))))))
      refine ⟨?_, rfl⟩
      first
        | rw [hb]
        | rw [bAll_false hlt (by clear hp; simp at g4_4; simp [zSeen]; omega)]
        | rw [bAll_false hlt (by clear hp; simp at h2; simp [zSeen]; omega)]
    · skip
      refine TriOps.gT g4_4 ?_
      refine TriOps.q .move ?_
      refine TriOps.gT g4_4 ?_
      refine TriOps.q .move ?_
      refine TriOps.gT g4_4 ?_
      refine TriOps.q (.indexS i hlt) ?_
      refine TriOps.gT g4_4 ?_
      refine TriOps.q .gtr ?_
      refine TriOps.q (.pickFh g4_4) ?_
      refine .nil ?_
      refine seqQ_n ?_
      refine .cond rfl (fun h2 => ?_) (fun h2 => ?_)
      · skip
        refine .seq ?_
        refine .region ?_
        refine TriOps.q .assign ?_
        refine .nil ?_
        refine seqQ_n ?_
        refine .ret (blkQ_r (seqQ_r (loopQ_r (blkQ_r (seqQ_r (retQ_r _ (.one (.tmp rfl)) (.none _) ?_))))))
        refine ⟨?_, rfl⟩
        first
          | rw [hb]
          | rw [bAll_false hlt (by clear hp; simp at g4_4; simp [zSeen]; omega)]
          | rw [bAll_false hlt (by clear hp; simp at h2; simp [zSeen]; omega)]
      · skip
        refine .skip ?_
        refine blkQ_n (seqQ_n ?_)
        refine .region ?_
        refine TriOps.q (.inc (n := i) (by omega)) ?_
        refine TriOps.q .move ?_
        refine .nil ?_
        exact loopQ_i (i + 1) ⟨by omega, fun j hj hji => by
          rcases Nat.lt_or_ge j i with hh | hh
          · exact hp j hj hh
          · obtain rfl : j = i := by omega
            clear hp
            simp at g4_4 h2; simp [zSeen]; omega⟩ (by omega) ((((EnvLe.nil _).cons rfl).cons rfl).cons rfl) (HLe.refl _)
  · skip
    have hb : bAll s zSeen = true := bAll_true fun j hj => hp j hj (by simp at h1; omega)
    refine .exit (seqQ_x (loopQ_x (blkQ_x ?_)))
    refine seqQ_n ?_
    refine .seq ?_
    refine .region ?_
    refine TriOps.q .assign ?_
    refine .nil ?_
    refine seqQ_n ?_
    refine .ret (retQ_r _ (.one (.tmp rfl)) (.none _) ?_)
    refine ⟨?_, rfl⟩
    first
      | rw [hb]
      | rw [bAll_false hlt (by clear hp; simp at g4_4; simp [zSeen]; omega)]
      | rw [bAll_false hlt (by clear hp; simp at h2; simp [zSeen]; omega)]
theorem plain_spec (s : ByteArray) (hs : s.size ≤ 9223372036854775807) (R : Rds) : Spec Try.prog 75 [.string s] R [] fun v H' => v = .bool (bAll s zSeen) ∧ H' = [] := by
  refine Spec.body Try.func75 rfl Try.results75 Try.ntmps75 rfl ?_
  refine .seq ?_
  refine .region ?_
  refine TriOps.q .assign ?_
  refine .nil ?_
  refine seqQ_n ?_
  refine .seq ?_
  refine .seq ?_
  refine .region ?_
  refine TriOps.q .assign ?_
  refine .nil ?_
  refine seqQ_n ?_
  refine .block ?_
  refine .loop (X := Nat) (fun i => i ≤ s.size ∧ ∀ j (hj : j < s.size), j < i → zSeen (s[j]'hj).toNat = true) (fun i => [(0, .string s), (3, .int .i64 (i : Nat))]) (fun _ => []) (fun i => s.size - i) 0 ⟨by omega, by omega⟩ (((EnvLe.nil _).cons rfl).cons rfl) (HLe.refl _) ?_
  rintro i ⟨hi, hp⟩
  refine .seq ?_
  refine .seq ?_
  refine .region ?_
  refine TriOps.q .move ?_
  refine TriOps.q .move ?_
  refine TriOps.q .lenS ?_
  refine TriOps.q .lss ?_
  refine .nil ?_
  refine seqQ_n ?_
  refine .cond rfl (fun h1 => ?_) (fun h1 => ?_)
  · skip
    have hlt : i < s.size := by simp at h1; omega
    refine .skip ?_
    refine seqQ_n ?_
    refine .seq ?_
    refine .block ?_
    refine .seq ?_
    refine .region ?_
    refine TriOps.q .move ?_
    refine TriOps.q .move ?_
    refine TriOps.q (.indexS i hlt) ?_
    refine TriOps.q .lss ?_
    refine TriOps.q .move ?_
    refine TriOps.split (t := 14) rfl (fun g4_4 => ?_) (fun g4_4 => ?_)
    · skip
      refine TriOps.gF g4_4 ?_
      refine TriOps.gF g4_4 ?_
      refine TriOps.gF g4_4 ?_
      refine TriOps.gF g4_4 ?_
      refine TriOps.q (.pickTh g4_4) ?_
      refine .nil ?_
      refine seqQ_n ?_
      refine .condT ?_
      refine .seq ?_
      refine .region ?_
      refine TriOps.q .assign ?_
      refine .nil ?_
      refine seqQ_n ?_
      refine .ret (blkQ_r (seqQ_r (loopQ_r (blkQ_r (seqQ_r (retQ_r _ (.one (.tmp rfl)) (.none _) ?_))))))
      refine ⟨?_, rfl⟩
      first
        | rw [hb]
        | rw [bAll_false hlt (by clear hp; simp at g4_4; simp [zSeen]; omega)]
        | rw [bAll_false hlt (by clear hp; simp at h2; simp [zSeen]; omega)]
    · skip
      refine TriOps.gT g4_4 ?_
      refine TriOps.q .move ?_
      refine TriOps.gT g4_4 ?_
      refine TriOps.q .move ?_
      refine TriOps.gT g4_4 ?_
      refine TriOps.q (.indexS i hlt) ?_
      refine TriOps.gT g4_4 ?_
      refine TriOps.q .gtr ?_
      refine TriOps.q (.pickFh g4_4) ?_
      refine .nil ?_
      refine seqQ_n ?_
      refine .cond rfl (fun h2 => ?_) (fun h2 => ?_)
      · skip
        refine .seq ?_
        refine .region ?_
        refine TriOps.q .assign ?_
        refine .nil ?_
        refine seqQ_n ?_
        refine .ret (blkQ_r (seqQ_r (loopQ_r (blkQ_r (seqQ_r (retQ_r _ (.one (.tmp rfl)) (.none _) ?_))))))
        refine ⟨?_, rfl⟩
        first
          | rw [hb]
          | rw [bAll_false hlt (by clear hp; simp at g4_4; simp [zSeen]; omega)]
          | rw [bAll_false hlt (by clear hp; simp at h2; simp [zSeen]; omega)]
      · skip
        refine .skip ?_
        refine blkQ_n (seqQ_n ?_)
        refine .region ?_
        refine TriOps.q .move ?_
        refine TriOps.q (.inc (n := i) (by omega)) ?_
        refine TriOps.q .assign ?_
        refine .nil ?_
        exact loopQ_i (i + 1) ⟨by omega, fun j hj hji => by
          rcases Nat.lt_or_ge j i with hh | hh
          · exact hp j hj hh
          · obtain rfl : j = i := by omega
            clear hp
            simp at g4_4 h2; simp [zSeen]; omega⟩ (by omega) (((EnvLe.nil _).cons rfl).cons rfl) (HLe.refl _)
  · skip
    have hb : bAll s zSeen = true := bAll_true fun j hj => hp j hj (by simp at h1; omega)
    refine .exit (seqQ_x (loopQ_x (blkQ_x ?_)))
    refine seqQ_n ?_
    refine .seq ?_
    refine .region ?_
    refine TriOps.q .assign ?_
    refine .nil ?_
    refine seqQ_n ?_
    refine .ret (retQ_r _ (.one (.tmp rfl)) (.none _) ?_)
    refine ⟨?_, rfl⟩
    first
      | rw [hb]
      | rw [bAll_false hlt (by clear hp; simp at g4_4; simp [zSeen]; omega)]
      | rw [bAll_false hlt (by clear hp; simp at h2; simp [zSeen]; omega)]
theorem isAddr_short {s : ByteArray} (h : s.size < 9 ∨ 200 < s.size) : isAddr s = false := by
  unfold isAddr
  rcases h with h | h
  · rw [decide_eq_false (show ¬ 9 ≤ s.size by omega)]; simp
  · rw [decide_eq_false (show ¬ s.size ≤ 200 by omega)]; simp
theorem isAddr_seen {s : ByteArray} (h : bAll s zSeen = false) : isAddr s = false := by
  unfold isAddr; rw [h]; simp
theorem isAddr_hash {s : ByteArray} (h : bAll s zHash = false) : isAddr s = false := by
  unfold isAddr; rw [h]; simp
theorem isAddr_pre {s : ByteArray} (h : s.extract 0 8 ≠ https) : isAddr s = false := by
  unfold isAddr; rw [decide_eq_false h]; simp
theorem isAddr_of {s : ByteArray} (h1 : 9 ≤ s.size) (h2 : s.size ≤ 200) (h3 : bAll s zSeen = true) (h4 : bAll s zHash = true) : isAddr s = decide (s.extract 0 8 = https) := by
  unfold isAddr; rw [decide_eq_true h1, decide_eq_true h2, h3, h4]; simp
theorem addr_spec (s : ByteArray) (hs : s.size ≤ 9223372036854775807) (R : Rds) : Spec Try.prog 72 [.string s] R [] fun v H' => v = .bool (isAddr s) ∧ H' = [] := by
  refine Spec.body Try.func72 rfl Try.results72 Try.ntmps72 rfl ?_
  refine .seq ?_
  refine .region ?_
  refine TriOps.q .assign ?_
  refine .nil ?_
  refine seqQ_n ?_
  refine .seq ?_
  refine .region ?_
  refine TriOps.q .move ?_
  refine TriOps.q .lenS ?_
  refine TriOps.q .geq ?_
  refine TriOps.q .move ?_
  refine TriOps.split (t := 6) rfl (fun g1_3 => ?_) (fun g1_3 => ?_)
  · skip
    refine TriOps.gT g1_3 ?_
    refine TriOps.q .move ?_
    refine TriOps.gT g1_3 ?_
    refine TriOps.q .lenS ?_
    refine TriOps.gT g1_3 ?_
    refine TriOps.q .leq ?_
    refine TriOps.q (.pickTh g1_3) ?_
    refine TriOps.q .move ?_
    refine TriOps.split (t := 11) rfl (fun g1_8 => ?_) (fun g1_8 => ?_)
    · skip
      refine TriOps.gT g1_8 ?_
      refine TriOps.q .move ?_
      refine TriOps.gT g1_8 ?_
      refine TriOps.callR (seen_spec s hs _) (fun v hv => ?_)
      subst hv
      refine TriOps.q (.pickTh g1_8) ?_
      refine TriOps.q .move ?_
      refine TriOps.split (t := 15) rfl (fun g1_12 => ?_) (fun g1_12 => ?_)
      · skip
        refine TriOps.gT g1_12 ?_
        refine TriOps.q .move ?_
        refine TriOps.gT g1_12 ?_
        refine TriOps.callR (hasHash_spec s _) (fun v hv => ?_)
        subst hv
        refine TriOps.gT g1_12 ?_
        refine TriOps.q .not ?_
        refine TriOps.q (.pickTh g1_12) ?_
        refine TriOps.q .move ?_
        refine TriOps.split (t := 20) rfl (fun g1_17 => ?_) (fun g1_17 => ?_)
        · skip
          refine TriOps.gT g1_17 ?_
          refine TriOps.q .move ?_
          refine TriOps.gT g1_17 ?_
          have h9 : 8 ≤ s.size := by simp at g1_3; omega
          refine TriOps.callR (pre_spec s _ h9) (fun v hv => ?_)
          subst hv
          refine TriOps.q (.pickTh g1_17) ?_
          refine TriOps.q .assign ?_
          refine .nil ?_
          refine seqQ_n ?_
          refine .ret (retQ_r _ (.one (.tmp rfl)) (.none _) ?_)
          refine ⟨?_, rfl⟩
          first
            | rw [isAddr_short (by simp at g1_3; omega)]
            | rw [isAddr_short (by simp at g1_8; omega)]
            | rw [isAddr_seen g1_12]
            | rw [isAddr_hash (by simpa using g1_17)]
            | rw [isAddr_of (by simp at g1_3; omega) (by simp at g1_8; omega) g1_12 (by simpa using g1_17)]
        · skip
          refine TriOps.gF g1_17 ?_
          refine TriOps.gF g1_17 ?_
          refine TriOps.q (.pickFh g1_17) ?_
          refine TriOps.q .assign ?_
          refine .nil ?_
          refine seqQ_n ?_
          refine .ret (retQ_r _ (.one (.tmp rfl)) (.none _) ?_)
          refine ⟨?_, rfl⟩
          first
            | rw [isAddr_short (by simp at g1_3; omega)]
            | rw [isAddr_short (by simp at g1_8; omega)]
            | rw [isAddr_seen g1_12]
            | rw [isAddr_hash (by simpa using g1_17)]
            | rw [isAddr_of (by simp at g1_3; omega) (by simp at g1_8; omega) g1_12 (by simpa using g1_17)]
      · skip
        refine TriOps.gF g1_12 ?_
        refine TriOps.gF g1_12 ?_
        refine TriOps.gF g1_12 ?_
        refine TriOps.q (.pickFh g1_12) ?_
        refine TriOps.q .move ?_
        refine TriOps.gf rfl rfl ?_
        refine TriOps.gf rfl rfl ?_
        refine TriOps.q .pickF ?_
        refine TriOps.q .assign ?_
        refine .nil ?_
        refine seqQ_n ?_
        refine .ret (retQ_r _ (.one (.tmp rfl)) (.none _) ?_)
        refine ⟨?_, rfl⟩
        first
          | rw [isAddr_short (by simp at g1_3; omega)]
          | rw [isAddr_short (by simp at g1_8; omega)]
          | rw [isAddr_seen g1_12]
          | rw [isAddr_hash (by simpa using g1_17)]
          | rw [isAddr_of (by simp at g1_3; omega) (by simp at g1_8; omega) g1_12 (by simpa using g1_17)]
    · skip
      refine TriOps.gF g1_8 ?_
      refine TriOps.gF g1_8 ?_
      refine TriOps.q (.pickFh g1_8) ?_
      refine TriOps.q .move ?_
      refine TriOps.gf rfl rfl ?_
      refine TriOps.gf rfl rfl ?_
      refine TriOps.gf rfl rfl ?_
      refine TriOps.q .pickF ?_
      refine TriOps.q .move ?_
      refine TriOps.gf rfl rfl ?_
      refine TriOps.gf rfl rfl ?_
      refine TriOps.q .pickF ?_
      refine TriOps.q .assign ?_
      refine .nil ?_
      refine seqQ_n ?_
      refine .ret (retQ_r _ (.one (.tmp rfl)) (.none _) ?_)
      refine ⟨?_, rfl⟩
      first
        | rw [isAddr_short (by simp at g1_3; omega)]
        | rw [isAddr_short (by simp at g1_8; omega)]
        | rw [isAddr_seen g1_12]
        | rw [isAddr_hash (by simpa using g1_17)]
        | rw [isAddr_of (by simp at g1_3; omega) (by simp at g1_8; omega) g1_12 (by simpa using g1_17)]
  · skip
    refine TriOps.gF g1_3 ?_
    refine TriOps.gF g1_3 ?_
    refine TriOps.gF g1_3 ?_
    refine TriOps.q (.pickFh g1_3) ?_
    refine TriOps.q .move ?_
    refine TriOps.gf rfl rfl ?_
    refine TriOps.gf rfl rfl ?_
    refine TriOps.q .pickF ?_
    refine TriOps.q .move ?_
    refine TriOps.gf rfl rfl ?_
    refine TriOps.gf rfl rfl ?_
    refine TriOps.gf rfl rfl ?_
    refine TriOps.q .pickF ?_
    refine TriOps.q .move ?_
    refine TriOps.gf rfl rfl ?_
    refine TriOps.gf rfl rfl ?_
    refine TriOps.q .pickF ?_
    refine TriOps.q .assign ?_
    refine .nil ?_
    refine seqQ_n ?_
    refine .ret (retQ_r _ (.one (.tmp rfl)) (.none _) ?_)
    refine ⟨?_, rfl⟩
    first
      | rw [isAddr_short (by simp at g1_3; omega)]
      | rw [isAddr_short (by simp at g1_8; omega)]
      | rw [isAddr_seen g1_12]
      | rw [isAddr_hash (by simpa using g1_17)]
      | rw [isAddr_of (by simp at g1_3; omega) (by simp at g1_8; omega) g1_12 (by simpa using g1_17)]
theorem raddr_spec (s : ByteArray) (hs : s.size ≤ 9223372036854775807) (R : Rds) : Spec Try.prog 77 [.string s] R [] fun v H' => v = .bool (isAddr s) ∧ H' = [] := by
  refine Spec.body Try.func77 rfl Try.results77 Try.ntmps77 rfl ?_
  refine .seq ?_
  refine .region ?_
  refine TriOps.q .assign ?_
  refine .nil ?_
  refine seqQ_n ?_
  refine .seq ?_
  refine .seq ?_
  refine .region ?_
  refine TriOps.q .move ?_
  refine TriOps.q .lenS ?_
  refine TriOps.q .lss ?_
  refine TriOps.q .move ?_
  refine TriOps.split (t := 7) rfl (fun g1_3 => ?_) (fun g1_3 => ?_)
  · skip
    refine TriOps.gF g1_3 ?_
    refine TriOps.gF g1_3 ?_
    refine TriOps.gF g1_3 ?_
    refine TriOps.q (.pickTh g1_3) ?_
    refine TriOps.q .move ?_
    refine TriOps.gf rfl rfl ?_
    refine TriOps.gf rfl rfl ?_
    refine TriOps.gf rfl rfl ?_
    refine TriOps.q .pickT ?_
    refine TriOps.q .move ?_
    refine TriOps.gf rfl rfl ?_
    refine TriOps.gf rfl rfl ?_
    refine TriOps.gf rfl rfl ?_
    refine TriOps.q .pickT ?_
    refine .nil ?_
    refine seqQ_n ?_
    refine .condT ?_
    refine .seq ?_
    refine .region ?_
    refine TriOps.q .assign ?_
    refine .nil ?_
    refine seqQ_n ?_
    refine .ret (seqQ_r (retQ_r _ (.one (.tmp rfl)) (.none _) ?_))
    refine ⟨?_, rfl⟩
    first
      | rw [isAddr_of hsz.1 hsz.2 hse hb, decide_eq_true hpre]
      | rw [isAddr_hash (bAll_false hlt (by clear hp; simp at h3; simp [zHash]; omega))]
      | rw [isAddr_short (by simp at g1_3; omega)]
      | rw [isAddr_short (by simp at g1_8; omega)]
      | rw [isAddr_seen (by simpa using g1_13)]
      | rw [isAddr_pre (by simpa [https] using h1)]
  · skip
    refine TriOps.gT g1_3 ?_
    refine TriOps.q .move ?_
    refine TriOps.gT g1_3 ?_
    refine TriOps.q .lenS ?_
    refine TriOps.gT g1_3 ?_
    refine TriOps.q .gtr ?_
    refine TriOps.q (.pickFh g1_3) ?_
    refine TriOps.q .move ?_
    refine TriOps.split (t := 12) rfl (fun g1_8 => ?_) (fun g1_8 => ?_)
    · skip
      refine TriOps.gF g1_8 ?_
      refine TriOps.gF g1_8 ?_
      refine TriOps.gF g1_8 ?_
      refine TriOps.q (.pickTh g1_8) ?_
      refine TriOps.q .move ?_
      refine TriOps.gf rfl rfl ?_
      refine TriOps.gf rfl rfl ?_
      refine TriOps.gf rfl rfl ?_
      refine TriOps.q .pickT ?_
      refine .nil ?_
      refine seqQ_n ?_
      refine .condT ?_
      refine .seq ?_
      refine .region ?_
      refine TriOps.q .assign ?_
      refine .nil ?_
      refine seqQ_n ?_
      refine .ret (seqQ_r (retQ_r _ (.one (.tmp rfl)) (.none _) ?_))
      refine ⟨?_, rfl⟩
      first
        | rw [isAddr_of hsz.1 hsz.2 hse hb, decide_eq_true hpre]
        | rw [isAddr_hash (bAll_false hlt (by clear hp; simp at h3; simp [zHash]; omega))]
        | rw [isAddr_short (by simp at g1_3; omega)]
        | rw [isAddr_short (by simp at g1_8; omega)]
        | rw [isAddr_seen (by simpa using g1_13)]
        | rw [isAddr_pre (by simpa [https] using h1)]
    · skip
      refine TriOps.gT g1_8 ?_
      refine TriOps.q .move ?_
      refine TriOps.gT g1_8 ?_
      refine TriOps.callR (plain_spec s hs _) (fun v hv => ?_)
      subst hv
      refine TriOps.gT g1_8 ?_
      refine TriOps.q .not ?_
      refine TriOps.q (.pickFh g1_8) ?_
      refine TriOps.q .move ?_
      refine TriOps.split (t := 17) rfl (fun g1_13 => ?_) (fun g1_13 => ?_)
      · skip
        refine TriOps.gF g1_13 ?_
        refine TriOps.gF g1_13 ?_
        refine TriOps.gF g1_13 ?_
        refine TriOps.q (.pickTh g1_13) ?_
        refine .nil ?_
        refine seqQ_n ?_
        refine .condT ?_
        refine .seq ?_
        refine .region ?_
        refine TriOps.q .assign ?_
        refine .nil ?_
        refine seqQ_n ?_
        refine .ret (seqQ_r (retQ_r _ (.one (.tmp rfl)) (.none _) ?_))
        refine ⟨?_, rfl⟩
        first
          | rw [isAddr_of hsz.1 hsz.2 hse hb, decide_eq_true hpre]
          | rw [isAddr_hash (bAll_false hlt (by clear hp; simp at h3; simp [zHash]; omega))]
          | rw [isAddr_short (by simp at g1_3; omega)]
          | rw [isAddr_short (by simp at g1_8; omega)]
          | rw [isAddr_seen (by simpa using g1_13)]
          | rw [isAddr_pre (by simpa [https] using h1)]
      · skip
        refine TriOps.gT g1_13 ?_
        refine TriOps.q .move ?_
        refine TriOps.gT g1_13 ?_
        have h9 : 9 ≤ s.size := by simp at g1_3; omega
        refine TriOps.q (.sliceStr (s := s) 0 8 rfl ⟨_, rfl⟩ (by omega) (by omega)) ?_
        refine TriOps.gT g1_13 ?_
        refine TriOps.q .neS ?_
        refine TriOps.q (.pickFh g1_13) ?_
        refine .nil ?_
        refine seqQ_n ?_
        refine .cond rfl (fun h1 => ?_) (fun h1 => ?_)
        · skip
          refine .seq ?_
          refine .region ?_
          refine TriOps.q .assign ?_
          refine .nil ?_
          refine seqQ_n ?_
          refine .ret (seqQ_r (retQ_r _ (.one (.tmp rfl)) (.none _) ?_))
          refine ⟨?_, rfl⟩
          first
            | rw [isAddr_of hsz.1 hsz.2 hse hb, decide_eq_true hpre]
            | rw [isAddr_hash (bAll_false hlt (by clear hp; simp at h3; simp [zHash]; omega))]
            | rw [isAddr_short (by simp at g1_3; omega)]
            | rw [isAddr_short (by simp at g1_8; omega)]
            | rw [isAddr_seen (by simpa using g1_13)]
            | rw [isAddr_pre (by simpa [https] using h1)]
        · skip
          have hsz : 9 ≤ s.size ∧ s.size ≤ 200 := by simp at g1_3 g1_8; omega
          have hse : bAll s zSeen = true := by simpa using g1_13
          have hpre : s.extract 0 8 = https := by simpa [https] using h1
          refine .skip ?_
          refine seqQ_n ?_
          refine .seq ?_
          refine .seq ?_
          refine .region ?_
          refine TriOps.q .assign ?_
          refine .nil ?_
          refine seqQ_n ?_
          refine .block ?_
          refine .loop (X := Nat) (fun i => i ≤ s.size ∧ ∀ j (hj : j < s.size), j < i → zHash (s[j]'hj).toNat = true) (fun i => [(0, .string s), (3, .int .i64 (i : Nat))]) (fun _ => []) (fun i => s.size - i) 0 ⟨by omega, by omega⟩ (((EnvLe.nil _).cons rfl).cons rfl) (HLe.refl _) ?_
          rintro i ⟨hi, hp⟩
          refine .seq ?_
          refine .seq ?_
          refine .region ?_
          refine TriOps.q .move ?_
          refine TriOps.q .move ?_
          refine TriOps.q .lenS ?_
          refine TriOps.q .lss ?_
          refine .nil ?_
          refine seqQ_n ?_
          refine .cond rfl (fun h2 => ?_) (fun h2 => ?_)
          · skip
            have hlt : i < s.size := by simp at h2; omega
            refine .skip ?_
            refine seqQ_n ?_
            refine .seq ?_
            refine .block ?_
            refine .seq ?_
            refine .region ?_
            refine TriOps.q .move ?_
            refine TriOps.q .move ?_
            refine TriOps.q (.indexS i hlt) ?_
            refine TriOps.q .eqI ?_
            refine .nil ?_
            refine seqQ_n ?_
            refine .cond rfl (fun h3 => ?_) (fun h3 => ?_)
            · skip
              refine .seq ?_
              refine .region ?_
              refine TriOps.q .assign ?_
              refine .nil ?_
              refine seqQ_n ?_
              refine .ret (blkQ_r (seqQ_r (loopQ_r (blkQ_r (seqQ_r (retQ_r _ (.one (.tmp rfl)) (.none _) ?_))))))
              refine ⟨?_, rfl⟩
              first
                | rw [isAddr_of hsz.1 hsz.2 hse hb, decide_eq_true hpre]
                | rw [isAddr_hash (bAll_false hlt (by clear hp; simp at h3; simp [zHash]; omega))]
                | rw [isAddr_short (by simp at g1_3; omega)]
                | rw [isAddr_short (by simp at g1_8; omega)]
                | rw [isAddr_seen (by simpa using g1_13)]
                | rw [isAddr_pre (by simpa [https] using h1)]
            · skip
              refine .skip ?_
              refine blkQ_n (seqQ_n ?_)
              refine .region ?_
              refine TriOps.q .move ?_
              refine TriOps.q (.inc (n := i) (by omega)) ?_
              refine TriOps.q .assign ?_
              refine .nil ?_
              exact loopQ_i (i + 1) ⟨by omega, fun j hj hji => by
                rcases Nat.lt_or_ge j i with hh | hh
                · exact hp j hj hh
                · obtain rfl : j = i := by omega
                  clear hp
                  simp at h3; simp [zHash]; omega⟩ (by omega) (((EnvLe.nil _).cons rfl).cons rfl) (HLe.refl _)
          · skip
            have hb : bAll s zHash = true := bAll_true fun j hj => hp j hj (by simp at h2; omega)
            refine .exit (seqQ_x (loopQ_x (blkQ_x ?_)))
            refine seqQ_n ?_
            refine .seq ?_
            refine .region ?_
            refine TriOps.q .assign ?_
            refine .nil ?_
            refine seqQ_n ?_
            refine .ret (retQ_r _ (.one (.tmp rfl)) (.none _) ?_)
            refine ⟨?_, rfl⟩
            first
              | rw [isAddr_of hsz.1 hsz.2 hse hb, decide_eq_true hpre]
              | rw [isAddr_hash (bAll_false hlt (by clear hp; simp at h3; simp [zHash]; omega))]
              | rw [isAddr_short (by simp at g1_3; omega)]
              | rw [isAddr_short (by simp at g1_8; omega)]
              | rw [isAddr_seen (by simpa using g1_13)]
              | rw [isAddr_pre (by simpa [https] using h1)]
theorem secret_spec (s : ByteArray) (hs : s.size ≤ 9223372036854775807) (R : Rds) : Spec Try.prog 69 [.string s] R [] fun v H' => v = .bool (isSecret s) ∧ H' = [] := by
  refine Spec.body Try.func69 rfl Try.results69 Try.ntmps69 rfl ?_
  refine .seq ?_
  refine .region ?_
  refine TriOps.q .assign ?_
  refine .nil ?_
  refine seqQ_n ?_
  refine .seq ?_
  refine .region ?_
  refine TriOps.q .move ?_
  refine TriOps.q .eqS ?_
  refine TriOps.q .move ?_
  refine TriOps.split (t := 5) rfl (fun g1_2 => ?_) (fun g1_2 => ?_)
  · skip
    refine TriOps.gF g1_2 ?_
    refine TriOps.gF g1_2 ?_
    refine TriOps.gF g1_2 ?_
    refine TriOps.gF g1_2 ?_
    refine TriOps.gfU rfl ?_
    refine TriOps.gfU rfl ?_
    refine TriOps.gfU rfl ?_
    refine TriOps.gF g1_2 ?_
    refine TriOps.gF g1_2 ?_
    refine TriOps.gfU rfl ?_
    refine TriOps.gfU rfl ?_
    refine TriOps.gF g1_2 ?_
    refine TriOps.q (.pickTh g1_2) ?_
    refine TriOps.q .assign ?_
    refine .nil ?_
    refine seqQ_n ?_
    refine .ret (retQ_r _ (.one (.tmp rfl)) (.none _) ?_)
    refine ⟨?_, rfl⟩
    unfold isSecret
    rw [Value.bool.injEq, Bool.eq_iff_iff]
    simp at *
    simp [*]
    try omega
  · skip
    refine TriOps.gT g1_2 ?_
    refine TriOps.q .move ?_
    refine TriOps.gT g1_2 ?_
    refine TriOps.q .lenS ?_
    refine TriOps.gT g1_2 ?_
    refine TriOps.q .geq ?_
    refine TriOps.gT g1_2 ?_
    refine TriOps.q .move ?_
    refine TriOps.split (t := 9) rfl (fun g1_6 => ?_) (fun g1_6 => ?_)
    · skip
      refine TriOps.gT g1_6 ?_
      refine TriOps.q .move ?_
      refine TriOps.gT g1_6 ?_
      refine TriOps.q .lenS ?_
      refine TriOps.gT g1_6 ?_
      refine TriOps.q .leq ?_
      refine TriOps.gT g1_2 ?_
      refine TriOps.q (.pickTh g1_6) ?_
      refine TriOps.gT g1_2 ?_
      refine TriOps.q .move ?_
      refine TriOps.split (t := 14) rfl (fun g1_11 => ?_) (fun g1_11 => ?_)
      · skip
        refine TriOps.gT g1_11 ?_
        refine TriOps.q .move ?_
        refine TriOps.gT g1_11 ?_
        refine TriOps.callR (seen_spec s hs _) (fun v hv => ?_)
        subst hv
        refine TriOps.gT g1_2 ?_
        refine TriOps.q (.pickTh g1_11) ?_
        refine TriOps.q (.pickFh g1_2) ?_
        refine TriOps.q .assign ?_
        refine .nil ?_
        refine seqQ_n ?_
        refine .ret (retQ_r _ (.one (.tmp rfl)) (.none _) ?_)
        refine ⟨?_, rfl⟩
        unfold isSecret
        rw [Value.bool.injEq, Bool.eq_iff_iff]
        simp at *
        simp [*]
        try omega
      · skip
        refine TriOps.gF g1_11 ?_
        refine TriOps.gF g1_11 ?_
        refine TriOps.gT g1_2 ?_
        refine TriOps.q (.pickFh g1_11) ?_
        refine TriOps.q (.pickFh g1_2) ?_
        refine TriOps.q .assign ?_
        refine .nil ?_
        refine seqQ_n ?_
        refine .ret (retQ_r _ (.one (.tmp rfl)) (.none _) ?_)
        refine ⟨?_, rfl⟩
        unfold isSecret
        rw [Value.bool.injEq, Bool.eq_iff_iff]
        simp at *
        simp [*]
        try omega
    · skip
      refine TriOps.gF g1_6 ?_
      refine TriOps.gF g1_6 ?_
      refine TriOps.gF g1_6 ?_
      refine TriOps.gT g1_2 ?_
      refine TriOps.q (.pickFh g1_6) ?_
      refine TriOps.gT g1_2 ?_
      refine TriOps.q .move ?_
      refine TriOps.gf rfl rfl ?_
      refine TriOps.gf rfl rfl ?_
      refine TriOps.gT g1_2 ?_
      refine TriOps.q .pickF ?_
      refine TriOps.q (.pickFh g1_2) ?_
      refine TriOps.q .assign ?_
      refine .nil ?_
      refine seqQ_n ?_
      refine .ret (retQ_r _ (.one (.tmp rfl)) (.none _) ?_)
      refine ⟨?_, rfl⟩
      unfold isSecret
      rw [Value.bool.injEq, Bool.eq_iff_iff]
      simp at *
      simp [*]
      try omega
end Go.Proofs.Ytlmdgdehjpahiaa
