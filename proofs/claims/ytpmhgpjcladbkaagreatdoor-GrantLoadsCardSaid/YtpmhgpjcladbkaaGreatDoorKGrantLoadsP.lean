/- What the law 'GrantLoads' uses of this prover's engine, facts and walks. No condition. -/
import Derived.Test.YtpmhgpjcladbkaaGreatDoorKGrantLoadsB
import Derived.Test.YtpmhgpjcladbkaaGreatDoorKGrantLoadsG
import Derived.Test.YtpmhgpjcladbkaaGreatDoorKGrantLoadsH
import Derived.Test.YtpmhgpjcladbkaaGreatDoorKGrantLoadsO
set_option linter.unusedVariables false
set_option linter.unusedSimpArgs false
set_option maxRecDepth 4000
namespace Go.Proofs.YtpmhgpjcladbkaaGreatDoor
def zPlain (z : Int) : Bool := (decide (97 ≤ z) && decide (z ≤ 122)) || ((decide (65 ≤ z) && decide (z ≤ 90)) || ((decide (48 ≤ z) && decide (z ≤ 57)) || (z == 45 || (z == 46 || (z == 95 || z == 126)))))
def isVer (s : ByteArray) : Bool := bAll s zPlain && (decide (43 ≤ s.size) && decide (s.size ≤ 128))
def PLB : ByteArray := ⟨#[65, 66, 67, 68, 69, 70, 71, 72, 73, 74, 75, 76, 77, 78, 79, 80, 81, 82, 83, 84, 85, 86, 87, 88, 89, 90, 97, 98, 99, 100, 101, 102, 103, 104, 105, 106, 107, 108, 109, 110, 111, 112, 113, 114, 115, 116, 117, 118, 119, 120, 121, 122, 48, 49, 50, 51, 52, 53, 54, 55, 56, 57, 45, 46, 95, 126]⟩
theorem PLB_idx (c : UInt8) : decide (Lib.indexByte PLB.data.toList c < 0) = !zPlain (c.toNat : Int) := by
  have e : ∀ k : Fin 256, decide (Lib.indexByte PLB.data.toList (UInt8.ofNat k.val) < 0) = !zPlain (((UInt8.ofNat k.val).toNat : Nat) : Int) := by decide +kernel
  have h := e ⟨c.toNat, c.toNat_lt⟩
  simpa using h
theorem sindexByte_spec (s : ByteArray) (c : Int) (R : Rds) : Spec Tryz.prog 187 [.string s, .int .u8 c] R [] fun v H' => v = .int .i64 (Lib.indexByte s.data.toList c.toNat.toUInt8) ∧ H' = [] := by
  refine Spec.body Tryz.func187 rfl Tryz.results187 Tryz.ntmps187 rfl ?_
  refine .seq (.region ?_)
  refine .q .assign ?_
  refine .nil (seqQ_n ?_)
  refine .seq (.region ?_)
  refine .q .move ?_
  refine .q .move ?_
  refine TriOps.callR (Spec.ofCalls (Tryz.stringslite_IndexByte s c) _) (fun v hv => ?_)
  subst hv
  refine .q .assign ?_
  refine .nil (seqQ_n ?_)
  refine .ret (retQ_r _ (.one (.tmp rfl)) (.none _) ?_)
  · exact ⟨rfl, rfl⟩
theorem verifier_spec (s : ByteArray) (hs : s.size ≤ 9223372036854775807) (R : Rds) : Spec Tryz.prog 116 [.string s] R [] fun v H' => v = .bool (isVer s) ∧ H' = [] := by
  refine Spec.body Tryz.func116 rfl Tryz.results116 Tryz.ntmps116 rfl ?_
  refine .seq (.region ?_)
  refine .q .assign ?_
  refine .nil (seqQ_n ?_)
  refine .seq ?_
  refine .seq (.region ?_)
  refine .q .move ?_
  refine .q .lenS ?_
  refine .q .move ?_
  refine .nil (seqQ_n ?_)
  refine .block ?_
  refine .loop (X := Nat) (fun i => i ≤ s.size ∧ ∀ j (hj : j < s.size), j < i → zPlain (s[j]'hj).toNat = true) (fun i => [(0, .string s), (5, .int .i64 (s.size : Nat)), (6, .int .i64 (i : Nat))]) (fun _ => []) (fun i => s.size - i) 0 ⟨Nat.zero_le _, fun _ _ h => by omega⟩ ((((EnvLe.nil _).cons rfl).cons rfl).cons rfl) (HLe.refl _) ?_
  rintro i ⟨hi, hall⟩
  refine .seq (.region ?_)
  refine .q .lss ?_
  refine .nil (seqQ_n ?_)
  refine .seq ?_
  refine .cond rfl (fun h1 => ?_) (fun h1 => ?_)
  have hlt : i < s.size := by have := of_decide_eq_true h1; omega
  refine .skip ?_
  refine seqQ_n ?_
  refine .seq ?_
  refine .block ?_
  refine .seq (.region ?_)
  refine .q .move ?_
  refine .q .assign ?_
  refine .nil (seqQ_n ?_)
  refine .seq (.region ?_)
  refine .q .move ?_
  refine .q .move ?_
  refine .q (.indexS (p := s) i hlt) ?_
  refine TriOps.callR (sindexByte_spec PLB _ _) (fun v hv => ?_)
  subst hv
  have hb : ((s[i]'hlt).toNat : Int).toNat.toUInt8 = s[i]'hlt := by simp
  rw [hb]
  refine .q .lss ?_
  refine .nil (seqQ_n ?_)
  refine .cond rfl (fun h2 => ?_) (fun h2 => ?_)
  have hz := (PLB_idx (s[i]'hlt)).symm.trans h2
  have hbad : bAll s zPlain = false := bAll_false hlt (by simpa using hz)
  refine .seq (.region ?_)
  refine .q .assign ?_
  refine .nil (seqQ_n ?_)
  refine .ret (blkQ_r (seqQ_r (loopQ_r (blkQ_r (seqQ_r (retQ_r _ (.one (.tmp rfl)) (.none _) ?_))))))
  · refine ⟨congrArg Value.bool ?_, rfl⟩
    unfold isVer
    first
      | (rw [hbad]; rfl)
      | (rw [hgood, Bool.true_and]
         have e : decide (43 ≤ s.size) = true := (by
           have := of_decide_eq_true g7_3
           exact decide_eq_true (by omega))
         rw [e, Bool.true_and]
         by_cases h9 : s.size ≤ 128
         · rw [decide_eq_true h9]; exact decide_eq_true (by omega)
         · rw [decide_eq_false h9]; exact decide_eq_false (by omega))
      | (rw [hgood, Bool.true_and]
         have e : decide (43 ≤ s.size) = false := (by
           have := of_decide_eq_false g7_3
           exact decide_eq_false (by omega))
         rw [e]; rfl)
  have hz := (PLB_idx (s[i]'hlt)).symm.trans h2
  refine .skip ?_
  refine blkQ_n (seqQ_n ?_)
  refine .region ?_
  refine .q (.i64 ((i + 1 : Nat) : Int) .add ⟨by omega, by omega, by omega⟩) ?_
  refine .q .move ?_
  refine .nil ?_
  · exact loopQ_i (i + 1) ⟨hlt, fun j hj hj2 => by
      rcases Nat.lt_or_ge j i with h9 | h9
      · exact hall j hj h9
      · obtain rfl : j = i := by omega
        simpa using hz⟩ (by omega) ((((EnvLe.nil _).cons rfl).cons rfl).cons rfl) (HLe.refl _)
  have hgood : bAll s zPlain = true := bAll_true fun j hj => hall j hj (by have := of_decide_eq_false h1; omega)
  refine .exit (seqQ_x (loopQ_x (blkQ_x ?_)))
  refine seqQ_n ?_
  refine .seq (.region ?_)
  refine .q .move ?_
  refine .q .lenS ?_
  refine .q .geq ?_
  refine .q .move ?_
  refine TriOps.split (t := 18) rfl (fun g7_3 => ?_) (fun g7_3 => ?_)
  refine TriOps.gT g7_3 ?_
  refine .q .move ?_
  refine TriOps.gT g7_3 ?_
  refine .q .lenS ?_
  refine TriOps.gT g7_3 ?_
  refine .q .leq ?_
  refine .q (.pickTh g7_3) ?_
  refine .q .assign ?_
  refine .nil (seqQ_n ?_)
  refine .ret (retQ_r _ (.one (.tmp rfl)) (.none _) ?_)
  · refine ⟨congrArg Value.bool ?_, rfl⟩
    unfold isVer
    first
      | (rw [hbad]; rfl)
      | (rw [hgood, Bool.true_and]
         have e : decide (43 ≤ s.size) = true := (by
           have := of_decide_eq_true g7_3
           exact decide_eq_true (by omega))
         rw [e, Bool.true_and]
         by_cases h9 : s.size ≤ 128
         · rw [decide_eq_true h9]; exact decide_eq_true (by omega)
         · rw [decide_eq_false h9]; exact decide_eq_false (by omega))
      | (rw [hgood, Bool.true_and]
         have e : decide (43 ≤ s.size) = false := (by
           have := of_decide_eq_false g7_3
           exact decide_eq_false (by omega))
         rw [e]; rfl)
  refine TriOps.gF g7_3 ?_
  refine TriOps.gF g7_3 ?_
  refine TriOps.gF g7_3 ?_
  refine .q (.pickFh g7_3) ?_
  refine .q .assign ?_
  refine .nil (seqQ_n ?_)
  refine .ret (retQ_r _ (.one (.tmp rfl)) (.none _) ?_)
  · refine ⟨congrArg Value.bool ?_, rfl⟩
    unfold isVer
    first
      | (rw [hbad]; rfl)
      | (rw [hgood, Bool.true_and]
         have e : decide (43 ≤ s.size) = true := (by
           have := of_decide_eq_true g7_3
           exact decide_eq_true (by omega))
         rw [e, Bool.true_and]
         by_cases h9 : s.size ≤ 128
         · rw [decide_eq_true h9]; exact decide_eq_true (by omega)
         · rw [decide_eq_false h9]; exact decide_eq_false (by omega))
      | (rw [hgood, Bool.true_and]
         have e : decide (43 ≤ s.size) = false := (by
           have := of_decide_eq_false g7_3
           exact decide_eq_false (by omega))
         rw [e]; rfl)
/-- A verifier's challenge. -/
def chal (s : ByteArray) : ByteArray := ⟨(e64 (shaOf s.data.toList)).toArray⟩
theorem sha32 (l : List UInt8) : (shaOf l).length = 32 := rfl
theorem data_len (s : ByteArray) : s.data.toList.length = s.size := Array.length_toList
theorem challenge_spec (s : ByteArray) (hs : s.size ≤ 9223372036854775807) (R : Rds) (hg : PC R (.pointer (some ⟨1, 0, none⟩)) (wv ks)) :
    Spec Tryz.prog 117 [.string s] R [] fun v H' => v = .string (if isVer s then chal s else ⟨#[]⟩) ∧ H' = [] := by
  refine Spec.body Tryz.func117 rfl Tryz.results117 Tryz.ntmps117 rfl ?_
  refine .seq (.region ?_)
  refine .q .assign ?_
  refine .nil (seqQ_n ?_)
  refine .seq ?_
  refine .seq (.region ?_)
  refine .q .move ?_
  refine TriOps.callR (verifier_spec s hs _) (fun v hv => ?_)
  subst hv
  refine .q .not ?_
  refine .nil (seqQ_n ?_)
  refine .cond rfl (fun h1 => ?_) (fun h1 => ?_)
  refine .seq (.region ?_)
  refine .q .assign ?_
  refine .nil (seqQ_n ?_)
  refine .ret (seqQ_r (retQ_r _ (.one (.tmp rfl)) (.none _) ?_))
  · first
      | exact ⟨by rw [if_pos hv]; rfl, rfl⟩
      | exact ⟨by rw [if_neg (by simpa using h1)], rfl⟩
  have hv : isVer s = true := by simpa using h1
  have hsz : s.size ≤ 128 := by
    have h9 := hv
    unfold isVer at h9
    simp at h9
    omega
  refine .skip ?_
  refine seqQ_n ?_
  refine .seq (.region ?_)
  refine .q .move ?_
  refine TriOps.strBytes (s := s) (by unfold maxLen; omega) (fun v8 T8 hb => ?_)
  have i8 := hb.oneCell
  refine TriOps.callR (shaof_spec v8 s.data.toList _ (hb.mono fun b o hb' => .inr (by have hb2 : (b, o) ∈ T8 := hb'; simp [hb2])) (by rw [data_len]; omega) hg.rx) (fun v hv' => ?_)
  subst hv'
  refine TriOps.allocA (fun b3 => ?_)
  refine TriOps.storeA rfl rfl ?_ rfl (Nat.le_of_ble_eq_true rfl)
  rw [setL_all (by rfl)]
  refine .nil (seqQ_n ?_)
  refine .seq (.region ?_)
  refine .q (.sliceArr 0 32 rfl rfl rfl (by decide) (by decide) (by decide)) ?_
  refine TriOps.callR (benc_spec _ (shaOf s.data.toList) _ (RS.lits (n := 32) (flat_encU _) (fun _ _ => rfl) (fun x _ u hu => by simp only [encU, List.mem_singleton] at hu; subst hu; rfl)) (by rw [sha32]; omega)) (fun v hv' => ?_)
  subst hv'
  refine .q .assign ?_
  refine .nil (seqQ_n ?_)
  refine .ret (retQ_r _ (.one (.tmp rfl)) (.none _) ?_)
  · first
      | exact ⟨by rw [if_pos hv]; rfl, rfl⟩
      | exact ⟨by rw [if_neg (by simpa using h1)], rfl⟩
def pmatch (s c : ByteArray) : Bool := isVer s && decide (chal s = c)
theorem match_spec (s c : ByteArray) (hs : s.size ≤ 9223372036854775807) (R : Rds) (hg : PC R (.pointer (some ⟨1, 0, none⟩)) (wv ks)) :
    Spec Tryz.prog 66 [.string s, .string c] R [] fun v H' => v = .bool (pmatch s c) ∧ H' = [] := by
  refine Spec.body Tryz.func66 rfl Tryz.results66 Tryz.ntmps66 rfl ?_
  refine .seq (.region ?_)
  refine .q .assign ?_
  refine .nil (seqQ_n ?_)
  refine .seq (.region ?_)
  refine .q .move ?_
  refine TriOps.callR (verifier_spec s hs _) (fun v hv => ?_)
  subst hv
  refine .q .move ?_
  refine TriOps.split (t := 7) rfl (fun g1_2 => ?_) (fun g1_2 => ?_)
  refine TriOps.gT g1_2 ?_
  refine .q .move ?_
  refine TriOps.gT g1_2 ?_
  refine TriOps.callR (challenge_spec s hs _ hg.rx) (fun v hv => ?_)
  subst hv
  refine TriOps.gT g1_2 ?_
  refine .q .move ?_
  refine TriOps.gT g1_2 ?_
  refine .q .eqS ?_
  refine .q (.pickTh g1_2) ?_
  refine .q .assign ?_
  refine .nil (seqQ_n ?_)
  refine .ret (retQ_r _ (.one (.tmp rfl)) (.none _) ?_)
  · refine ⟨congrArg Value.bool ?_, rfl⟩
    unfold pmatch
    first
      | (have h9 : isVer s = true := g1_2
         simp [h9])
      | (have h9 : isVer s = false := g1_2
         simp [h9])
  refine TriOps.gF g1_2 ?_
  refine TriOps.gF g1_2 ?_
  refine TriOps.gF g1_2 ?_
  refine TriOps.gF g1_2 ?_
  refine .q (.pickFh g1_2) ?_
  refine .q .assign ?_
  refine .nil (seqQ_n ?_)
  refine .ret (retQ_r _ (.one (.tmp rfl)) (.none _) ?_)
  · refine ⟨congrArg Value.bool ?_, rfl⟩
    unfold pmatch
    first
      | (have h9 : isVer s = true := g1_2
         simp [h9])
      | (have h9 : isVer s = false := g1_2
         simp [h9])
theorem rchallenge_spec (s : ByteArray) (hs : s.size ≤ 100000) (R : Rds) : Spec Tryz.prog 56 [.string s] R [] fun v H' => v = .string (chal s) ∧ H' = [] := by
  obtain ⟨l, hl⟩ : ∃ l, l = shaOf s.data.toList := ⟨_, rfl⟩
  have hl32 : l.length = 32 := by rw [hl]; rfl
  have hch : chal s = ⟨(e64 l).toArray⟩ := by rw [hl]; rfl
  refine Spec.segs (H' := [[]]) (by simp) ?_
  refine Spec.body Tryz.func56 rfl Tryz.results56 Tryz.ntmps56 rfl ?_
  refine .seq (.region ?_)
  refine .q .assign ?_
  refine .nil (seqQ_n ?_)
  refine .seq (.region ?_)
  refine .q .move ?_
  refine TriOps.strBytes (s := s) (by unfold maxLen; omega) (fun v8 T8 hb => ?_)
  have i8 := hb.oneCell
  refine TriOps.callR (rshaof_spec v8 s.data.toList _ (hb.mono fun b o hb' => .inr (by have hb2 : (b, o) ∈ T8 := hb'; simp [hb2])) (by rw [data_len]; omega)) (fun v hv' => ?_)
  subst hv'
  rw [← hl]
  refine TriOps.allocA (fun b3 => ?_)
  refine TriOps.storeA rfl rfl ?_ (by rw [uv_len, hl32]) (by rw [uv_len, hl32]; exact Nat.le_refl _)
  rw [setL_all (by rw [uv_len, hl32]; rfl)]
  refine .nil (seqQ_n ?_)
  refine .seq (.region ?_)
  refine .q .assign ?_
  refine .nil (seqQ_n ?_)
  refine .seq ?_
  refine .seq (.region ?_)
  refine .q .assign ?_
  refine .nil (seqQ_n ?_)
  refine .block ?_
  refine .loop (X := Nat × Value × Seg) (fun y => y.1 ≤ 32 ∧ OS 5 1 encU y.2.1 (l.take y.1) y.2.2) (fun y => [(3, .pointer (some ⟨b3, 0, none⟩)), (4, y.2.1), (5, .int .i64 (y.1 : Nat))]) (fun y => [[(b3, .cells (uv l).toArray 175 (0, 0))], y.2.2]) (fun y => 32 - y.1) (0, .slice none 0 0, []) ⟨Nat.zero_le _, OS.nil⟩ ((((EnvLe.nil _).cons rfl).cons rfl).cons rfl) (HLe.pick [0, 1] _) ?_
  rintro ⟨i, v4, T4⟩ ⟨hi, hO⟩
  simp only at hi hO ⊢
  have i4 := hO.oneCell
  refine .seq ?_
  refine .seq (.region ?_)
  refine .q .move ?_
  refine .q .lss ?_
  refine .nil (seqQ_n ?_)
  refine .cond rfl (fun h1 => ?_) (fun h1 => ?_)
  have hlt : i < 32 := by have := of_decide_eq_true h1; omega
  obtain ⟨c, hc⟩ : ∃ c, l[i]? = some c := ⟨_, List.getElem?_eq_getElem (by omega)⟩
  refine .skip ?_
  refine seqQ_n ?_
  refine .seq ?_
  refine .block ?_
  refine .region ?_
  refine .q .move ?_
  refine .q .move ?_
  refine .q (.indexArr1 i hlt rfl rfl rfl) ?_
  refine .q (.load1 rfl (drop_at (uv_get hc))) ?_
  refine TriOps.buildSlice11 (fun b17 => ?_)
  refine TriOps.append hO (RS.lits (xs := [c]) rfl (by simp [encU]) (by simp [encU, oneCell])) (by simp; omega) (fun v5 T5 hO5 => ?_)
  rw [show l.take i ++ [c] = l.take (i + 1) by rw [List.take_add_one, hc]; rfl] at hO5
  refine .q .assign ?_
  refine .nil ?_
  refine blkQ_n (seqQ_n ?_)
  refine .region ?_
  refine .q .move ?_
  refine .q (.i64 ((i + 1 : Nat) : Int) .add ⟨by omega, by omega, by omega⟩) ?_
  refine .q .assign ?_
  refine .nil ?_
  · exact loopQ_i (i + 1, v5, T5) ⟨hlt, hO5⟩ (by simp only; omega) ((((EnvLe.nil _).cons rfl).cons rfl).cons rfl) (HLe.pick [1, 1] _)
  have hi32 : i = 32 := by have := of_decide_eq_false h1; omega
  subst hi32
  rw [List.take_of_length_le (by omega)] at hO
  refine .exit (seqQ_x (loopQ_x (blkQ_x ?_)))
  refine seqQ_n ?_
  refine .seq (.region ?_)
  refine .q .move ?_
  refine TriOps.callR (renc_spec v4 l _ (hO.rs fun p hp => .inr (by simp [hp])) (by omega)) (fun v hv' => ?_)
  subst hv'
  refine .q .assign ?_
  refine .nil (seqQ_n ?_)
  refine .ret (retQ_r _ (.one (.tmp rfl)) (.none _) ?_)
  · exact ⟨by rw [hch], rfl⟩
end Go.Proofs.YtpmhgpjcladbkaaGreatDoor
set_option linter.unusedVariables false
set_option maxRecDepth 4000
namespace Go.Proofs.YtpmhgpjcladbkaaGreatDoor
def Cod.mark (t : Cod) : Cod := ⟨t.text, t.client, t.user, t.uri, t.scopes, t.chall, t.expires, t.family, true⟩
def gredeem (A : List (ByteArray × Cod)) (k client uri ver : ByteArray) (now : Int) : Cod × Int × List (ByteArray × Cod) :=
  match mget k A with
  | none => (Cod.zero, 18, A)
  | some t => if t.client ≠ client then (Cod.zero, 18, A) else if t.used then (t, 10, A) else if t.expires ≤ now ∨ t.uri ≠ uri ∨ pmatch ver t.chall = false then (Cod.zero, 18, A) else (t.mark, 0, kset k t.mark A)
theorem gredeem_spec (g : Nat) (C : List (Who × List ByteArray)) (A : List (ByteArray × Cod)) (T : Seg) (h : GI g C A T) (k client uri ver : ByteArray) (now : Int) (hv : ver.size ≤ 9223372036854775807) (R : Rds) (hg : PC R (.pointer (some ⟨1, 0, none⟩)) (wv ks)) :
    Spec Tryz.prog 22 [.pointer (some ⟨g, 0, none⟩), .string k, .string client, .string uri, .string ver, .int .i64 now] R [T] fun v H' => ∃ T' Tn, H' = [T', Tn] ∧ ∃ w, v = .tuple [.agg (encG (w, (gredeem A k client uri ver now).1)).toArray, .int .i64 (gredeem A k client uri ver now).2.1].toArray ∧ CodR (sg0 Tn) (w, (gredeem A k client uri ver now).1) ∧ GI g C (gredeem A k client uri ver now).2.2 T' := by
  have hAn := h.nd
  have h0 := h
  obtain ⟨Td, _, rfl, vc, MC, vm, M, q, Tc, Tm, Tq, rfl, ⟨hMC, hIC, hC⟩, hM, hI, hA, hQ⟩ := h
  obtain ⟨bm, rfl⟩ : ∃ b, vm = .map (some b) := by obtain ⟨b, es, clock, h1, _⟩ := hM; exact ⟨b, h1⟩
  have ic : One vc := ⟨by obtain ⟨b, es, clock, h1, _⟩ := hMC; subst h1; rfl⟩
  obtain ⟨w0, t0, hr0, hc0, hf0, hs0, hz0, hu0⟩ := gi_get hM.nd hI hA k
  have i0 : Ones (encG (w0, t0)) := ⟨hc0.ones⟩
  have iw : One w0 := hc0.oneCell
  have hsm : (mget k A).isSome = true → mget k A = some t0 := fun e => by
    obtain ⟨u, hu⟩ := Option.isSome_iff_exists.1 e
    rw [hu, (hu0 u hu).1]
  refine Spec.segs (H' := [[(g, .cells [vc, .map (some bm), .pointer (some ⟨q, 0, none⟩)].toArray 53 (0, 0))], Tc, Tm, Tq, Td]) (by simp) ?_
  refine Spec.body Tryz.func22 rfl Tryz.results22 Tryz.ntmps22 rfl ?_
  refine .seq (.region ?_)
  refine TriOps.allocA (fun b12 => ?_)
  refine .q .assign ?_
  refine .nil (seqQ_n ?_)
  refine .seq ?_
  refine .seq (.region ?_)
  refine .q .move ?_
  refine TriOps.callR (gok_spec g bm _ _ _) (fun v hv => ?_)
  subst hv
  refine .q .not ?_
  refine .nil (seqQ_n ?_)
  refine .condF ?_
  refine .skip ?_
  refine seqQ_n ?_
  refine .seq (.region ?_)
  refine .q .move ?_
  refine .q (.nilCheck rfl) ?_
  refine .q (.fieldAddr rfl) ?_
  refine .q (.load1 rfl) ?_
  refine .q .move ?_
  refine .q (Quiet.cast (v' := .tuple [.agg (encG (w0, t0)).toArray, .bool (mget k A).isSome].toArray) (.lookup2 hM.rx rfl (show _ = some (Value.string k) from rfl)) (by rw [← hs0, ← hr0]; rfl)) ?_
  refine .q .move ?_
  refine .q .extract ?_
  refine .q .extract ?_
  refine TriOps.allocA (fun b14 => ?_)
  refine TriOps.storeA rfl rfl ?_
  refine .q .assign ?_
  refine .nil (seqQ_n ?_)
  refine .seq ?_
  refine .block ?_
  refine .seq (.region ?_)
  refine .q .move ?_
  refine .q .not ?_
  refine .q .move ?_
  refine TriOps.split (t := 32) rfl (fun g4_2 => ?_) (fun g4_2 => ?_)
  refine TriOps.gF g4_2 ?_
  refine TriOps.gF g4_2 ?_
  refine TriOps.gF g4_2 ?_
  refine TriOps.gF g4_2 ?_
  refine .q (.pickTh g4_2) ?_
  refine .q .assign ?_
  refine .nil (seqQ_n ?_)
  refine .condT ?_
  refine .seq (.region ?_)
  refine .q .bld ?_
  refine TriOps.storeA rfl rfl ?_
  refine .q .assign ?_
  refine .nil (seqQ_n ?_)
  refine .ret (blkQ_r (seqQ_r (retQ_r _ (.two (.cellA rfl rfl) (.tmp rfl)) ((HLe.pick [2, 2, 2, 2, 2] _).trans (HLe.ofPerm (H' := [((g, .cells [vc, .map (some bm), .pointer (some ⟨q, 0, none⟩)].toArray 53 (0, 0)) :: (Tc ++ (Tm ++ Tq))) ++ Td, []]) (by simp [take, dropAt]))) ?_)))
  · have hm : mget k A = none := by simpa using g4_2
    have e : gredeem A k client uri ver now = (Cod.zero, 18, A) := by unfold gredeem; rw [hm]
    rw [e]; exact ⟨_, _, rfl, .slice none 0 0, rfl, CodR.zero _, h0⟩
  refine TriOps.gT g4_2 ?_
  refine .q (.fieldAddr rfl) ?_
  refine TriOps.gT g4_2 ?_
  refine .q (.load1 rfl) ?_
  refine TriOps.gT g4_2 ?_
  refine .q .move ?_
  refine TriOps.gT g4_2 ?_
  refine .q .neS ?_
  refine .q (.pickFh g4_2) ?_
  refine .q .assign ?_
  refine .nil (seqQ_n ?_)
  refine .cond rfl (fun h2 => ?_) (fun h2 => ?_)
  refine .seq (.region ?_)
  refine .q .bld ?_
  refine TriOps.storeA rfl rfl ?_
  refine .q .assign ?_
  refine .nil (seqQ_n ?_)
  refine .ret (blkQ_r (seqQ_r (retQ_r _ (.two (.cellA rfl rfl) (.tmp rfl)) ((HLe.pick [2, 2, 2, 2, 2] _).trans (HLe.ofPerm (H' := [((g, .cells [vc, .map (some bm), .pointer (some ⟨q, 0, none⟩)].toArray 53 (0, 0)) :: (Tc ++ (Tm ++ Tq))) ++ Td, []]) (by simp [take, dropAt]))) ?_)))
  · have hm := hsm (by simpa using g4_2)
    have e : gredeem A k client uri ver now = (Cod.zero, 18, A) := by unfold gredeem; rw [hm]; simp only; rw [if_pos (by simpa using h2)]
    rw [e]; exact ⟨_, _, rfl, .slice none 0 0, rfl, CodR.zero _, h0⟩
  refine .seq (.region ?_)
  refine .q (.fieldAddr rfl) ?_
  refine .q (.load1 rfl) ?_
  refine .q .assign ?_
  refine .nil (seqQ_n ?_)
  refine .cond rfl (fun h3 => ?_) (fun h3 => ?_)
  refine .seq (.region ?_)
  refine .q (.loadA rfl) ?_
  refine TriOps.callN (gcopied_spec w0 t0 _ (hc0.mono fun b o hb => .inr (by have hb' : (b, o) ∈ Td := hb.1; simp [hb'])) hf0) (fun v T1 hv => ?_)
  obtain ⟨w1, rfl, hc1⟩ := hv
  have i1 : Ones (encG (w1, t0)) := ⟨hc1.ones⟩
  refine TriOps.storeA rfl rfl ?_
  refine .q .assign ?_
  refine .nil (seqQ_n ?_)
  refine .ret (blkQ_r (seqQ_r (retQ_r _ (.two (.cellA rfl rfl) (.tmp rfl)) ((HLe.pick [3, 3, 3, 3, 3, 0] _).trans (HLe.ofPerm (H' := [((g, .cells [vc, .map (some bm), .pointer (some ⟨q, 0, none⟩)].toArray 53 (0, 0)) :: (Tc ++ (Tm ++ Tq))) ++ Td, T1]) (by simp [take, dropAt]))) ?_)))
  · have hm := hsm (by simpa using g4_2)
    have hcl : ¬ t0.client ≠ client := by simpa using h2
    have e : gredeem A k client uri ver now = (t0, 10, A) := by unfold gredeem; rw [hm]; simp only; rw [if_neg hcl, if_pos h3]
    rw [e]; exact ⟨_, _, rfl, w1, rfl, hc1, h0⟩
  refine .seq (.region ?_)
  refine .q (.fieldAddr rfl) ?_
  refine .q (.load1 rfl) ?_
  refine .q .move ?_
  refine .q .leq ?_
  refine .q .move ?_
  refine TriOps.split (t := 49) rfl (fun g8_4 => ?_) (fun g8_4 => ?_)
  refine TriOps.gF g8_4 ?_
  refine TriOps.gF g8_4 ?_
  refine TriOps.gF g8_4 ?_
  refine TriOps.gF g8_4 ?_
  refine .q (.pickTh g8_4) ?_
  refine .q .move ?_
  refine TriOps.gf rfl rfl ?_
  refine TriOps.gf rfl rfl ?_
  refine TriOps.gf rfl rfl ?_
  refine TriOps.gf rfl rfl ?_
  refine TriOps.gf rfl rfl ?_
  refine .q .pickT ?_
  refine .q .assign ?_
  refine .nil (seqQ_n ?_)
  refine .condT ?_
  refine .seq (.region ?_)
  refine .q .bld ?_
  refine TriOps.storeA rfl rfl ?_
  refine .q .assign ?_
  refine .nil (seqQ_n ?_)
  refine .ret (blkQ_r (seqQ_r (retQ_r _ (.two (.cellA rfl rfl) (.tmp rfl)) ((HLe.pick [2, 2, 2, 2, 2] _).trans (HLe.ofPerm (H' := [((g, .cells [vc, .map (some bm), .pointer (some ⟨q, 0, none⟩)].toArray 53 (0, 0)) :: (Tc ++ (Tm ++ Tq))) ++ Td, []]) (by simp [take, dropAt]))) ?_)))
  · have hm := hsm (by simpa using g4_2)
    have hcl : ¬ t0.client ≠ client := by simpa using h2
    have e : gredeem A k client uri ver now = (Cod.zero, 18, A) := by unfold gredeem; rw [hm]; simp only; rw [if_neg hcl, if_neg (by rw [h3]; simp), if_pos (.inl (by simpa using g8_4))]
    rw [e]; exact ⟨_, _, rfl, .slice none 0 0, rfl, CodR.zero _, h0⟩
  refine TriOps.gT g8_4 ?_
  refine .q (.fieldAddr rfl) ?_
  refine TriOps.gT g8_4 ?_
  refine .q (.load1 rfl) ?_
  refine TriOps.gT g8_4 ?_
  refine .q .move ?_
  refine TriOps.gT g8_4 ?_
  refine .q .neS ?_
  refine .q (.pickFh g8_4) ?_
  refine .q .move ?_
  refine TriOps.split (t := 55) rfl (fun g8_10 => ?_) (fun g8_10 => ?_)
  refine TriOps.gF g8_10 ?_
  refine TriOps.gF g8_10 ?_
  refine TriOps.gF g8_10 ?_
  refine TriOps.gF g8_10 ?_
  refine TriOps.gF g8_10 ?_
  refine .q (.pickTh g8_10) ?_
  refine .q .assign ?_
  refine .nil (seqQ_n ?_)
  refine .condT ?_
  refine .seq (.region ?_)
  refine .q .bld ?_
  refine TriOps.storeA rfl rfl ?_
  refine .q .assign ?_
  refine .nil (seqQ_n ?_)
  refine .ret (blkQ_r (seqQ_r (retQ_r _ (.two (.cellA rfl rfl) (.tmp rfl)) ((HLe.pick [2, 2, 2, 2, 2] _).trans (HLe.ofPerm (H' := [((g, .cells [vc, .map (some bm), .pointer (some ⟨q, 0, none⟩)].toArray 53 (0, 0)) :: (Tc ++ (Tm ++ Tq))) ++ Td, []]) (by simp [take, dropAt]))) ?_)))
  · have hm := hsm (by simpa using g4_2)
    have hcl : ¬ t0.client ≠ client := by simpa using h2
    have e : gredeem A k client uri ver now = (Cod.zero, 18, A) := by unfold gredeem; rw [hm]; simp only; rw [if_neg hcl, if_neg (by rw [h3]; simp), if_pos (.inr (.inl (by simpa using g8_10)))]
    rw [e]; exact ⟨_, _, rfl, .slice none 0 0, rfl, CodR.zero _, h0⟩
  refine TriOps.gT g8_10 ?_
  refine .q .move ?_
  refine TriOps.gT g8_10 ?_
  refine .q (.fieldAddr rfl) ?_
  refine TriOps.gT g8_10 ?_
  refine .q (.load1 rfl) ?_
  refine TriOps.gT g8_10 ?_
  refine TriOps.callR (match_spec ver t0.chall hv _ hg.rx) (fun v hv9 => ?_)
  subst hv9
  refine TriOps.gT g8_10 ?_
  refine .q .not ?_
  refine .q (.pickFh g8_10) ?_
  refine .q .assign ?_
  refine .nil (seqQ_n ?_)
  refine .cond rfl (fun h4 => ?_) (fun h4 => ?_)
  refine .seq (.region ?_)
  refine .q .bld ?_
  refine TriOps.storeA rfl rfl ?_
  refine .q .assign ?_
  refine .nil (seqQ_n ?_)
  refine .ret (blkQ_r (seqQ_r (retQ_r _ (.two (.cellA rfl rfl) (.tmp rfl)) ((HLe.pick [2, 2, 2, 2, 2] _).trans (HLe.ofPerm (H' := [((g, .cells [vc, .map (some bm), .pointer (some ⟨q, 0, none⟩)].toArray 53 (0, 0)) :: (Tc ++ (Tm ++ Tq))) ++ Td, []]) (by simp [take, dropAt]))) ?_)))
  · have hm := hsm (by simpa using g4_2)
    have hcl : ¬ t0.client ≠ client := by simpa using h2
    have e : gredeem A k client uri ver now = (Cod.zero, 18, A) := by unfold gredeem; rw [hm]; simp only; rw [if_neg hcl, if_neg (by rw [h3]; simp), if_pos (.inr (.inr (by simpa using h4)))]
    rw [e]; exact ⟨_, _, rfl, .slice none 0 0, rfl, CodR.zero _, h0⟩
  refine .skip ?_
  refine blkQ_n (seqQ_n ?_)
  refine .seq (.region ?_)
  refine .q (.fieldAddr rfl) ?_
  refine TriOps.store1 rfl rfl ?_
  refine .nil (seqQ_n ?_)
  refine .seq ?_
  refine .region_tail 6 mixed (by kernel_rfl) ?_
  conv => arg 6; dsimp only [List.take]
  refine .q .move ?_
  refine .q (.nilCheck rfl) ?_
  refine .q (.fieldAddr rfl) ?_
  refine .q (.load1 rfl) ?_
  refine .q .move ?_
  refine .q (.loadA rfl) ?_
  refine .nil ?_
  refine TriOps.update (u := ((w0, t0.mark) : GP)) hM rfl (show _ = some (Value.string k) from rfl) rfl (fun Tm2 hM2 _ => ?_)
  refine .nil (seqQ_n ?_)
  refine .seq (.region ?_)
  refine .q (.loadA rfl) ?_
  refine TriOps.callN (gcopied_spec w0 t0.mark _ (CodR.mono (p := (w0, t0)) hc0 fun b o hb => .inr (by have hb' : (b, o) ∈ Td := hb.1; simp [hb'])) hf0) (fun v T1 hv => ?_)
  obtain ⟨w1, rfl, hc1⟩ := hv
  have i1 : Ones (encG (w1, t0.mark)) := ⟨hc1.ones⟩
  refine TriOps.storeA rfl rfl ?_
  refine .q .assign ?_
  refine .nil (seqQ_n ?_)
  refine .ret (retQ_r _ (.two (.cellA rfl rfl) (.tmp rfl)) ((HLe.pick [3, 3, 3, 3, 3, 0] _).trans (HLe.ofPerm (H' := [((g, .cells [vc, .map (some bm), .pointer (some ⟨q, 0, none⟩)].toArray 53 (0, 0)) :: (Tc ++ (Tm2 ++ Tq))) ++ Td, T1]) (by simp [take, dropAt]))) ?_)
  · have hm := hsm (by simpa using g4_2)
    have hcl : ¬ t0.client ≠ client := by simpa using h2
    have hno : ¬ (t0.expires ≤ now ∨ t0.uri ≠ uri ∨ pmatch ver t0.chall = false) := by
      have q1 : ¬ t0.expires ≤ now := by simpa using g8_4
      have q2 : t0.uri = uri := by simpa using g8_10
      have q3 : pmatch ver t0.chall = true := by simpa using h4
      simp [q2, q3]; omega
    have e : gredeem A k client uri ver now = (t0.mark, 0, kset k t0.mark A) := by unfold gredeem; rw [hm]; simp only; rw [if_neg hcl, if_neg (by rw [h3]; simp), if_neg hno]
    have hk : k = t0.text := (hu0 t0 hm).2.1.symm
    rw [e]
    refine ⟨_, _, rfl, w1, rfl, hc1, Td, _, rfl, _, MC, _, _, q, Tc, Tm2, Tq, rfl, ⟨hMC, hIC, hC⟩, hM2, fun p hp => ?_, ?_, ?_⟩
    · rcases mset_mem hM.nd hp with hp | rfl
      · exact hI p hp
      · exact ⟨hk, CodR.mono (p := (w0, t0)) hc0 fun b o hb => hb, hf0⟩
    · exact (kmap_perm (mset_perm hM.nd)).trans (by rw [kmap_set]; exact kset_perm hA)
    · refine hQ.perm ?_
      rw [kmap_set]
      exact (kset_same (by rw [kmap_keys]; exact hAn) (by rw [kmap_get, hm]; rfl)).symm
end Go.Proofs.YtpmhgpjcladbkaaGreatDoor
